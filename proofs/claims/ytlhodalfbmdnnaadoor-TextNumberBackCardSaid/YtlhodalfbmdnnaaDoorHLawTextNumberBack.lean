/- the walk of jalousielaw01.TextNumberBack -/
import Derived.Test.YtlhodalfbmdnnaaDoorPx0
import Derived.Test.YtlhodalfbmdnnaaDoorHNumBack
import Derived.Test.YtlhodalfbmdnnaaDoorHLive01
namespace Go.Proofs.YtlhodalfbmdnnaaDoor.P
open Go.RowKit Go.Proofs.YtlhodalfbmdnnaaDoorW.PrintWords Go.Proofs.YtlhodalfbmdnnaaDoorW.PrintLast Go.Proofs.YtlhodalfbmdnnaaDoorW.PrintMore
set_option linter.unusedVariables false
set_option linter.unusedSimpArgs false

set_option maxHeartbeats 4000000 in
set_option maxRecDepth 100000 in
theorem TextNumberBack.walk (s : ByteArray) (n : Int) (w : World) :
    Calls Tryd.prog 4 #[.string s, .int .i64 n] w fun e w' => e = .returned (.bool true) ∧ Below w.heap.size w w' := by
  obtain ⟨b, has, hb⟩ : ∃ b has, numOf s = (b, has) := ⟨_, _, rfl⟩
  have H2 := Lib.hid ((text_Number_tells s).trans (congrArg some hb))
  have hback : has = true → decOf b = s := fun e => dec_numOf s b (by rw [hb, e])
  have H0 := Lib.hid (show text_Decimal.f n = some (decOf n) from rfl)
  have HD := Lib.hid (show text_Decimal.f b = some (decOf b) from rfl)
  clear hb
  by_cases hn : 0 ≤ n ∧ n ≤ 2147483647
  · have d1 : decide (0 ≤ n) = true := decide_eq_true hn.1
    have d2 : decide (n ≤ 2147483647) = true := decide_eq_true hn.2
    have H1 := Lib.hid ((text_Number_tells (decOf n)).trans (congrArg some (show numOf (decOf n) = (n, true) by
      obtain ⟨m, rfl⟩ := Int.eq_ofNat_of_zero_le hn.1
      exact numOf_dec m (by omega))))
    clear hn
    cases has with
    | false =>
      clear hback
      go_enter Tryd.func4, Tryd.ntmps4
      go_wp2_with (first
        | (go_at_call 19; (with_reducible refine (text_Decimal.calls n _ _ H0.out).mono ?_); rintro e w1 ⟨rfl, hb⟩; have HB0 := Lib.hid hb; clear hb)
        | (go_at_call 16; (with_reducible refine (text_Number.calls _ (decOf n) _ _ _ H1.out).mono ?_); rintro e w2 ⟨rfl, ⟨n1, rfl⟩⟩)
        | (go_at_call 16; (with_reducible refine (text_Number.calls _ s _ _ _ H2.out).mono ?_); rintro e w3 ⟨rfl, ⟨n2, rfl⟩⟩)
        | (go_at_call 18; (refine (jalousielaw01_live.calls true _ rfl).mono ?_); rintro e w4 ⟨rfl, hb⟩; have HB1 := Lib.hid (below_step (show Below w.heap.size w _ from by repeat (first | exact HB0.out | apply pw_below_drewN)) hb); clear hb))
      go_ret
      exact ⟨rfl, HB1.out⟩
    | true =>
      have HS := Lib.hid (hback rfl)
      rw [HS.out] at HD
      clear hback
      go_enter Tryd.func4, Tryd.ntmps4
      go_wp2_with (first
        | (go_at_call 19; (with_reducible refine (text_Decimal.calls n _ _ H0.out).mono ?_); rintro e w1 ⟨rfl, hb⟩; have HB0 := Lib.hid hb; clear hb; clear H0)
        | (go_at_call 16; (with_reducible refine (text_Number.calls _ (decOf n) _ _ _ H1.out).mono ?_); rintro e w2 ⟨rfl, ⟨n1, rfl⟩⟩)
        | (go_at_call 16; (with_reducible refine (text_Number.calls _ s _ _ _ H2.out).mono ?_); rintro e w3 ⟨rfl, ⟨n2, rfl⟩⟩)
        | (go_at_call 18; (refine (jalousielaw01_live.calls true _ rfl).mono ?_); rintro e w4 ⟨rfl, hb⟩; have HB1 := Lib.hid (below_step (show Below w.heap.size w _ from by repeat (first | exact HB0.out | apply pw_below_drewN)) hb); clear hb)
        | (go_at_call 19; (with_reducible refine (text_Decimal.calls b _ _ HD.out).mono ?_); rintro e w5 ⟨rfl, hb⟩; have HB2 := Lib.hid (below_step HB1.out hb); clear hb))
      go_ret
      exact ⟨rfl, HB2.out⟩
  · have H1 := Lib.hid ((text_Number_tells (decOf n)).trans (congrArg some (numOf_out n (by omega))))
    have hq : (0 ≤ n → decide (n ≤ 2147483647) = false) := fun h => decide_eq_false (by omega)
    cases has with
    | false =>
      clear hback
      by_cases h0 : 0 ≤ n
      all_goals
        have d1 := (rfl : decide (0 ≤ n) = decide (0 ≤ n))
        first
          | (have d2 := hq h0; have d1 : decide (0 ≤ n) = true := decide_eq_true h0; clear hq hn)
          | (have d1 : decide (0 ≤ n) = false := decide_eq_false h0; clear hq hn)
        go_enter Tryd.func4, Tryd.ntmps4
        go_wp2_with (first
          | (go_at_call 19; (with_reducible refine (text_Decimal.calls n _ _ H0.out).mono ?_); rintro e w1 ⟨rfl, hb⟩; have HB0 := Lib.hid hb; clear hb)
          | (go_at_call 16; (with_reducible refine (text_Number.calls _ (decOf n) _ _ _ H1.out).mono ?_); rintro e w2 ⟨rfl, ⟨n1, rfl⟩⟩)
          | (go_at_call 16; (with_reducible refine (text_Number.calls _ s _ _ _ H2.out).mono ?_); rintro e w3 ⟨rfl, ⟨n2, rfl⟩⟩)
          | (go_at_call 18; (refine (jalousielaw01_live.calls true _ rfl).mono ?_); rintro e w4 ⟨rfl, hb⟩; have HB1 := Lib.hid (below_step (show Below w.heap.size w _ from by repeat (first | exact HB0.out | apply pw_below_drewN)) hb); clear hb))
        go_ret
        exact ⟨rfl, HB1.out⟩
    | true =>
      have HS := Lib.hid (hback rfl)
      rw [HS.out] at HD
      clear hback
      by_cases h0 : 0 ≤ n
      all_goals
        first
          | (have d2 := hq h0; have d1 : decide (0 ≤ n) = true := decide_eq_true h0; clear hq hn)
          | (have d1 : decide (0 ≤ n) = false := decide_eq_false h0; clear hq hn)
        go_enter Tryd.func4, Tryd.ntmps4
        go_wp2_with (first
          | (go_at_call 19; (with_reducible refine (text_Decimal.calls n _ _ H0.out).mono ?_); rintro e w1 ⟨rfl, hb⟩; have HB0 := Lib.hid hb; clear hb; clear H0)
          | (go_at_call 16; (with_reducible refine (text_Number.calls _ (decOf n) _ _ _ H1.out).mono ?_); rintro e w2 ⟨rfl, ⟨n1, rfl⟩⟩)
          | (go_at_call 16; (with_reducible refine (text_Number.calls _ s _ _ _ H2.out).mono ?_); rintro e w3 ⟨rfl, ⟨n2, rfl⟩⟩)
          | (go_at_call 18; (refine (jalousielaw01_live.calls true _ rfl).mono ?_); rintro e w4 ⟨rfl, hb⟩; have HB1 := Lib.hid (below_step (show Below w.heap.size w _ from by repeat (first | exact HB0.out | apply pw_below_drewN)) hb); clear hb)
          | (go_at_call 19; (with_reducible refine (text_Decimal.calls b _ _ HD.out).mono ?_); rintro e w5 ⟨rfl, hb⟩; have HB2 := Lib.hid (below_step HB1.out hb); clear hb))
        go_ret
        exact ⟨rfl, HB2.out⟩
end Go.Proofs.YtlhodalfbmdnnaaDoor.P

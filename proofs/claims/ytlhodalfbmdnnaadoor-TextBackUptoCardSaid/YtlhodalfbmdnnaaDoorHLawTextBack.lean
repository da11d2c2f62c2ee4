/- the walk of jalousielaw01.TextBack -/
import Derived.Test.YtlhodalfbmdnnaaDoorPx0
import Derived.Test.YtlhodalfbmdnnaaDoorHLines
import Derived.Test.YtlhodalfbmdnnaaDoorHRefRight
import Derived.Test.YtlhodalfbmdnnaaDoorHLineLaws
import Derived.Test.YtlhodalfbmdnnaaDoorHLive01
import Derived.Deep.RegionWith
namespace Go.Proofs.YtlhodalfbmdnnaaDoor.P
open Go.RowKit Go.Proofs.YtlhodalfbmdnnaaDoorW.PrintWords Go.Proofs.YtlhodalfbmdnnaaDoorW.PrintLast Go.Proofs.YtlhodalfbmdnnaaDoorW.PrintMore
set_option linter.unusedVariables false
set_option linter.unusedSimpArgs false

theorem join_back_length (l0 : List Int) : (joinOf (linesOf l0)).length = l0.length := by
  have := congrArg (fun s : ByteArray => s.data.toList.length) (back_join l0)
  simpa [strOfNums] using this

set_option maxHeartbeats 8000000 in
set_option maxRecDepth 100000 in
theorem TextBack.walk (A0 : Option Addr) (c0 : Nat) (l0 : List Int) (A1 : Option Addr) (c1 : Nat) (l1 : List S59) (w : World)
    (hr0 : Kd.C (Kd.int .u8) w A0 l0.length l0) (hc0 : l0.length ≤ c0) (hg0 : ∀ z ∈ l0, 0 ≤ z ∧ z < 256) (hs0 : l0.length < 2000000) (hr1 : Kd.C k59 w A1 l1.length l1) (hc1 : l1.length ≤ c1) (hs1 : (l1.map fun z => z.f0.size + 1 + 1 + 1).sum < 2000000) :
    Calls Tryd.prog 8 #[.slice A0 l0.length c0, .slice A1 l1.length c1] w fun e w' => e = .returned (.bool true) ∧ Below w.heap.size w w' := by
  have hRX : rightOf (linesOf l0) = true := right_lines l0 [] (by simpa using hg0) (by simp)
  have hJX0 := join_back_length l0
  have hJX1 := back_join l0
  obtain ⟨X, hX⟩ : ∃ X, linesOf l0 = X := ⟨_, rfl⟩
  rw [hX] at hRX hJX0 hJX1
  obtain ⟨Y, hY⟩ : ∃ Y, joinOf X = Y := ⟨_, rfl⟩
  obtain ⟨J, hJ⟩ : ∃ J, joinOf l1 = J := ⟨_, rfl⟩
  obtain ⟨R, hR⟩ : ∃ R, rightOf l1 = R := ⟨_, rfl⟩
  have hXl : X.length ≤ 140737488355328 := by subst hX; have := linesOf_le l0; omega
  have hl1 : l1.length ≤ 140737488355328 := by have := sum_ge l1; omega
  have hJl : (joinOf l1).length < 140737488355328 := by have := joinOf_le l1; omega
  have hJl2 : J.length < 5864062014805 := by have := joinOf_le l1; rw [hJ] at this; omega
  have H1 := Lib.hid (show text_Lines.f l0 = some X by rw [text_Lines.f, if_pos (by omega), hX])
  have H2 := Lib.hid ((text_Join_tells X hXl (by omega)).trans (congrArg some hY))
  have H3 := Lib.hid ((text_Right_tells X hXl).trans (congrArg some hRX))
  have H4 := Lib.hid ((text_Right_tells l1 hl1).trans (congrArg some hR))
  have H5 := Lib.hid ((text_Join_tells l1 hl1 hJl).trans (congrArg some hJ))
  have H6 := Lib.hid (show R = true → text_Lines.f J = some l1 by intro e; rw [text_Lines.f, if_pos hJl2, ← hJ, lines_back l1 (hR.trans e)])
  have H7 := Lib.hid (same_self l1 hl1)
  have hYs : strOfNums Y = strOfNums l0 := by rw [← hY, hJX1]
  obtain ⟨S, hS⟩ : ∃ S, strOfNums l0 = S := ⟨_, rfl⟩
  rw [hS] at hYs
  have HS := Lib.hid hS
  have HY := Lib.hid hYs
  have HA0 := Lib.hid hr0
  have HA1 := Lib.hid hr1
  have HC0 := Lib.hid hc0
  have HC1 := Lib.hid hc1
  clear hX hJ hR hXl hl1 hJl hJl2 hs0 hs1 hr0 hr1 hc0 hc1 hRX hJX0 hJX1 hY hg0 hYs hS
  have HB := Lib.hid (Below.refl w.heap.size w)
  cases R
  all_goals
    go_enter Tryd.func8, Tryd.ntmps8
    go_wp2_with (go_at_call 25; (refine (text_Lines.calls A0 c0 l0 X _ (Kd.C_below HA0.out HB.out) HC0.out H1.out).mono ?_); rintro e w2 ⟨v2, rfl, ho, hb⟩; obtain ⟨A2, c2, rfl, hc2, hC2⟩ := Kd.R_reads ho; have HX2 := Lib.hid hC2; have HC2 := Lib.hid hc2; have HB1 := Lib.hid (below_step HB.out hb); clear hb HB ho hc2 hC2; have HB := HB1; have HBX := Lib.hid (Below.refl w2.heap.size w2); clear HB1)
    first | go_region_with (first
      | (go_at_call 18; (refine (jalousielaw01_live.calls true _ rfl).mono ?_); rintro e w3 ⟨rfl, hb⟩; have hB2 := below_step (show Below w2.heap.size w2 _ from by repeat (first | exact HBX.out | apply below_drew)) hb; have HBX2 := Lib.hid hB2; have HB1 := Lib.hid (below_step HB.out hB2); have hcvb := Kd.C_string (P := Tryd.prog) (c := c0) Tryd.underlying30 Tryd.underlying5 Tryd.underlying9 (Kd.C_below HA0.out HB1.out); rw [HS.out] at hcvb; clear hb HB hB2 HBX; have HB := HB1; have HBX := HBX2; clear HB1 HBX2)
      | (go_at_call_of 26 (Value.slice A2 X.length c2); (refine (text_Join.calls (X.length + 1) A2 c2 X Y _ (Kd.C_below HX2.out HBX.out) HC2.out H2.out).mono ?_); rintro e w4 ⟨v4, rfl, ho, hb⟩; obtain ⟨A4, c4, rfl, hc4, hC4⟩ := Kd.R_reads ho; have HB1 := Lib.hid (below_step HB.out hb); have HBX1 := Lib.hid (below_step HBX.out hb); have hcv4 := Kd.C_string (P := Tryd.prog) (c := c4) Tryd.underlying30 Tryd.underlying5 Tryd.underlying9 hC4; rw [HY.out] at hcv4; have hcvb4 := Kd.C_string (P := Tryd.prog) (c := c0) Tryd.underlying30 Tryd.underlying5 Tryd.underlying9 (Kd.C_below HA0.out HB1.out); rw [HS.out] at hcvb4; clear hb HB HBX ho hc4 hC4; have HB := HB1; have HBX := HBX1; clear HB1 HBX1)
      | (go_at_call_of 30 (Value.slice A2 X.length c2); (refine (text_Right.calls (X.length + 1) A2 c2 X true _ (Kd.C_below HX2.out HBX.out) HC2.out H3.out).mono ?_); rintro e w5 ⟨rfl, hb⟩; have HB1 := Lib.hid (below_step HB.out hb); clear hb HB; have HB := HB1; clear HB1)
      | (go_at_call_of 30 (Value.slice A1 l1.length c1); (refine (text_Right.calls (l1.length + 1) A1 c1 l1 _ _ (Kd.C_below HA1.out HB.out) HC1.out H4.out).mono ?_); rintro e w6 ⟨rfl, hb⟩; have HB1 := Lib.hid (below_step HB.out hb); clear hb HB; have HB := HB1; clear HB1)
      | (go_at_call_of 26 (Value.slice A1 l1.length c1); (refine (text_Join.calls (l1.length + 1) A1 c1 l1 J _ (Kd.C_below HA1.out HB.out) HC1.out H5.out).mono ?_); rintro e w7 ⟨v7, rfl, ho, hb⟩; obtain ⟨A7, c7, rfl, hc7, hC7⟩ := Kd.R_reads ho; have HB1 := Lib.hid (below_step HB.out hb); have HX7 := Lib.hid (And.intro hc7 hC7); clear hb HB ho hc7 hC7; have HB := HB1; clear HB1)
      | (go_at_call 25; ((refine (text_Lines.calls _ _ J l1 _ HX7.out.2 HX7.out.1 (H6.out (by first | trivial | rfl))).mono ?_); rintro e w8 ⟨v8, rfl, ho, hb⟩; obtain ⟨A8, c8, rfl, hc8, hC8⟩ := Kd.R_reads ho; have HB1 := Lib.hid (below_step HB.out hb); have HX8 := Lib.hid (And.intro hc8 hC8); clear hb HB ho hc8 hC8; have HB := HB1; clear HB1))
      | (go_at_call 27; (refine (jalousieref01_Same.calls (l1.length + 1) _ _ l1 _ _ l1 true _ HX8.out.2 HX8.out.1 (Kd.C_below HA1.out HB.out) HC1.out H7.out).mono ?_); rintro e w9 ⟨rfl, hd⟩; have HB1 := Lib.hid (below_step HB.out (Drawn0.below hd)); clear hd HB; have HB := HB1; clear HB1)) | fail "the region"
    all_goals (go_wp2; go_ret; exact ⟨rfl, HB.out⟩)
end Go.Proofs.YtlhodalfbmdnnaaDoor.P

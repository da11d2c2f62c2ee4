/- the walk of jalousielaw21.WireCodes -/
import Derived.Test.YthaimkdnddmokaaDoorWireCodesHLive21
import Derived.Test.YthaimkdnddmokaaDoorWireCodesHWReadFit
import Derived.Deep.DeepCutAuto
namespace Go.Proofs.YthaimkdnddmokaaDoor.P
open Go.RowKit Go.Proofs.YthaimkdnddmokaaDoorW.PrintWords Go.Proofs.YthaimkdnddmokaaDoorW.PrintLast Go.Proofs.YthaimkdnddmokaaDoorW.PrintMore
set_option linter.unusedVariables false
set_option linter.unusedSimpArgs false
theorem code_some (e : Int) : codeL e = [] ↔ ¬ (0 ≤ e ∧ e ≤ 14) := by
  constructor
  · rintro h ⟨h1, h2⟩
    obtain ⟨n, rfl⟩ := Int.eq_ofNat_of_zero_le h1
    have : ∀ n : Nat, n < 15 → ¬ codeL (n : Int) = [] := by decide
    exact this n (by omega) h
  · intro h; unfold codeL; rw [if_neg h]
theorem ba_toList_eq (a b : List UInt8) : ((baOf a).toList == (baOf b).toList) = decide (a = b) := by
  rw [toList_data, toList_data, baOf_data, baOf_data]
  by_cases h : a = b
  · subst h; simp
  · simp [h]
theorem ba_size_pos (l : List UInt8) : decide (0 < (baOf l).size) = decide (¬ l = []) := by
  have : (baOf l).size = l.length := by rw [← data_length, baOf_data]
  rw [this]
  cases l <;> simp
theorem code_key (a b : Int) : decide (0 < (baOf (codeL a)).size) = true → ((baOf (codeL a)).toList == (baOf (codeL b)).toList) = true → (a != b) = false := by
  rw [ba_size_pos, ba_toList_eq]
  intro h1 h2
  have h1 := of_decide_eq_true h1
  have h2 := of_decide_eq_true h2
  have ha : 0 ≤ a ∧ a ≤ 14 := Classical.not_not.1 (fun e => h1 ((code_some a).2 e))
  have hb : 0 ≤ b ∧ b ≤ 14 := Classical.not_not.1 (fun e => h1 (by rw [h2]; exact (code_some b).2 e))
  have e1 := code_of a ha.1 ha.2
  have e2 := code_of b hb.1 hb.2
  rw [h2] at e1
  have : a = b := by omega
  simp [this]
theorem verb_key (a b : Int) : decide (0 < (baOf (verbL a)).size) = true → ((baOf (verbL a)).toList == (baOf (verbL b)).toList) = true → (a != b) = false := by
  rw [ba_size_pos, ba_toList_eq]
  intro h1 h2
  have h1 := of_decide_eq_true h1
  have h2 := of_decide_eq_true h2
  have ha : 1 ≤ a ∧ a ≤ 11 := Classical.not_not.1 (fun e => h1 ((verb_some a).2 e))
  have hb : 1 ≤ b ∧ b ≤ 11 := Classical.not_not.1 (fun e => h1 (by rw [h2]; exact (verb_some b).2 e))
  have e1 := verb_of a ha.1 ha.2
  have e2 := verb_of b hb.1 hb.2
  rw [h2] at e1
  have : a = b := by omega
  simp [this]
theorem code_read (a : Int) : wire_Read.f (bytesOf (baOf (codeL a) ++ ⟨#[10]⟩)) = some (if 0 ≤ a ∧ a ≤ 14 then (a, [], 0) else (0, [], 3)) := by
  by_cases h : 0 ≤ a ∧ a ≤ 14
  · rw [if_pos h]
    obtain ⟨n, rfl⟩ := Int.eq_ofNat_of_zero_le h.1
    have : ∀ n : Nat, n < 15 → wire_Read.f (bytesOf (baOf (codeL (n : Int)) ++ ⟨#[10]⟩)) = some ((n : Int), [], 0) := by decide +kernel
    exact this n (by omega)
  · rw [if_neg h, (code_some a).2 h]
    decide +kernel
set_option maxHeartbeats 4000000 in
set_option maxRecDepth 100000 in
theorem WireCodes.walk (a b v u : Int) (w : World) (hT : Tabs w) :
    Calls Tryd.prog 5 #[.int .i64 a, .int .i64 b, .int .i64 v, .int .i64 u] w fun e w' => e = .returned (.bool true) ∧ Below w.heap.size w w' := by
  have HT := Lib.hid hT
  have HCA := Lib.hid (wire_Code_tells a)
  have HCB := Lib.hid (wire_Code_tells b)
  have HWV := Lib.hid (wire_Word_tells v)
  have HWU := Lib.hid (wire_Word_tells u)
  have HK1 := Lib.hid (code_key a b)
  have HK2 := Lib.hid (verb_key v u)
  have HRD := Lib.hid (code_read a)
  have hs1 := code_small a
  have HPS := Lib.hid (ba_size_pos (verbL v))
  have HVS := Lib.hid (verb_some v)
  have hs2 := verb_small_le v
  clear hT
  generalize baOf (codeL a) = X at HCA HK1 HRD hs1
  generalize baOf (codeL b) = Y at HCB HK1
  generalize baOf (verbL v) = P at HWV HK2 HPS hs2
  generalize baOf (verbL u) = Q at HWU HK2
  go_enter Tryd.func5, Tryd.ntmps5
  go_wp2_with fail
  (with_reducible refine (wire_Code.calls a X _ HT.out HCA.out).mono ?_)
  rintro e w1 ⟨rfl, hb⟩
  have HB1 := Lib.hid hb
  clear hb
  go_wp2_with fail
  (with_reducible refine (wire_Code.calls b Y _ (HT.out.below HB1.out) HCB.out).mono ?_)
  rintro e w2 ⟨rfl, hb⟩
  have HB2 := Lib.hid (below_step HB1.out hb)
  clear hb
  go_wp2_with fail
  (with_reducible refine (wire_Word.calls v P _ (HT.out.below HB2.out) HWV.out).mono ?_)
  rintro e w3 ⟨rfl, hb⟩
  have HB3 := Lib.hid (below_step HB2.out hb)
  clear hb
  go_wp2_with fail
  (with_reducible refine (wire_Word.calls u Q _ (HT.out.below HB3.out) HWU.out).mono ?_)
  rintro e w4 ⟨rfl, hb⟩
  have HB4 := Lib.hid (below_step HB3.out hb)
  clear hb HB1 HB2 HB3
  go_upto_region 3 with (fail)
  go_cut [50] (fun s50 wx => s50 = .bool false ∧ wx = w4)
  case first =>
    obtain ⟨s0, h0⟩ : ∃ q, decide (0 < X.size) = q := ⟨_, rfl⟩
    obtain ⟨s1, h1⟩ : ∃ q, (X.toList == Y.toList) = q := ⟨_, rfl⟩
    obtain ⟨s2, h2⟩ : ∃ q, (a != b) = q := ⟨_, rfl⟩
    obtain ⟨t0, h3⟩ : ∃ q, decide (0 < P.size) = q := ⟨_, rfl⟩
    obtain ⟨t1, h4⟩ : ∃ q, (P.toList == Q.toList) = q := ⟨_, rfl⟩
    obtain ⟨t2, h5⟩ : ∃ q, (v != u) = q := ⟨_, rfl⟩
    have KX := HK1.out
    have KP := HK2.out
    rw [h0, h1, h2] at KX
    rw [h3, h4, h5] at KP
    have KX := Lib.hid KX
    have KP := Lib.hid KP
    go_wp2
    all_goals
      go_meet
      have k1 := KX.out
      have k2 := KP.out
      exact ⟨by simp_all, rfl⟩
  case rest =>
    obtain ⟨rfl, rfl⟩ := hcut
    clear HK1 HK2 HCA HCB HWV HWU
    obtain ⟨T, hTT⟩ : ∃ T, X ++ (⟨#[10]⟩ : ByteArray) = T := ⟨_, rfl⟩
    have hTs : T.size ≤ 101 := by rw [← hTT, ByteArray.size_append]; have : (⟨#[10]⟩ : ByteArray).size = 1 := rfl; omega
    have hbig : (9223372036854775807 < X.size + 1) = False := eq_false (by omega)
    have hrd := HRD.out
    rw [hTT] at hrd
    obtain ⟨r1, r2, r3, hrr⟩ : ∃ r1 r2 r3, (if 0 ≤ a ∧ a ≤ 14 then ((a, [], 0) : Int × List Int × Int) else (0, [], 3)) = (r1, r2, r3) := ⟨_, _, _, rfl⟩
    rw [hrr] at hrd
    have hkb := print_bytes (P := Tryd.prog) 9 22 5 Tryd.underlying9 Tryd.underlying22 Tryd.underlying5 T wc
    have HBW := Lib.hid (bytes_below HB4.out HB4.out.size 5 T)
    have hread := wire_Read.calls (some ⟨wc.heap.size, 0, none⟩) (grownCap wc T.size 0 5) (bytesOf T) r1 r2 r3 (Lib.bytesWorld wc 5 T) (bytes_C wc 5 T (by omega)) (by rw [bytesOf_length]; exact grownCap_ge wc T.size 0 5) (fun h => by cases h) (HT.out.below HBW.out) hrd
    rw [bytesOf_length] at hread
    have HREAD := Lib.hid hread
    have HRR := Lib.hid hrr
    clear hread hrd HRD hrr
    go_wp2_with (go_at_call 13; refine HREAD.out.mono ?_; rintro e w5 ⟨v5, rfl, hr, hb⟩; obtain ⟨A5, c5, rfl, hc5, hC5⟩ := Kd.R_reads hr; have HB5 := Lib.hid (below_step HBW.out hb); clear hr hb hC5)
    (with_reducible refine (jalousielaw21_live.calls true _ (HT.out.below (below_alloc HB5.out _)) rfl).mono ?_)
    rintro e w6 ⟨rfl, hb⟩
    have HB6 := Lib.hid (below_step (below_alloc HB5.out _) hb)
    clear hb hkb hTT hbig
    have hA : (r3 = 0 ∧ 0 ≤ a ∧ a ≤ 14) ∨ (r3 = 3 ∧ a < 0) ∨ (r3 = 3 ∧ 0 ≤ a ∧ 14 < a) := by
      have h := HRR.out
      by_cases h0 : 0 ≤ a
      · by_cases h1 : a ≤ 14
        · rw [if_pos ⟨h0, h1⟩] at h
          injection h with _ h
          injection h with _ h
          exact .inl ⟨h.symm, h0, h1⟩
        · rw [if_neg (fun e => h1 e.2)] at h
          injection h with _ h
          injection h with _ h
          exact .inr (.inr ⟨h.symm, h0, by omega⟩)
      · rw [if_neg (fun e => h0 e.1)] at h
        injection h with _ h
        injection h with _ h
        exact .inr (.inl ⟨h.symm, by omega⟩)
    have hV : (decide (0 < P.size) = true ∧ 1 ≤ v ∧ v ≤ 11) ∨ (decide (0 < P.size) = false ∧ v < 1) ∨ (decide (0 < P.size) = false ∧ 1 ≤ v ∧ 11 < v) := by
      have h := HPS.out
      have h2 := HVS.out
      by_cases h0 : 1 ≤ v
      · by_cases h1 : v ≤ 11
        · exact .inl ⟨by rw [h]; exact decide_eq_true (fun e => h2.1 e ⟨h0, h1⟩), h0, h1⟩
        · exact .inr (.inr ⟨by rw [h]; exact decide_eq_false (fun e => e (h2.2 (fun e => h1 e.2))), h0, by omega⟩)
      · exact .inr (.inl ⟨by rw [h]; exact decide_eq_false (fun e => e (h2.2 (fun e => h0 e.1))), by omega⟩)
    clear HRR HPS HVS
    rcases hA with ⟨rfl, ha0, ha1⟩ | ⟨rfl, ha0⟩ | ⟨rfl, ha0, ha1⟩
    all_goals
      rcases hV with ⟨hp, hv0, hv1⟩ | ⟨hp, hv0⟩ | ⟨hp, hv0, hv1⟩
    all_goals
      go_wp2
      go_ret
      exact ⟨by first | rfl | (simp; done) | (simp [*]; done) | (simp [*]; omega), HB6.out⟩
end Go.Proofs.YthaimkdnddmokaaDoor.P

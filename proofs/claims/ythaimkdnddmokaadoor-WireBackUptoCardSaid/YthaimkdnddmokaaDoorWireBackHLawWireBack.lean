/- the walk of jalousielaw21.WireBack -/
import Derived.Test.YthaimkdnddmokaaDoorWireBackHLive21
import Derived.Test.YthaimkdnddmokaaDoorWireBackHWPrintFit
import Derived.Test.YthaimkdnddmokaaDoorWireBackGHWParseFit
import Derived.Test.YthaimkdnddmokaaDoorWireBackPxJalousieref21
namespace Go.Proofs.YthaimkdnddmokaaDoor.P
open Go.RowKit Go.Proofs.YthaimkdnddmokaaDoorW.PrintWords Go.Proofs.YthaimkdnddmokaaDoorW.PrintLast Go.Proofs.YthaimkdnddmokaaDoorW.PrintMore
set_option linter.unusedVariables false
set_option linter.unusedSimpArgs false
theorem same_self (v l c : Int) (f : ByteArray) (a b d : Int) (body : List Int) : jalousieref21_Same.f v l c f a b d body v l c f a b d body = some true := by
  unfold jalousieref21_Same.f
  simp
theorem req_ws_small (v l : Int) (c : Nat) (f : ByteArray) (a b d : Int) (N : Nat) (hN : 3000 ≤ N) (hf : f.size ≤ N) : ∀ s ∈ reqWs v l c f a b d, s.size ≤ N := by
  intro s hs
  unfold reqWs at hs
  have hv := verb_small_le v
  have hl := lab_small l c
  rcases List.mem_append.1 hs with hs | hs
  · rcases List.mem_cons.1 hs with rfl | hs
    · omega
    · rw [List.mem_singleton.1 hs]; omega
  · obtain ⟨x, _, hx⟩ := List.mem_flatMap.1 hs
    have ha := dec_small a
    have hb := dec_small b
    have hd := dec_small d
    unfold letW at hx
    repeat' split at hx
    all_goals first | (rw [List.mem_singleton.1 hx]; omega) | (exact absurd hx (by simp))
theorem print_fit (v l : Int) (c : Nat) (f : ByteArray) (a b d : Int) (l0 : List Int) (hf : f.size ≤ 2000000) (hl : l0.length ≤ 2000000) (hg : bytesB l0 = true) : parseFit (printR v l c f a b d l0).1 = true := by
  unfold printR
  by_cases h0 : checkR v l f a b d l0.length = 0
  · rw [if_pos h0]
    unfold parseFit
    simp only [Bool.and_eq_true, decide_eq_true_eq]
    constructor
    · rw [bytesB_iff] at hg ⊢
      intro z hz
      rcases List.mem_append.1 hz with hz | hz
      · unfold bytesOf at hz
        obtain ⟨b, _, rfl⟩ := List.mem_map.1 hz
        have := b.toNat_lt
        omega
      · rcases List.mem_cons.1 hz with rfl | hz
        · decide
        · exact hg z hz
    · rw [List.length_append, bytesOf_length, List.length_cons, ← data_length, baOf_data]
      have h1 := join_len 2000000 (wordsR v l c f a b d) (fun x hx => by
        rw [← req_words (check_range _ _ _ _ _ _ _ h0)] at hx
        obtain ⟨s, hs, rfl⟩ := List.mem_map.1 hx
        show s.data.toList.length ≤ _
        rw [data_length]
        exact req_ws_small v l c f a b d 2000000 (by decide) hf s hs)
      have h2 : (wordsR v l c f a b d).length ≤ 12 := by
        rw [← req_words (check_range _ _ _ _ _ _ _ h0), List.length_map]
        exact req_ws_len v l c f a b d
      have h3 : (wordsR v l c f a b d).length * (2000000 + 1) ≤ 12 * (2000000 + 1) := Nat.mul_le_mul_right _ h2
      unfold lineR
      omega
  · rw [if_neg h0]
    show parseFit [] = true
    decide
theorem parse_shape (l : List Int) : (∃ e, ¬ e = 0 ∧ parseW l = noReq e) ∨ ∃ v lv c f a b d body, parseW l = (v, lv, c, f, a, b, d, body, 0) := by
  unfold parseW
  by_cases h : (cutI l).2.2 = false
  · rw [if_pos h]; exact .inl ⟨3, by decide, rfl⟩
  · rw [if_neg h]
    cases fieldsW (wordsW (strOfNums (cutI l).1)) with
    | none => exact .inl ⟨3, by decide, rfl⟩
    | some r =>
      simp only
      unfold endW
      by_cases h2 : checkR r.1 r.2.1 r.2.2.2.1 r.2.2.2.2.1 r.2.2.2.2.2.1 r.2.2.2.2.2.2 (cutI l).2.1.length = 0
      · rw [if_pos h2]; exact .inr ⟨_, _, _, _, _, _, _, _, rfl⟩
      · rw [if_neg h2]; exact .inl ⟨_, h2, rfl⟩
theorem check_small {v l : Int} {f : ByteArray} {a b d : Int} {n : Nat} (h : checkR v l f a b d n = 0) : f.size ≤ 64 ∧ n ≤ 32768 := by
  obtain ⟨_, _, _, _, h1, h2, _⟩ := check_ok h
  constructor
  · cases hf : (formV v).1 with
    | true =>
      have := h1 hf
      unfold okFile nameOf at this
      simp only [Bool.and_eq_true, decide_eq_true_eq] at this
      omega
    | false => have := h2 hf; omega
  · unfold checkR at h
    by_cases hn : 32768 < n
    · exfalso
      repeat' (split at h)
      all_goals first | (cases h; done) | omega
    · omega
theorem back_facts (l : List Int) (hg : bytesB l = true) : ∃ (v lv : Int) (Z : Nat) (f : ByteArray) (a b d : Int) (body : List Int) (e : Int), parseW l = (v, lv, (Z : Int), f, a, b, d, body, e) ∧ Z < 18446744073709551616 ∧ f.size ≤ 64 ∧ body.length ≤ 32768 ∧ (¬ e = 0 ∨ e = 0 ∧ printR v lv Z f a b d body = (l, 0)) := by
  rcases parse_shape l with ⟨e, he, h⟩ | ⟨v, lv, c, f, a, b, d, body, h⟩
  · exact ⟨0, 0, 0, ⟨#[]⟩, 0, 0, 0, [], e, h, by decide, by decide, by decide, .inl he⟩
  · obtain ⟨Z, rfl, z2, hc, hp⟩ := print_parse (bytesB_iff.1 hg) h
    obtain ⟨s1, s2⟩ := check_small hc
    exact ⟨v, lv, Z, f, a, b, d, body, 0, h, z2, s1, s2, .inr ⟨rfl, hp⟩⟩
set_option maxHeartbeats 8000000 in
set_option maxRecDepth 100000 in
theorem WireBack.walk (v l : Int) (c : Nat) (f : ByteArray) (a b d : Int) (A0 : Option Addr) (c0 : Nat) (l0 : List Int) (A1 : Option Addr) (c1 : Nat) (l1 : List Int) (w : World) (hT : Tabs w) (hcc : c < 18446744073709551616) (hf : f.size ≤ 2000000) (hr0 : Kd.C (Kd.int .u8) w A0 l0.length l0) (hc0 : l0.length ≤ c0) (hg0 : bytesB l0 = true) (hs0 : l0.length ≤ 2000000)
    (hr1 : Kd.C (Kd.int .u8) w A1 l1.length l1) (hc1 : l1.length ≤ c1) (hg1 : bytesB l1 = true) (hs1 : l1.length ≤ 2000000) (hn1 : A1 = none → c1 = 0) :
    Calls Tryd.prog 7 #[.agg #[.int .i64 v, .int .i64 l, .int .u64 (c : Int), .string f, .int .i64 a, .int .i64 b, .int .i64 d, .slice A0 l0.length c0], .slice A1 l1.length c1] w fun e w' => e = .returned (.bool true) ∧ Below w.heap.size w w' := by
  have HT := Lib.hid hT
  have HR0 := Lib.hid hr0
  have HR1 := Lib.hid hr1
  have HP0 := Lib.hid (show wire_Print.f v l c f a b d l0 = some (printR v l c f a b d l0) by unfold wire_Print.f; rw [if_pos ⟨by omega, by omega, hcc⟩])
  have hpf := print_fit v l c f a b d l0 hf hs0 hg0
  have HX := Lib.hid (show wire_Parse.f (printR v l c f a b d l0).1 = some (parseW (printR v l c f a b d l0).1) by unfold wire_Parse.f; rw [if_pos hpf])
  have hK1 : ¬ (printR v l c f a b d l0).2 = 0 ∨ (printR v l c f a b d l0).2 = 0 ∧ parseW (printR v l c f a b d l0).1 = (v, l, (c : Int), f, a, b, d, l0, 0) := by
    by_cases h : checkR v l f a b d l0.length = 0
    · exact .inr ⟨by unfold printR; rw [if_pos h], parse_print hcc h⟩
    · exact .inl (by unfold printR; rw [if_neg h]; exact h)
  have hpne : ¬ (printR v l c f a b d l0).1 = [] ∨ (printR v l c f a b d l0).1 = [] := by
    by_cases h : (printR v l c f a b d l0).1 = []
    · exact .inr h
    · exact .inl h
  generalize parseW (printR v l c f a b d l0).1 = SS at HX hK1
  generalize printR v l c f a b d l0 = PP at HP0 HX hK1 hpne hpf
  obtain ⟨X, E⟩ := PP
  obtain ⟨s1, s2, s3, s4, s5, s6, s7, s8, s9⟩ := SS
  simp only at HP0 HX hK1 hpne hpf
  obtain ⟨t1, t2, Z, t4, t5, t6, t7, t8, t9, hT1, hz, ht4, ht8, hK2⟩ := back_facts l1 hg1
  have HTT := Lib.hid (show wire_Parse.f l1 = some (t1, t2, (Z : Int), t4, t5, t6, t7, t8, t9) by unfold wire_Parse.f; rw [if_pos (by unfold parseFit; rw [hg1, Bool.true_and, decide_eq_true_eq]; omega), hT1])
  have HP1 := Lib.hid (show wire_Print.f t1 t2 Z t4 t5 t6 t7 t8 = some (printR t1 t2 Z t4 t5 t6 t7 t8) by unfold wire_Print.f; rw [if_pos ⟨by omega, by omega, hz⟩])
  generalize printR t1 t2 Z t4 t5 t6 t7 t8 = QQ at HP1 hK2
  obtain ⟨Y, H⟩ := QQ
  try simp only at HP1
  have hK2' : ¬ t9 = 0 ∨ t9 = 0 ∧ Y = l1 ∧ H = 0 := by
    rcases hK2 with h | ⟨h1, h2⟩
    · exact .inl h
    · injection h2 with h2 h3
      exact .inr ⟨h1, h2, h3⟩
  have HK1 := Lib.hid hK1
  have HK2 := Lib.hid hK2'
  have HNE := Lib.hid hpne
  clear hT hr0 hr1 hpf hT1 hz ht4 ht8 hK2 hK2' hK1 hg0 hg1 hs0 hs1 hf hcc hpne
  obtain ⟨gA, hgA⟩ : ∃ g, w.heap.size = g := ⟨_, rfl⟩
  have KA := Lib.hid (blk_new w (.cells #[.int .i64 v, .int .i64 l, .int .u64 (c : Int), .string f, .int .i64 a, .int .i64 b, .int .i64 d, .slice A0 l0.length c0] 28))
  have HB0 := Lib.hid (below_alloc (Below.refl w.heap.size w) (.cells #[.int .i64 v, .int .i64 l, .int .u64 (c : Int), .string f, .int .i64 a, .int .i64 b, .int .i64 d, .slice A0 l0.length c0] 28))
  go_enter Tryd.func7, Tryd.ntmps7
  go_wp2_with fail
  rw [hgA] at KA
  try simp only [hgA]
  generalize w.alloc (.cells #[.int .i64 v, .int .i64 l, .int .u64 (c : Int), .string f, .int .i64 a, .int .i64 b, .int .i64 d, .slice A0 l0.length c0] 28) = W0 at KA HB0 ⊢
  clear hgA
  (with_reducible refine (wire_Print.calls v l c f a b d A0 c0 l0 X E W0 (Kd.C_below HR0.out HB0.out) hc0 (HT.out.below HB0.out) HP0.out).mono ?_)
  rintro e w1 ⟨Ax, cx, rfl, hCx, hcx, hax, hb⟩
  have KA1 := Lib.hid (blk_below KA.out hb)
  have HB1 := Lib.hid (below_step HB0.out hb)
  have HCX := Lib.hid hCx
  have HAX := Lib.hid hax
  clear hb hCx KA HB0 hax
  go_wp2_with fail
  (with_reducible refine (wire_Parse.calls Ax cx X s1 s2 s3 s4 s5 s6 s7 s8 s9 w1 HCX.out hcx HAX.out (HT.out.below HB1.out) HX.out).mono ?_)
  rintro e w2 ⟨v2, rfl, hr, hb⟩
  obtain ⟨A2, c2, rfl, hc2, hC2⟩ := Kd.R_reads hr
  have KA2 := Lib.hid (blk_alloc (blk_below KA1.out hb) (.cells #[.int .i64 s1, .int .i64 s2, .int .u64 s3, .string s4, .int .i64 s5, .int .i64 s6, .int .i64 s7, .slice A2 s8.length c2] 28))
  have K7 := Lib.hid (blk_new w2 (.cells #[.int .i64 s1, .int .i64 s2, .int .u64 s3, .string s4, .int .i64 s5, .int .i64 s6, .int .i64 s7, .slice A2 s8.length c2] 28))
  have HB2 := Lib.hid (below_alloc (below_step HB1.out hb) (.cells #[.int .i64 s1, .int .i64 s2, .int .u64 s3, .string s4, .int .i64 s5, .int .i64 s6, .int .i64 s7, .slice A2 s8.length c2] 28))
  have HC2 := Lib.hid (Kd.C_below hC2 (below_alloc (Below.refl w2.heap.size w2) (.cells #[.int .i64 s1, .int .i64 s2, .int .u64 s3, .string s4, .int .i64 s5, .int .i64 s6, .int .i64 s7, .slice A2 s8.length c2] 28)))
  clear hr hb hC2 KA1 HB1 HCX
  go_wp2_with fail
  obtain ⟨g7, hg7⟩ : ∃ g, w2.heap.size = g := ⟨_, rfl⟩
  rw [hg7] at K7
  try simp only [hg7]
  generalize w2.alloc (.cells #[.int .i64 s1, .int .i64 s2, .int .u64 s3, .string s4, .int .i64 s5, .int .i64 s6, .int .i64 s7, .slice A2 s8.length c2] 28) = w3 at KA2 K7 HB2 HC2 ⊢
  clear hg7
  (with_reducible refine (wire_Parse.calls A1 c1 l1 t1 t2 (Z : Int) t4 t5 t6 t7 t8 t9 w3 (Kd.C_below HR1.out HB2.out) hc1 hn1 (HT.out.below HB2.out) HTT.out).mono ?_)
  rintro e w4 ⟨v4, rfl, hr, hb⟩
  obtain ⟨A4, c4, rfl, hc4, hC4⟩ := Kd.R_reads hr
  have KA4 := Lib.hid (blk_alloc (blk_below KA2.out hb) (.cells #[.int .i64 t1, .int .i64 t2, .int .u64 (Z : Int), .string t4, .int .i64 t5, .int .i64 t6, .int .i64 t7, .slice A4 t8.length c4] 28))
  have K74 := Lib.hid (blk_alloc (blk_below K7.out hb) (.cells #[.int .i64 t1, .int .i64 t2, .int .u64 (Z : Int), .string t4, .int .i64 t5, .int .i64 t6, .int .i64 t7, .slice A4 t8.length c4] 28))
  have K9 := Lib.hid (blk_new w4 (.cells #[.int .i64 t1, .int .i64 t2, .int .u64 (Z : Int), .string t4, .int .i64 t5, .int .i64 t6, .int .i64 t7, .slice A4 t8.length c4] 28))
  have HB4 := Lib.hid (below_alloc (below_step HB2.out hb) (.cells #[.int .i64 t1, .int .i64 t2, .int .u64 (Z : Int), .string t4, .int .i64 t5, .int .i64 t6, .int .i64 t7, .slice A4 t8.length c4] 28))
  have HC24 := Lib.hid (Kd.C_below HC2.out (below_alloc hb (.cells #[.int .i64 t1, .int .i64 t2, .int .u64 (Z : Int), .string t4, .int .i64 t5, .int .i64 t6, .int .i64 t7, .slice A4 t8.length c4] 28)))
  have HC4 := Lib.hid (Kd.C_below hC4 (below_alloc (Below.refl w4.heap.size w4) (.cells #[.int .i64 t1, .int .i64 t2, .int .u64 (Z : Int), .string t4, .int .i64 t5, .int .i64 t6, .int .i64 t7, .slice A4 t8.length c4] 28)))
  clear hr hb hC4 KA2 K7 HB2 HC2
  go_upto_region 4 with (fail)
  obtain ⟨g9, hg9⟩ : ∃ g, w4.heap.size = g := ⟨_, rfl⟩
  rw [hg9] at K9
  try simp only [hg9]
  generalize w4.alloc (.cells #[.int .i64 t1, .int .i64 t2, .int .u64 (Z : Int), .string t4, .int .i64 t5, .int .i64 t6, .int .i64 t7, .slice A4 t8.length c4] 28) = w5 at KA4 K74 K9 HB4 HC24 HC4 ⊢
  clear hg9
  obtain ⟨q0, q1, q2, q3, q4, q5, q6, q7⟩ := req_cells K9.out
  go_wp2_with fail
  (with_reducible refine (wire_Print.calls t1 t2 Z t4 t5 t6 t7 A4 c4 t8 Y H w5 HC4.out hc4 (HT.out.below HB4.out) HP1.out).mono ?_)
  rintro e w6 ⟨A6, c6, rfl, hC6, hc6, _, hb⟩
  have KA6 := Lib.hid (blk_below KA4.out hb)
  have K76 := Lib.hid (blk_below K74.out hb)
  have HB6 := Lib.hid (below_step HB4.out hb)
  have HC26 := Lib.hid (Kd.C_below HC24.out hb)
  have HC6 := Lib.hid hC6
  clear hb hC6 KA4 K74 K9 HB4 HC24 HC4 q0 q1 q2 q3 q4 q5 q6 q7
  go_wp2_with fail
  (with_reducible refine (jalousielaw21_live.calls true _ (HT.out.below HB6.out) rfl).mono ?_)
  rintro e w7 ⟨rfl, hb⟩
  have HB7 := Lib.hid (below_step HB6.out hb)
  have KA7 := Lib.hid (blk_below KA6.out hb)
  have K77 := Lib.hid (blk_below K76.out hb)
  have HC27 := Lib.hid (Kd.C_below HC26.out hb)
  have HC67 := Lib.hid (Kd.C_below HC6.out hb)
  clear hb KA6 K76 HB6 HC26 HC6
  obtain ⟨a0, a1, a2, a3, a4, a5, a6, a7⟩ := req_cells KA7.out
  obtain ⟨b0, b1, b2, b3, b4, b5, b6, b7⟩ := req_cells K77.out
  have hcv : ∀ W, Below w7.heap.size w7 W → (convert 22 9 (.slice A6 Y.length c6)).run Tryd.prog W = .ok (.string (strOfNums Y)) W ∧ (convert 22 9 (.slice A1 l1.length c1)).run Tryd.prog W = .ok (.string (strOfNums l1)) W := fun W hb =>
    ⟨Kd.C_string (P := Tryd.prog) (A := A6) (c := c6) Tryd.underlying22 Tryd.underlying5 Tryd.underlying9 (Kd.C_below HC67.out hb), Kd.C_string (P := Tryd.prog) (A := A1) (c := c1) Tryd.underlying22 Tryd.underlying5 Tryd.underlying9 (Kd.C_below HR1.out (below_step HB7.out hb))⟩
  have HCV := Lib.hid hcv
  clear hcv
  obtain ⟨v1, v2⟩ := HCV.out w7 (Below.refl _ _)
  have F1 : ((E != 0) = true ∧ (E == 0) = false) ∨ (E = 0 ∧ (s1, s2, s3, s4, s5, s6, s7, s8, s9) = (v, l, (c : Int), f, a, b, d, l0, 0)) := by
    rcases HK1.out with h | ⟨h1, h2⟩
    · exact .inl ⟨bne_iff_ne.2 h, beq_eq_false_iff_ne.2 h⟩
    · exact .inr ⟨h1, h2⟩
  have F2 : ((t9 != 0) = true ∧ (t9 == 0) = false) ∨ (t9 = 0 ∧ Y = l1 ∧ H = 0) := by
    rcases HK2.out with h | h
    · exact .inl ⟨bne_iff_ne.2 h, beq_eq_false_iff_ne.2 h⟩
    · exact .inr h
  rcases F1 with ⟨e1, e2⟩ | ⟨rfl, hF⟩
  · rcases F2 with ⟨e3, e4⟩ | ⟨rfl, rfl, rfl⟩
    · go_wp2
      go_ret
      exact ⟨rfl, HB7.out⟩
    · have n2 : ((strOfNums Y).toList == (strOfNums Y).toList) = true := by simp
      go_wp2
      go_ret
      exact ⟨by first | rfl | (simp; done), HB7.out⟩
  · injection hF with h1 hF
    injection hF with h2 hF
    injection hF with h3 hF
    injection hF with h4 hF
    injection hF with h5 hF
    injection hF with h6 hF
    injection hF with h7 hF
    injection hF with h8 h9
    subst h1 h2 h3 h4 h5 h6 h7 h8 h9
    have HSM := Lib.hid (same_self s1 s2 (c : Int) s4 s5 s6 s7 s8)
    rcases F2 with ⟨e3, e4⟩ | ⟨rfl, rfl, rfl⟩
    · go_wp2_with (go_at_call 11; (with_reducible refine (jalousieref21_Same.calls s1 s2 (c : Int) s4 s5 s6 s7 A0 c0 s8 s1 s2 (c : Int) s4 s5 s6 s7 A2 c2 s8 true _ (Kd.C_below HR0.out HB7.out) hc0 HC27.out hc2 HSM.out).mono ?_); rintro e w8 ⟨rfl, hb⟩; have HB8 := Lib.hid (below_step HB7.out hb); clear hb)
      go_ret
      exact ⟨rfl, HB8.out⟩
    · have n2 : ((strOfNums Y).toList == (strOfNums Y).toList) = true := by simp
      go_wp2_with (go_at_call 11; (with_reducible refine (jalousieref21_Same.calls s1 s2 (c : Int) s4 s5 s6 s7 A0 c0 s8 s1 s2 (c : Int) s4 s5 s6 s7 A2 c2 s8 true _ (Kd.C_below HR0.out HB7.out) hc0 HC27.out hc2 HSM.out).mono ?_); rintro e w8 ⟨rfl, hb⟩; obtain ⟨v1, v2⟩ := HCV.out w8 hb; have HB8 := Lib.hid (below_step HB7.out hb); clear hb)
      go_ret
      exact ⟨by first | rfl | (simp; done), HB8.out⟩
end Go.Proofs.YthaimkdnddmokaaDoor.P

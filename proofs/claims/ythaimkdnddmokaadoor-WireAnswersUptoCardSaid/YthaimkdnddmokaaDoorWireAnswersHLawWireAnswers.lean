/- the walk of jalousielaw21.WireAnswers -/
import Derived.Test.YthaimkdnddmokaaDoorWireAnswersHLive21
import Derived.Test.YthaimkdnddmokaaDoorWireAnswersHWReadFit
import Derived.Test.YthaimkdnddmokaaDoorWireAnswersHWAnswer
import Derived.Test.YthaimkdnddmokaaDoorWireAnswersPxJalousieref21
namespace Go.Proofs.YthaimkdnddmokaaDoor.P
open Go.RowKit Go.Proofs.YthaimkdnddmokaaDoorW.PrintWords Go.Proofs.YthaimkdnddmokaaDoorW.PrintLast Go.Proofs.YthaimkdnddmokaaDoorW.PrintMore
set_option linter.unusedVariables false
set_option linter.unusedSimpArgs false
theorem code_at (i : Nat) (hi : i < 15) : codeL (i : Int) = codeT[i]'(by exact hi) := by
  unfold codeL
  rw [if_pos (by omega)]
  simp [List.getD_eq_getElem?_getD, List.getElem?_eq_getElem (show i < codeT.length from hi)]
  rfl
theorem ref_read_l (s : ByteArray) (body : List Int) (d : Nat) : ∀ (i k : Nat), i + d = 15 → 2 * d + 2 ≤ k → jalousieref21_Read.l0 k s body true (i : Int) = some (if indexL s.data.toList (codeT.drop i) = -1 then (0, [], 3) else ((i : Int) + indexL s.data.toList (codeT.drop i), body, 0)) := by
  induction d with
  | zero =>
    intro i k hi hk
    obtain ⟨k, rfl⟩ : ∃ k', k = k' + 2 := ⟨k - 2, by omega⟩
    obtain rfl : i = 15 := by omega
    simp only [jalousieref21_Read.l0, jalousieref21_Read.j1]
    rfl
  | succ d ih =>
    intro i k hi hk
    obtain ⟨k, rfl⟩ : ∃ k', k = k' + 2 := ⟨k - 2, by omega⟩
    have hlt : i < codeT.length := by show i < 15; omega
    have hge := indexL_ge s.data.toList (codeT.drop (i + 1))
    have hw : wrap64 ((i : Int) + 1) = ((i + 1 : Nat) : Int) := by rw [w64 _ (by omega) (by omega)]; omega
    simp only [jalousieref21_Read.l0, jalousieref21_Read.j1]
    rw [if_pos trivial, if_pos (decide_eq_true (by omega)), ref_Code_tells]
    simp only [Option.bind_some]
    rw [code_at i hlt, List.drop_eq_getElem_cons hlt]
    by_cases e : codeT[i] = s.data.toList
    · rw [if_pos (by rw [toList_data, toList_data, baOf_data, e]), indexL, if_pos e]
      simp
    · rw [if_neg (by rw [toList_data, toList_data, baOf_data]; exact e), hw, ih (i + 1) k (by omega) (by omega), indexL, if_neg e]
      by_cases h2 : indexL s.data.toList (codeT.drop (i + 1)) = -1
      · rw [if_pos h2, if_pos h2, if_pos rfl]
      · rw [if_neg h2, if_neg h2, if_neg (by omega)]
        congr 2
        omega
theorem ref_Read_tells (l : List Int) (hl : l.length < 140737488355328) : jalousieref21_Read.f 40 l = some (readW l) := by
  unfold jalousieref21_Read.f jalousieref21_Cut.f readW
  rw [if_pos hl]
  simp only [Option.bind_some]
  by_cases h : (cutI l).2.2 = true
  · rw [if_pos h]
    have := ref_read_l (strOfNums (cutI l).1) (cutI l).2.1 15 0 40 (by omega) (by omega)
    simp only [List.drop_zero, Int.natCast_zero, Int.zero_add] at this
    refine Eq.trans this ?_
    unfold codeOf
    by_cases h2 : indexL (strOfNums (cutI l).1).data.toList codeT = -1
    · rw [if_pos h2, if_neg (fun e => e.2 h2)]
    · rw [if_neg h2, if_pos ⟨h, h2⟩]
  · rw [if_neg h, if_neg (fun e => h e.1)]
    rfl
def answers5.T : Bool × List (List Nat × List Nat) := (true, [([], []), ([0], [0]), ([], []), ([2], [2]), ([3], [3]), ([1, 4], [1, 4]), ([5, 3], [5]), ([6], [6]), ([7, 6], [6, 7]), ([8, 6, 6], [6, 8]), ([6], [6]), ([10, 6], [6, 10]), ([11, 9, 6], [6, 11]), ([9, 12, 6], [6, 9, 12]), ([6, 13], [6, 13]), ([14, 12], [14]), ([15], [15]), ([16, 15], [15, 16]), ([15], [15]), ([18, 15], [15, 18]), ([17, 19, 15], [15, 17, 19]), ([15, 20], [15, 20]), ([21, 15], [21]), ([22], [22]), ([23, 22], [22, 23]), ([24, 22], [22, 24]), ([22], [22]), ([26, 22], [22, 26]), ([27, 22], [22, 27]), ([25, 28, 22], [22, 25, 28]), ([22, 29], [22, 29]), ([30, 22], [30]), ([31], [31]), ([31], [31]), ([32, 33, 31], [31, 32, 33]), ([31, 34], [31, 34])])
def answers5.B : List Nat := [0, 1, 0, 4, 12, 31, 63, 127, 255, 511, 127, 1151, 4095, 8191, 16383, 32767, 65535, 131071, 65535, 327679, 1048575, 2097151, 4194303, 8388607, 16777215, 33554431, 8388607, 75497471, 209715199, 536870911, 1073741823, 2147483647, 4294967295, 4294967295, 17179869183, 34359738367]
theorem answers5.tab : rtab .any (opsOf Tryd.f4 5) = answers5.T := by kernel_rfl
theorem answers5.bits : waitsOk answers5.T.2 answers5.B = true := by kernel_rfl
set_option maxHeartbeats 8000000 in
set_option maxRecDepth 100000 in
theorem WireAnswers.walk (en : Int) (A0 : Option Addr) (c0 : Nat) (l0 : List Int) (A1 : Option Addr) (c1 : Nat) (l1 : List Int) (w : World) (hT : Tabs w) (hr0 : Kd.C (Kd.int .u8) w A0 l0.length l0) (hc0 : l0.length ≤ c0) (hg0 : bytesB l0 = true) (hs0 : l0.length ≤ 4000000)
    (hr1 : Kd.C (Kd.int .u8) w A1 l1.length l1) (hc1 : l1.length ≤ c1) (hg1 : bytesB l1 = true) (hs1 : l1.length ≤ 4000000) (hn1 : A1 = none → c1 = 0) :
    Calls Tryd.prog 4 #[.agg #[.int .i64 en, .slice A0 l0.length c0], .slice A1 l1.length c1] w fun e w' => e = .returned (.bool true) ∧ Below w.heap.size w w' := by
  have HT := Lib.hid hT
  have HR0 := Lib.hid hr0
  have HR1 := Lib.hid hr1
  have HAN := Lib.hid (show wire_Answer.f en l0 = some (answerW en l0) by unfold wire_Answer.f; rw [if_pos (by omega)])
  have HAR := Lib.hid (show jalousieref21_Answer.f en l0 = some (answerW en l0) by unfold jalousieref21_Answer.f; rw [if_pos (by omega)])
  have hlen := answer_len en l0
  have hcs := code_small en
  have hgR := answer_bytes en l0 hg0
  have hin : (0 ≤ en ∧ en ≤ 14) → readW (answerW en l0) = (en, l0, 0) := fun h => read_answer h
  have HRD := Lib.hid (show wire_Read.f l1 = some (readW l1) by unfold wire_Read.f; rw [if_pos (by rw [hg1, Bool.true_and, decide_eq_true_eq]; omega)])
  have HRF := Lib.hid (ref_Read_tells l1 (by omega))
  have HRX := Lib.hid (show wire_Read.f (answerW en l0) = some (readW (answerW en l0)) by unfold wire_Read.f; rw [if_pos (by rw [hgR, Bool.true_and, decide_eq_true_eq]; omega)])
  have hpos : 0 < (answerW en l0).length := by omega
  generalize readW (answerW en l0) = RX at HRX hin
  generalize answerW en l0 = X at HAN HAR HRX hpos
  generalize readW l1 = RD at HRD HRF
  obtain ⟨x1, x2, x3⟩ := RX
  obtain ⟨d1, d2, d3⟩ := RD
  have HIN := Lib.hid hin
  have HC1 := Lib.hid (wire_Code_tells en)
  have HC2 := Lib.hid (ref_Code_tells en)
  generalize baOf (codeL en) = CS at HC1 HC2
  clear hT hr0 hr1 hlen hcs hgR hin hg0 hg1 hs0 hs1
  obtain ⟨gA, hgA⟩ : ∃ g, w.heap.size = g := ⟨_, rfl⟩
  have KA := Lib.hid (blk_new w (.cells #[.int .i64 en, .slice A0 l0.length c0] 36))
  have HB0 := Lib.hid (below_alloc (Below.refl w.heap.size w) (.cells #[.int .i64 en, .slice A0 l0.length c0] 36))
  go_enter Tryd.func4, Tryd.ntmps4
  go_wp2_with fail
  rw [hgA] at KA
  try simp only [hgA]
  generalize w.alloc (.cells #[.int .i64 en, .slice A0 l0.length c0] 36) = W0 at KA HB0 ⊢
  clear hgA
  (with_reducible refine (wire_Answer.calls en A0 c0 l0 X W0 (Kd.C_below HR0.out HB0.out) hc0 (HT.out.below HB0.out) HAN.out).mono ?_)
  rintro e w1 ⟨Ax, cx, rfl, hCx, hcx, hb⟩
  have KA1 := Lib.hid (blk_below KA.out hb)
  have HB1 := Lib.hid (below_step HB0.out hb)
  have HCX := Lib.hid hCx
  have hax : Ax = none → cx = 0 := fun h => by
    obtain ⟨ad, e, _⟩ := hCx.2.2 hpos
    rw [h] at e; cases e
  have HAX := Lib.hid hax
  clear hb hCx hax KA HB0
  go_wp2_with fail
  (with_reducible refine (wire_Read.calls A1 c1 l1 d1 d2 d3 w1 (Kd.C_below HR1.out HB1.out) hc1 hn1 (HT.out.below HB1.out) HRD.out).mono ?_)
  rintro e w2 ⟨v2, rfl, hr, hb⟩
  obtain ⟨A2, c2, rfl, hc2, hC2⟩ := Kd.R_reads hr
  have KA2 := Lib.hid (blk_alloc (blk_below KA1.out hb) (.cells #[.int .i64 d1, .slice A2 d2.length c2] 36))
  have K6 := Lib.hid (blk_new w2 (.cells #[.int .i64 d1, .slice A2 d2.length c2] 36))
  have HB2 := Lib.hid (below_alloc (below_step HB1.out hb) (.cells #[.int .i64 d1, .slice A2 d2.length c2] 36))
  have HCX2 := Lib.hid (Kd.C_below HCX.out (below_alloc hb (.cells #[.int .i64 d1, .slice A2 d2.length c2] 36)))
  have HC62 := Lib.hid (Kd.C_below hC2 (below_alloc (Below.refl w2.heap.size w2) (.cells #[.int .i64 d1, .slice A2 d2.length c2] 36)))
  clear hr hb hC2 KA1 HB1 HCX
  go_wp2_with fail
  obtain ⟨g6, hg6⟩ : ∃ g, w2.heap.size = g := ⟨_, rfl⟩
  rw [hg6] at K6
  try simp only [hg6]
  generalize w2.alloc (.cells #[.int .i64 d1, .slice A2 d2.length c2] 36) = w3 at KA2 K6 HB2 HCX2 HC62 ⊢
  clear hg6
  (with_reducible refine (jalousieref21_Read.calls 40 A1 c1 l1 d1 d2 d3 w3 (Kd.C_below HR1.out HB2.out) hc1 HRF.out).mono ?_)
  rintro e w4 ⟨v4, rfl, hr, hb⟩
  obtain ⟨A4, c4, rfl, hc4, hC4⟩ := Kd.R_reads hr
  have KA4 := Lib.hid (blk_alloc (blk_below KA2.out hb) (.cells #[.int .i64 d1, .slice A4 d2.length c4] 36))
  have K64 := Lib.hid (blk_alloc (blk_below K6.out hb) (.cells #[.int .i64 d1, .slice A4 d2.length c4] 36))
  have K8 := Lib.hid (blk_new w4 (.cells #[.int .i64 d1, .slice A4 d2.length c4] 36))
  have HB4 := Lib.hid (below_alloc (below_step HB2.out hb) (.cells #[.int .i64 d1, .slice A4 d2.length c4] 36))
  have HCX4 := Lib.hid (Kd.C_below HCX2.out (below_alloc hb (.cells #[.int .i64 d1, .slice A4 d2.length c4] 36)))
  have HC64 := Lib.hid (Kd.C_below HC62.out (below_alloc hb (.cells #[.int .i64 d1, .slice A4 d2.length c4] 36)))
  have HC84 := Lib.hid (Kd.C_below hC4 (below_alloc (Below.refl w4.heap.size w4) (.cells #[.int .i64 d1, .slice A4 d2.length c4] 36)))
  clear hr hb hC4 KA2 K6 HB2 HCX2 HC62
  go_wp2_with fail
  obtain ⟨g8, hg8⟩ : ∃ g, w4.heap.size = g := ⟨_, rfl⟩
  rw [hg8] at K8
  try simp only [hg8]
  generalize w4.alloc (.cells #[.int .i64 d1, .slice A4 d2.length c4] 36) = w5 at KA4 K64 K8 HB4 HCX4 HC64 HC84 ⊢
  clear hg8
  (with_reducible refine (wire_Read.calls Ax cx X x1 x2 x3 w5 HCX4.out hcx HAX.out (HT.out.below HB4.out) HRX.out).mono ?_)
  rintro e w6 ⟨v6, rfl, hr, hb⟩
  obtain ⟨A6, c6, rfl, hc6, hC6⟩ := Kd.R_reads hr
  have KA6 := Lib.hid (blk_alloc (blk_below KA4.out hb) (.cells #[.int .i64 x1, .slice A6 x2.length c6] 36))
  have K66 := Lib.hid (blk_alloc (blk_below K64.out hb) (.cells #[.int .i64 x1, .slice A6 x2.length c6] 36))
  have K86 := Lib.hid (blk_alloc (blk_below K8.out hb) (.cells #[.int .i64 x1, .slice A6 x2.length c6] 36))
  have K10 := Lib.hid (blk_new w6 (.cells #[.int .i64 x1, .slice A6 x2.length c6] 36))
  have HB6 := Lib.hid (below_alloc (below_step HB4.out hb) (.cells #[.int .i64 x1, .slice A6 x2.length c6] 36))
  have HCX6 := Lib.hid (Kd.C_below HCX4.out (below_alloc hb (.cells #[.int .i64 x1, .slice A6 x2.length c6] 36)))
  have HC66 := Lib.hid (Kd.C_below HC64.out (below_alloc hb (.cells #[.int .i64 x1, .slice A6 x2.length c6] 36)))
  have HC86 := Lib.hid (Kd.C_below HC84.out (below_alloc hb (.cells #[.int .i64 x1, .slice A6 x2.length c6] 36)))
  have HC106 := Lib.hid (Kd.C_below hC6 (below_alloc (Below.refl w6.heap.size w6) (.cells #[.int .i64 x1, .slice A6 x2.length c6] 36)))
  clear hr hb hC6 KA4 K64 K8 HB4 HCX4 HC64 HC84
  go_upto_region 5 with (fail)
  obtain ⟨g10, hg10⟩ : ∃ g, w6.heap.size = g := ⟨_, rfl⟩
  rw [hg10] at K10
  try simp only [hg10]
  generalize w6.alloc (.cells #[.int .i64 x1, .slice A6 x2.length c6] 36) = w7 at KA6 K66 K86 K10 HB6 HCX6 HC66 HC86 HC106 ⊢
  clear hg10
  have hF : ∀ W, Below w7.heap.size w7 W → (W.cell? ⟨gA, 0, none⟩ = some (.int .i64 en) ∧ W.cell? ⟨gA, 1, none⟩ = some (.slice A0 l0.length c0) ∧ W.cell? ⟨g6, 0, none⟩ = some (.int .i64 d1) ∧ W.cell? ⟨g6, 1, none⟩ = some (.slice A2 d2.length c2) ∧ W.cell? ⟨g8, 0, none⟩ = some (.int .i64 d1) ∧ W.cell? ⟨g8, 1, none⟩ = some (.slice A4 d2.length c4) ∧ W.cell? ⟨g10, 0, none⟩ = some (.int .i64 x1) ∧ W.cell? ⟨g10, 1, none⟩ = some (.slice A6 x2.length c6)) ∧
      (convert 22 9 (.slice Ax X.length cx)).run Tryd.prog W = .ok (.string (strOfNums X)) W ∧ (convert 22 9 (.slice A2 d2.length c2)).run Tryd.prog W = .ok (.string (strOfNums d2)) W ∧ (convert 22 9 (.slice A4 d2.length c4)).run Tryd.prog W = .ok (.string (strOfNums d2)) W ∧
      (convert 22 9 (.slice A6 x2.length c6)).run Tryd.prog W = .ok (.string (strOfNums x2)) W ∧ (convert 22 9 (.slice A0 l0.length c0)).run Tryd.prog W = .ok (.string (strOfNums l0)) W := fun W hb =>
    ⟨⟨(blk_cell (blk_below KA6.out hb) 0).trans rfl, (blk_cell (blk_below KA6.out hb) 1).trans rfl, (blk_cell (blk_below K66.out hb) 0).trans rfl, (blk_cell (blk_below K66.out hb) 1).trans rfl, (blk_cell (blk_below K86.out hb) 0).trans rfl, (blk_cell (blk_below K86.out hb) 1).trans rfl, (blk_cell (blk_below K10.out hb) 0).trans rfl, (blk_cell (blk_below K10.out hb) 1).trans rfl⟩,
      Kd.C_string (P := Tryd.prog) (A := Ax) (c := cx) Tryd.underlying22 Tryd.underlying5 Tryd.underlying9 (Kd.C_below HCX6.out hb), Kd.C_string (P := Tryd.prog) (A := A2) (c := c2) Tryd.underlying22 Tryd.underlying5 Tryd.underlying9 (Kd.C_below HC66.out hb),
      Kd.C_string (P := Tryd.prog) (A := A4) (c := c4) Tryd.underlying22 Tryd.underlying5 Tryd.underlying9 (Kd.C_below HC86.out hb), Kd.C_string (P := Tryd.prog) (A := A6) (c := c6) Tryd.underlying22 Tryd.underlying5 Tryd.underlying9 (Kd.C_below HC106.out hb),
      Kd.C_string (P := Tryd.prog) (A := A0) (c := c0) Tryd.underlying22 Tryd.underlying5 Tryd.underlying9 (Kd.C_below HR0.out (below_step HB6.out hb))⟩
  have HFF := Lib.hid hF
  have B7 := Lib.hid (below_drew (Below.refl w7.heap.size w7))
  have n1 : ((strOfNums X).toList != (strOfNums X).toList) = false := by simp
  have n2 : (CS.toList != CS.toList) = false := by simp
  have n3 : ((strOfNums d2).toList != (strOfNums d2).toList) = false := by simp
  have n4 : (d1 != d1) = false := by simp
  have n5 : (d3 != d3) = false := by simp
  clear hF KA6 K66 K86 K10 HCX6 HC66 HC86 HC106
  refine start_ (n := 36) (S := fun w' => Below w7.heap.size w7 w') (ds := []) #[false, false, false, false, false, false, false, false, false, false, false, false, false, false, false, false, false, false, false, false, false, false, false, false, false, false, false, false, false, false, false, false, false, false, false, false] (by kernel_rfl) rfl rfl (B7.out) (fun hHeld => ?_); refine with_tabW answers5.tab answers5.bits (fun HT_ HW_ => ?_)
  refine pure_ (i := 0) (N := some 29) (v := ?_) (a' := ?_) #[true, false, false, false, false, false, false, false, false, false, false, false, false, false, false, false, false, false, false, false, false, false, false, false, false, false, false, false, false, false, false, false, false, false, false, false] rfl rfl (any_of HT_.out (by kernel_rfl)) (fun _ _ _ h => h) (Or.inl ⟨by rfl, ?_⟩) ?_ ?_; rotate_left; (intro w'; go_simp; with_reducible rfl); rotate_left; (simp only [Act.put, List.setIfInBounds_toArray, List.set_cons_zero, List.set_cons_succ, i64_w, i32_w]; rfl)
  refine take_ (i := 1) (N := some 30) (v := ?_) (a' := ?_) #[true, true, false, false, false, false, false, false, false, false, false, false, false, false, false, false, false, false, false, false, false, false, false, false, false, false, false, false, false, false, false, false, false, false, false, false] rfl rfl (take_ofW HT_.out HW_.out (by kernel_rfl)) (fun _ _ _ h => h) (Or.inl ⟨by rfl, ?_⟩) hHeld ?_ ?_; rotate_left; (intro w' s0; obtain ⟨⟨e0, e1, e2, e3, e4, e5, e6, e7⟩, v1, v2, v3, v4, v5⟩ := HFF.out _ s0; go_simp; with_reducible rfl); rotate_left; (simp only [Act.put, List.setIfInBounds_toArray, List.set_cons_zero, List.set_cons_succ, i64_w, i32_w]; rfl)
  refine take_ (i := 2) (N := some 31) (v := ?_) (a' := ?_) #[true, true, true, false, false, false, false, false, false, false, false, false, false, false, false, false, false, false, false, false, false, false, false, false, false, false, false, false, false, false, false, false, false, false, false, false] rfl rfl (take_ofW HT_.out HW_.out (by kernel_rfl)) (fun _ _ _ h => h) (Or.inl ⟨by rfl, ?_⟩) hHeld ?_ ?_; rotate_left; (intro w' s0; obtain ⟨⟨e0, e1, e2, e3, e4, e5, e6, e7⟩, v1, v2, v3, v4, v5⟩ := HFF.out _ s0; go_simp; with_reducible rfl); rotate_left; (simp only [Act.put, List.setIfInBounds_toArray, List.set_cons_zero, List.set_cons_succ, i64_w, i32_w]; rfl)
  refine one_ (i := 3) (N := some 32) #[true, true, true, true, false, false, false, false, false, false, false, false, false, false, false, false, false, false, false, false, false, false, false, false, false, false, false, false, false, false, false, false, false, false, false, false] rfl rfl (one_of HT_.out (by kernel_rfl)) (by decide) (fun K hK => ?_)
  refine goes_ Tryd.func15 (by kernel_rfl) rfl #[.agg #[.int .i64 en, .slice A0 l0.length c0]] (by rfl) rfl rfl (by (try simp only [List.map_toArray, List.map_cons, List.map_nil]); first | done | rfl) ?_
  (with_reducible refine (jalousieref21_Answer.calls en A0 c0 l0 X _ (Kd.C_below HR0.out (below_step HB6.out B7.out)) hc0 HAR.out).mono ?_)
  rintro e w8 ⟨Ay, cy, rfl, hCy, hcy, hb⟩
  refine ⟨_, rfl, ?_⟩
  have HB8 := Lib.hid (below_step B7.out hb)
  have HCY := Lib.hid (Kd.C_string (P := Tryd.prog) (A := Ay) (c := cy) Tryd.underlying22 Tryd.underlying5 Tryd.underlying9 hCy)
  clear hb hCy
  refine hK.out _ _ (HB8.out) (fun hHeld => ?_); clear hK K; refine norm_ (a' := ?_) ?_ ?_; rotate_left; (show Act.put _ (some 32) _ = _; (simp only [Act.put, List.setIfInBounds_toArray, List.set_cons_zero, List.set_cons_succ, i64_w, i32_w]; rfl))
  refine one_ (i := 4) (N := some 33) #[true, true, true, true, true, false, false, false, false, false, false, false, false, false, false, false, false, false, false, false, false, false, false, false, false, false, false, false, false, false, false, false, false, false, false, false] rfl rfl (one_of HT_.out (by kernel_rfl)) (by decide) (fun K hK => ?_)
  refine event_step (by rfl) (conv_run rfl rfl HCY.out) ?_
  refine hK.out _ _ (HB8.out) (fun hHeld => ?_); clear hK K; refine norm_ (a' := ?_) ?_ ?_; rotate_left; (show Act.put _ (some 33) _ = _; (simp only [Act.put, List.setIfInBounds_toArray, List.set_cons_zero, List.set_cons_succ, i64_w, i32_w]; rfl))
  refine pure_ (i := 5) (N := some 34) (v := ?_) (a' := ?_) #[true, true, true, true, true, true, false, false, false, false, false, false, false, false, false, false, false, false, false, false, false, false, false, false, false, false, false, false, false, false, false, false, false, false, false, false] rfl rfl (any_of HT_.out (by kernel_rfl)) (fun _ _ _ h => h) (Or.inl ⟨by rfl, ?_⟩) ?_ ?_; rotate_left; (intro w'; go_simp; with_reducible rfl); rotate_left; (simp only [Act.put, List.setIfInBounds_toArray, List.set_cons_zero, List.set_cons_succ, i64_w, i32_w]; rfl)
  refine pure_ (i := 6) (N := some 35) (v := ?_) (a' := ?_) #[true, true, true, true, true, true, true, false, false, false, false, false, false, false, false, false, false, false, false, false, false, false, false, false, false, false, false, false, false, false, false, false, false, false, false, false] rfl rfl (any_of HT_.out (by kernel_rfl)) (fun _ _ _ h => h) (Or.inl ⟨by rfl, ?_⟩) ?_ ?_; rotate_left; (intro w'; go_simp; with_reducible rfl); rotate_left; (simp only [Act.put, List.setIfInBounds_toArray, List.set_cons_zero, List.set_cons_succ, i64_w, i32_w]; rfl)
  refine pure_ (i := 7) (N := some 36) (v := ?_) (a' := ?_) #[true, true, true, true, true, true, true, true, false, false, false, false, false, false, false, false, false, false, false, false, false, false, false, false, false, false, false, false, false, false, false, false, false, false, false, false] rfl rfl (any_of HT_.out (by kernel_rfl)) (fun _ _ _ h => h) (Or.inl ⟨by rfl, ?_⟩) ?_ ?_; rotate_left; (intro w'; go_simp; with_reducible rfl); rotate_left; (simp only [Act.put, List.setIfInBounds_toArray, List.set_cons_zero, List.set_cons_succ, i64_w, i32_w]; rfl)
  refine pure_ (i := 10) (N := some 39) (v := ?_) (a' := ?_) #[true, true, true, true, true, true, true, true, false, false, true, false, false, false, false, false, false, false, false, false, false, false, false, false, false, false, false, false, false, false, false, false, false, false, false, false] rfl rfl (any_of HT_.out (by kernel_rfl)) (fun _ _ _ h => h) (Or.inl ⟨by rfl, ?_⟩) ?_ ?_; rotate_left; (intro w'; go_simp; with_reducible rfl); rotate_left; (simp only [Act.put, List.setIfInBounds_toArray, List.set_cons_zero, List.set_cons_succ, i64_w, i32_w]; rfl)
  refine take_ (i := 8) (N := some 37) (v := ?_) (a' := ?_) #[true, true, true, true, true, true, true, true, true, false, true, false, false, false, false, false, false, false, false, false, false, false, false, false, false, false, false, false, false, false, false, false, false, false, false, false] rfl rfl (take_ofW HT_.out HW_.out (by kernel_rfl)) (fun _ _ _ h => h) (Or.inl ⟨by rfl, ?_⟩) hHeld ?_ ?_; rotate_left; (intro w' s0; obtain ⟨⟨e0, e1, e2, e3, e4, e5, e6, e7⟩, v1, v2, v3, v4, v5⟩ := HFF.out _ s0; go_simp; with_reducible rfl); rotate_left; (simp only [Act.put, List.setIfInBounds_toArray, List.set_cons_zero, List.set_cons_succ, i64_w, i32_w]; rfl)
  refine take_ (i := 11) (N := some 40) (v := ?_) (a' := ?_) #[true, true, true, true, true, true, true, true, true, false, true, true, false, false, false, false, false, false, false, false, false, false, false, false, false, false, false, false, false, false, false, false, false, false, false, false] rfl rfl (take_ofW HT_.out HW_.out (by kernel_rfl)) (fun _ _ _ h => h) (Or.inl ⟨by rfl, ?_⟩) hHeld ?_ ?_; rotate_left; (intro w' s0; obtain ⟨⟨e0, e1, e2, e3, e4, e5, e6, e7⟩, v1, v2, v3, v4, v5⟩ := HFF.out _ s0; go_simp; with_reducible rfl); rotate_left; (simp only [Act.put, List.setIfInBounds_toArray, List.set_cons_zero, List.set_cons_succ, i64_w, i32_w]; rfl)
  refine one_ (i := 9) (N := some 38) #[true, true, true, true, true, true, true, true, true, true, true, true, false, false, false, false, false, false, false, false, false, false, false, false, false, false, false, false, false, false, false, false, false, false, false, false] rfl rfl (one_of HT_.out (by kernel_rfl)) (by decide) (fun K hK => ?_)
  refine goes_ Tryd.func16 (by kernel_rfl) rfl #[.int .i64 en] (by rfl) rfl rfl (by (try simp only [List.map_toArray, List.map_cons, List.map_nil]); first | done | rfl) ?_
  (with_reducible refine (wire_Code.calls en CS _ (HT.out.below (below_step HB6.out HB8.out)) HC1.out).mono ?_)
  rintro e w9 ⟨rfl, hb⟩
  refine ⟨_, rfl, ?_⟩
  have HB9 := Lib.hid (below_step HB8.out hb)
  clear hb
  refine hK.out _ _ (HB9.out) (fun hHeld => ?_); clear hK K; refine norm_ (a' := ?_) ?_ ?_; rotate_left; (show Act.put _ (some 38) _ = _; (simp only [Act.put, List.setIfInBounds_toArray, List.set_cons_zero, List.set_cons_succ, i64_w, i32_w]; rfl))
  refine one_ (i := 12) (N := some 41) #[true, true, true, true, true, true, true, true, true, true, true, true, true, false, false, false, false, false, false, false, false, false, false, false, false, false, false, false, false, false, false, false, false, false, false, false] rfl rfl (one_of HT_.out (by kernel_rfl)) (by decide) (fun K hK => ?_)
  refine goes_ Tryd.func17 (by kernel_rfl) rfl #[.int .i64 en] (by rfl) rfl rfl (by (try simp only [List.map_toArray, List.map_cons, List.map_nil]); first | done | rfl) ?_
  (with_reducible refine (jalousieref21_Code.calls en CS _ HC2.out).mono ?_)
  rintro e wA ⟨rfl, hb⟩
  refine ⟨_, rfl, ?_⟩
  have HBA := Lib.hid (below_step HB9.out hb)
  clear hb
  refine hK.out _ _ (HBA.out) (fun hHeld => ?_); clear hK K; refine norm_ (a' := ?_) ?_ ?_; rotate_left; (show Act.put _ (some 41) _ = _; (simp only [Act.put, List.setIfInBounds_toArray, List.set_cons_zero, List.set_cons_succ, i64_w, i32_w]; rfl))
  refine pure_ (i := 13) (N := some 42) (v := ?_) (a' := ?_) #[true, true, true, true, true, true, true, true, true, true, true, true, true, true, false, false, false, false, false, false, false, false, false, false, false, false, false, false, false, false, false, false, false, false, false, false] rfl rfl (any_of HT_.out (by kernel_rfl)) (fun _ _ _ h => h) (Or.inl ⟨by rfl, ?_⟩) ?_ ?_; rotate_left; (intro w'; go_simp; with_reducible rfl); rotate_left; (simp only [Act.put, List.setIfInBounds_toArray, List.set_cons_zero, List.set_cons_succ, i64_w, i32_w]; rfl)
  refine pure_ (i := 14) (N := some 43) (v := ?_) (a' := ?_) #[true, true, true, true, true, true, true, true, true, true, true, true, true, true, true, false, false, false, false, false, false, false, false, false, false, false, false, false, false, false, false, false, false, false, false, false] rfl rfl (any_of HT_.out (by kernel_rfl)) (fun _ _ _ h => h) (Or.inl ⟨by rfl, ?_⟩) ?_ ?_; rotate_left; (intro w'; go_simp; with_reducible rfl); rotate_left; (simp only [Act.put, List.setIfInBounds_toArray, List.set_cons_zero, List.set_cons_succ, i64_w, i32_w]; rfl)
  refine pure_ (i := 15) (N := some 44) (v := ?_) (a' := ?_) #[true, true, true, true, true, true, true, true, true, true, true, true, true, true, true, true, false, false, false, false, false, false, false, false, false, false, false, false, false, false, false, false, false, false, false, false] rfl rfl (any_of HT_.out (by kernel_rfl)) (fun _ _ _ h => h) (Or.inl ⟨by rfl, ?_⟩) ?_ ?_; rotate_left; (intro w'; go_simp; with_reducible rfl); rotate_left; (simp only [Act.put, List.setIfInBounds_toArray, List.set_cons_zero, List.set_cons_succ, i64_w, i32_w]; rfl)
  refine pure_ (i := 16) (N := some 45) (v := ?_) (a' := ?_) #[true, true, true, true, true, true, true, true, true, true, true, true, true, true, true, true, true, false, false, false, false, false, false, false, false, false, false, false, false, false, false, false, false, false, false, false] rfl rfl (any_of HT_.out (by kernel_rfl)) (fun _ _ _ h => h) (Or.inl ⟨by rfl, ?_⟩) ?_ ?_; rotate_left; (intro w'; go_simp; with_reducible rfl); rotate_left; (simp only [Act.put, List.setIfInBounds_toArray, List.set_cons_zero, List.set_cons_succ, i64_w, i32_w]; rfl)
  refine pure_ (i := 18) (N := some 47) (v := ?_) (a' := ?_) #[true, true, true, true, true, true, true, true, true, true, true, true, true, true, true, true, true, false, true, false, false, false, false, false, false, false, false, false, false, false, false, false, false, false, false, false] rfl rfl (any_of HT_.out (by kernel_rfl)) (fun _ _ _ h => h) (Or.inl ⟨by rfl, ?_⟩) ?_ ?_; rotate_left; (intro w'; go_simp; with_reducible rfl); rotate_left; (simp only [Act.put, List.setIfInBounds_toArray, List.set_cons_zero, List.set_cons_succ, i64_w, i32_w]; rfl)
  refine take_ (i := 17) (N := some 46) (v := ?_) (a' := ?_) #[true, true, true, true, true, true, true, true, true, true, true, true, true, true, true, true, true, true, true, false, false, false, false, false, false, false, false, false, false, false, false, false, false, false, false, false] rfl rfl (take_ofW HT_.out HW_.out (by kernel_rfl)) (fun _ _ _ h => h) (Or.inl ⟨by rfl, ?_⟩) hHeld ?_ ?_; rotate_left; (intro w' s0; obtain ⟨⟨e0, e1, e2, e3, e4, e5, e6, e7⟩, v1, v2, v3, v4, v5⟩ := HFF.out _ s0; go_simp; with_reducible rfl); rotate_left; (simp only [Act.put, List.setIfInBounds_toArray, List.set_cons_zero, List.set_cons_succ, i64_w, i32_w]; rfl)
  refine take_ (i := 19) (N := some 48) (v := ?_) (a' := ?_) #[true, true, true, true, true, true, true, true, true, true, true, true, true, true, true, true, true, true, true, true, false, false, false, false, false, false, false, false, false, false, false, false, false, false, false, false] rfl rfl (take_ofW HT_.out HW_.out (by kernel_rfl)) (fun _ _ _ h => h) (Or.inl ⟨by rfl, ?_⟩) hHeld ?_ ?_; rotate_left; (intro w' s0; obtain ⟨⟨e0, e1, e2, e3, e4, e5, e6, e7⟩, v1, v2, v3, v4, v5⟩ := HFF.out _ s0; go_simp; with_reducible rfl); rotate_left; (simp only [Act.put, List.setIfInBounds_toArray, List.set_cons_zero, List.set_cons_succ, i64_w, i32_w]; rfl)
  refine pure_ (i := 20) (N := some 49) (v := ?_) (a' := ?_) #[true, true, true, true, true, true, true, true, true, true, true, true, true, true, true, true, true, true, true, true, true, false, false, false, false, false, false, false, false, false, false, false, false, false, false, false] rfl rfl (any_of HT_.out (by kernel_rfl)) (fun _ _ _ h => h) (Or.inl ⟨by rfl, ?_⟩) ?_ ?_; rotate_left; (intro w'; go_simp; with_reducible rfl); rotate_left; (simp only [Act.put, List.setIfInBounds_toArray, List.set_cons_zero, List.set_cons_succ, i64_w, i32_w]; rfl)
  refine pure_ (i := 21) (N := some 50) (v := ?_) (a' := ?_) #[true, true, true, true, true, true, true, true, true, true, true, true, true, true, true, true, true, true, true, true, true, true, false, false, false, false, false, false, false, false, false, false, false, false, false, false] rfl rfl (any_of HT_.out (by kernel_rfl)) (fun _ _ _ h => h) (Or.inl ⟨by rfl, ?_⟩) ?_ ?_; rotate_left; (intro w'; go_simp; with_reducible rfl); rotate_left; (simp only [Act.put, List.setIfInBounds_toArray, List.set_cons_zero, List.set_cons_succ, i64_w, i32_w]; rfl)
  refine pure_ (i := 22) (N := some 51) (v := ?_) (a' := ?_) #[true, true, true, true, true, true, true, true, true, true, true, true, true, true, true, true, true, true, true, true, true, true, true, false, false, false, false, false, false, false, false, false, false, false, false, false] rfl rfl (any_of HT_.out (by kernel_rfl)) (fun _ _ _ h => h) (Or.inl ⟨by rfl, ?_⟩) ?_ ?_; rotate_left; (intro w'; go_simp; with_reducible rfl); rotate_left; (simp only [Act.put, List.setIfInBounds_toArray, List.set_cons_zero, List.set_cons_succ, i64_w, i32_w]; rfl)
  refine pure_ (i := 23) (N := some 52) (v := ?_) (a' := ?_) #[true, true, true, true, true, true, true, true, true, true, true, true, true, true, true, true, true, true, true, true, true, true, true, true, false, false, false, false, false, false, false, false, false, false, false, false] rfl rfl (any_of HT_.out (by kernel_rfl)) (fun _ _ _ h => h) (Or.inl ⟨by rfl, ?_⟩) ?_ ?_; rotate_left; (intro w'; go_simp; with_reducible rfl); rotate_left; (simp only [Act.put, List.setIfInBounds_toArray, List.set_cons_zero, List.set_cons_succ, i64_w, i32_w]; rfl)
  refine pure_ (i := 26) (N := some 55) (v := ?_) (a' := ?_) #[true, true, true, true, true, true, true, true, true, true, true, true, true, true, true, true, true, true, true, true, true, true, true, true, false, false, true, false, false, false, false, false, false, false, false, false] rfl rfl (any_of HT_.out (by kernel_rfl)) (fun _ _ _ h => h) (Or.inl ⟨by rfl, ?_⟩) ?_ ?_; rotate_left; (intro w'; go_simp; with_reducible rfl); rotate_left; (simp only [Act.put, List.setIfInBounds_toArray, List.set_cons_zero, List.set_cons_succ, i64_w, i32_w]; rfl)
  refine take_ (i := 24) (N := some 53) (v := ?_) (a' := ?_) #[true, true, true, true, true, true, true, true, true, true, true, true, true, true, true, true, true, true, true, true, true, true, true, true, true, false, true, false, false, false, false, false, false, false, false, false] rfl rfl (take_ofW HT_.out HW_.out (by kernel_rfl)) (fun _ _ _ h => h) (Or.inl ⟨by rfl, ?_⟩) hHeld ?_ ?_; rotate_left; (intro w' s0; obtain ⟨⟨e0, e1, e2, e3, e4, e5, e6, e7⟩, v1, v2, v3, v4, v5⟩ := HFF.out _ s0; go_simp; with_reducible rfl); rotate_left; (simp only [Act.put, List.setIfInBounds_toArray, List.set_cons_zero, List.set_cons_succ, i64_w, i32_w]; rfl)
  refine take_ (i := 25) (N := some 54) (v := ?_) (a' := ?_) #[true, true, true, true, true, true, true, true, true, true, true, true, true, true, true, true, true, true, true, true, true, true, true, true, true, true, true, false, false, false, false, false, false, false, false, false] rfl rfl (take_ofW HT_.out HW_.out (by kernel_rfl)) (fun _ _ _ h => h) (Or.inl ⟨by rfl, ?_⟩) hHeld ?_ ?_; rotate_left; (intro w' s0; obtain ⟨⟨e0, e1, e2, e3, e4, e5, e6, e7⟩, v1, v2, v3, v4, v5⟩ := HFF.out _ s0; go_simp; with_reducible rfl); rotate_left; (simp only [Act.put, List.setIfInBounds_toArray, List.set_cons_zero, List.set_cons_succ, i64_w, i32_w]; rfl)
  refine take_ (i := 27) (N := some 56) (v := ?_) (a' := ?_) #[true, true, true, true, true, true, true, true, true, true, true, true, true, true, true, true, true, true, true, true, true, true, true, true, true, true, true, true, false, false, false, false, false, false, false, false] rfl rfl (take_ofW HT_.out HW_.out (by kernel_rfl)) (fun _ _ _ h => h) (Or.inl ⟨by rfl, ?_⟩) hHeld ?_ ?_; rotate_left; (intro w' s0; obtain ⟨⟨e0, e1, e2, e3, e4, e5, e6, e7⟩, v1, v2, v3, v4, v5⟩ := HFF.out _ s0; go_simp; with_reducible rfl); rotate_left; (simp only [Act.put, List.setIfInBounds_toArray, List.set_cons_zero, List.set_cons_succ, i64_w, i32_w]; rfl)
  refine take_ (i := 28) (N := some 57) (v := ?_) (a' := ?_) #[true, true, true, true, true, true, true, true, true, true, true, true, true, true, true, true, true, true, true, true, true, true, true, true, true, true, true, true, true, false, false, false, false, false, false, false] rfl rfl (take_ofW HT_.out HW_.out (by kernel_rfl)) (fun _ _ _ h => h) (Or.inl ⟨by rfl, ?_⟩) hHeld ?_ ?_; rotate_left; (intro w' s0; obtain ⟨⟨e0, e1, e2, e3, e4, e5, e6, e7⟩, v1, v2, v3, v4, v5⟩ := HFF.out _ s0; go_simp; with_reducible rfl); rotate_left; (simp only [Act.put, List.setIfInBounds_toArray, List.set_cons_zero, List.set_cons_succ, i64_w, i32_w]; rfl)
  refine pure_ (i := 29) (N := some 58) (v := ?_) (a' := ?_) #[true, true, true, true, true, true, true, true, true, true, true, true, true, true, true, true, true, true, true, true, true, true, true, true, true, true, true, true, true, true, false, false, false, false, false, false] rfl rfl (any_of HT_.out (by kernel_rfl)) (fun _ _ _ h => h) (Or.inl ⟨by rfl, ?_⟩) ?_ ?_; rotate_left; (intro w'; go_simp; with_reducible rfl); rotate_left; (simp only [Act.put, List.setIfInBounds_toArray, List.set_cons_zero, List.set_cons_succ, i64_w, i32_w]; rfl)
  refine pure_ (i := 30) (N := some 59) (v := ?_) (a' := ?_) #[true, true, true, true, true, true, true, true, true, true, true, true, true, true, true, true, true, true, true, true, true, true, true, true, true, true, true, true, true, true, true, false, false, false, false, false] rfl rfl (any_of HT_.out (by kernel_rfl)) (fun _ _ _ h => h) (Or.inl ⟨by rfl, ?_⟩) ?_ ?_; rotate_left; (intro w'; go_simp; with_reducible rfl); rotate_left; (simp only [Act.put, List.setIfInBounds_toArray, List.set_cons_zero, List.set_cons_succ, i64_w, i32_w]; rfl)
  refine pure_ (i := 31) (N := some 60) (v := ?_) (a' := ?_) #[true, true, true, true, true, true, true, true, true, true, true, true, true, true, true, true, true, true, true, true, true, true, true, true, true, true, true, true, true, true, true, true, false, false, false, false] rfl rfl (any_of HT_.out (by kernel_rfl)) (fun _ _ _ h => h) (Or.inl ⟨by rfl, ?_⟩) ?_ ?_; rotate_left; (intro w'; go_simp; with_reducible rfl); rotate_left; (simp only [Act.put, List.setIfInBounds_toArray, List.set_cons_zero, List.set_cons_succ, i64_w, i32_w]; rfl)
  refine pure_ (i := 32) (N := some 61) (v := ?_) (a' := ?_) #[true, true, true, true, true, true, true, true, true, true, true, true, true, true, true, true, true, true, true, true, true, true, true, true, true, true, true, true, true, true, true, true, true, false, false, false] rfl rfl (any_of HT_.out (by kernel_rfl)) (fun _ _ _ h => h) (Or.inl ⟨by rfl, ?_⟩) ?_ ?_; rotate_left; (intro w'; go_simp; with_reducible rfl); rotate_left; (simp only [Act.put, List.setIfInBounds_toArray, List.set_cons_zero, List.set_cons_succ, i64_w, i32_w]; rfl)
  refine pure_ (i := 33) (N := some 62) (v := ?_) (a' := ?_) #[true, true, true, true, true, true, true, true, true, true, true, true, true, true, true, true, true, true, true, true, true, true, true, true, true, true, true, true, true, true, true, true, true, true, false, false] rfl rfl (any_of HT_.out (by kernel_rfl)) (fun _ _ _ h => h) (Or.inl ⟨by rfl, ?_⟩) ?_ ?_; rotate_left; (intro w'; go_simp; with_reducible rfl); rotate_left; (simp only [Act.put, List.setIfInBounds_toArray, List.set_cons_zero, List.set_cons_succ, i64_w, i32_w]; rfl)
  refine pure_ (i := 34) (N := some 63) (v := ?_) (a' := ?_) #[true, true, true, true, true, true, true, true, true, true, true, true, true, true, true, true, true, true, true, true, true, true, true, true, true, true, true, true, true, true, true, true, true, true, true, false] rfl rfl (any_of HT_.out (by kernel_rfl)) (fun _ _ _ h => h) (Or.inl ⟨by rfl, ?_⟩) ?_ ?_; rotate_left; (intro w'; go_simp; with_reducible rfl); rotate_left; (simp only [Act.put, List.setIfInBounds_toArray, List.set_cons_zero, List.set_cons_succ, i64_w, i32_w]; rfl)
  refine pure_ (i := 35) (N := some 64) (v := ?_) (a' := ?_) #[true, true, true, true, true, true, true, true, true, true, true, true, true, true, true, true, true, true, true, true, true, true, true, true, true, true, true, true, true, true, true, true, true, true, true, true] rfl rfl (any_of HT_.out (by kernel_rfl)) (fun _ _ _ h => h) (Or.inl ⟨by rfl, ?_⟩) ?_ ?_; rotate_left; (intro w'; go_simp; with_reducible rfl); rotate_left; (simp only [Act.put, List.setIfInBounds_toArray, List.set_cons_zero, List.set_cons_succ, i64_w, i32_w]; rfl)
  refine done_ (done_of HT_.out (by kernel_rfl)) ?_
  clear n1 n2 n3 n4 n5
  go_wp2_with fail
  (with_reducible refine (jalousielaw21_live.calls true _ (HT.out.below (below_step HB6.out HBA.out)) rfl).mono ?_)
  rintro e wB ⟨rfl, hb⟩
  have HBB := Lib.hid (below_step HBA.out hb)
  obtain ⟨⟨e0, e1, e2, e3, e4, e5, e6, e7⟩, v1, v2, v3, v4, v5⟩ := HFF.out _ HBB.out
  clear hb e2 e3 e4 e5 v1 v2 v3
  by_cases h0 : en < 0
  · have q1 : decide (en < 0) = true := decide_eq_true h0
    go_wp2
    go_ret
    exact ⟨rfl, below_step HB6.out HBB.out⟩
  · have q1 : decide (en < 0) = false := decide_eq_false h0
    by_cases h1 : 14 < en
    · have q2 : decide (14 < en) = true := decide_eq_true h1
      go_wp2
      go_ret
      exact ⟨rfl, below_step HB6.out HBB.out⟩
    · have q2 : decide (14 < en) = false := decide_eq_false h1
      have hX := HIN.out ⟨by omega, by omega⟩
      injection hX with g1 g2
      injection g2 with g2 g3
      subst g1 g2 g3
      have n1 : (x1 == x1) = true := by simp
      have n2 : ((strOfNums x2).toList == (strOfNums x2).toList) = true := by simp
      go_wp2
      go_ret
      exact ⟨by first | rfl | (simp; done), below_step HB6.out HBB.out⟩
end Go.Proofs.YthaimkdnddmokaaDoor.P

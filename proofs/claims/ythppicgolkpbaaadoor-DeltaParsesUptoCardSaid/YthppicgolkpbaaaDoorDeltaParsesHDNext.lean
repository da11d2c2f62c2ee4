/- delta.lines' way that builds its items' lines (a builder that the call makes); condition as in DLines. -/
import Derived.Test.YthppicgolkpbaaaDoorDeltaParsesGHDLines
import Derived.Test.YthppicgolkpbaaaDoorDeltaParsesGHDLeft
namespace Go.Proofs.YthppicgolkpbaaaDoor.P
open Go.RowKit Go.Proofs.YthppicgolkpbaaaDoorW.PrintWords Go.Proofs.YthppicgolkpbaaaDoorW.PrintLast Go.Proofs.YthppicgolkpbaaaDoorW.PrintMore
set_option linter.unusedVariables false
set_option linter.unusedSimpArgs false
def roomL (l : List S41) : Nat := (l.map fun x => x.f3.f0.size + 800).sum
theorem lineL_len (x : S41) : (lineL x).length ≤ x.f3.f0.size + 800 := by
 have h1 := decL_len x.f0
 have h2 := labL_len x.f1.f0 x.f1.f1.toNat
 have h3 : (kindL x.f2 x.f3.f1).length ≤ 2 := by unfold kindL; cases x.f3.f1 <;> simp
 have h4 : x.f3.f0.data.toList.length = x.f3.f0.size := data_length _
 unfold lineL
 simp only [List.length_append, List.length_cons, List.length_nil]
 omega
def ItemLinesRel (w : World) (B : Nat) (l : List S41) (res : List UInt8 × Int) (v : Value) (W : World) : Prop :=
 ∃ (i : Nat) (acc : List UInt8), v = .int .i64 (i : Int) ∧ i ≤ l.length ∧ Bld W B B acc ∧ B ≤ W.heap.size ∧ Below w.heap.size w W ∧ linesGo (l.drop i) acc = res ∧ acc.length + roomL (l.drop i) ≤ 140000000000005
theorem rd_at (l : List S41) (i : Nat) (h : i < l.length) : l.drop i = rd_T41 l (i : Int) :: l.drop (i + 1) := by
 rw [List.drop_eq_getElem_cons h]
 unfold rd_T41
 rw [Int.toNat_natCast, List.getD_eq_getElem?_getD, List.getElem?_eq_getElem h]
 rfl
theorem good_at {l : List S41} (hf : itemsFit l = true) (i : Nat) (h : i < l.length) : 0 ≤ (rd_T41 l (i : Int)).f1.f1 ∧ (rd_T41 l (i : Int)).f1.f1 < 18446744073709551616 ∧ (rd_T41 l (i : Int)).f3.f0.size ≤ 100000000000 := by
 unfold itemsFit at hf
 rw [Bool.and_eq_true, List.all_eq_true] at hf
 have hm : rd_T41 l (i : Int) ∈ l := by
  unfold rd_T41
  rw [Int.toNat_natCast, List.getD_eq_getElem?_getD, List.getElem?_eq_getElem h]
  exact List.getElem_mem h
 have := hf.1 _ hm
 unfold itemGood at this
 simp only [Bool.and_eq_true, decide_eq_true_eq] at this
 exact ⟨this.1.1, this.1.2, this.2⟩
theorem fit_room {l : List S41} (hf : itemsFit l = true) : roomL l ≤ 140000000000000 := by
 unfold itemsFit at hf
 rw [Bool.and_eq_true, decide_eq_true_iff] at hf
 exact hf.2
theorem room_len (l : List S41) : 800 * l.length ≤ roomL l := by
 unfold roomL
 induction l with
 | nil => simp
 | cons x l ih => simp only [List.length_cons, List.map_cons, List.sum_cons]; omega
theorem decBig {a b : Int} (h : ¬ a < b) : decide (a < b) = false := decide_eq_false h
set_option maxHeartbeats 8000000 in
set_option maxRecDepth 100000 in
theorem lines_plain (a0_0 a0_1 : Int) (A0_2 : Option Addr) (c0_2 : Nat) (l0_2 : List S41) (w : World) (hT : Tabs w) (hf : itemsFit l0_2 = true) (hr0_2 : Kd.C k41 w A0_2 l0_2.length l0_2) (hc0_2 : l0_2.length ≤ c0_2) (hw : wrongOf a0_0 a0_1 l0_2.length = 0) (h1 : ¬ 2147483647 < a0_0) (h2 : ¬ 2147483647 < a0_1) (h3 : ¬ 0 < a0_1) :
  Calls Tryd.prog 29 #[.agg #[.int .i64 a0_0, .int .i64 a0_1, .slice A0_2 l0_2.length c0_2], .bool false] w fun e w' => e = .returned (.tuple #[.string (baOf (linesGo l0_2 []).1), .int .i64 (linesGo l0_2 []).2]) ∧ Below w.heap.size w w' := by
 obtain ⟨res, hres⟩ : ∃ res, linesGo l0_2 [] = res := ⟨_, rfl⟩
 rw [hres]
 have HRES := Lib.hid hres
 have HR0 := Lib.hid hr0_2
 have HR := Lib.hid (Kd.C_below hr0_2 (below_alloc (Below.refl w.heap.size w) (.cells #[.int .i64 a0_0, .int .i64 a0_1, .slice A0_2 l0_2.length c0_2] 27 (0, 0))))
 have HC := Lib.hid hc0_2
 have HF := Lib.hid hf
 have HT := Lib.hid hT
 have HW := Lib.hid (show delta_wrong.f a0_0 a0_1 l0_2 = some 0 by rw [← hw]; rfl)
 have HK := Lib.hid (blk_new w (.cells #[.int .i64 a0_0, .int .i64 a0_1, .slice A0_2 l0_2.length c0_2] 27 (0, 0)))
 have d1 := decBig h1
 have d2 := decBig h2
 have d3 := decBig h3
 clear hr0_2 hc0_2 hw h1 h2 h3 hf hT hres
 go_enter Tryd.func29, Tryd.ntmps29
 go_wp2_with (go_at_call 27; (refine (delta_wrong.calls a0_0 a0_1 A0_2 c0_2 l0_2 0 _ HR.out HC.out HW.out).mono ?_); rintro e w1 ⟨rfl, hb⟩; have hk := blk_below HK.out hb; have hc0 : w1.cell? ⟨w.heap.size, 0, none⟩ = some (.int .i64 a0_0) := (blk_cell hk 0).trans rfl; have hc1 : w1.cell? ⟨w.heap.size, 1, none⟩ = some (.int .i64 a0_1) := (blk_cell hk 1).trans rfl; have hc2 : w1.cell? ⟨w.heap.size, 2, none⟩ = some (.slice A0_2 l0_2.length c0_2) := (blk_cell hk 2).trans rfl; have hlt : w.heap.size < w1.heap.size := blk_lt hk; have HB1 := Lib.hid (below_step (below_alloc (Below.refl w.heap.size w) _) hb); clear hk hb)
 go_loopw [42] (fun v42 W => ItemLinesRel w w1.heap.size l0_2 res v42 W) (fun v42 _ => l0_2.length - (intOf v42).toNat)
 case atStart => exact ⟨0, [], rfl, Nat.zero_le _, Bld.new w1, by simp, below_alloc HB1.out _, HRES.out, by have := fit_room HF.out; simp; omega⟩
 case round =>
  obtain ⟨i, acc, rfl, hi, hbld, hBW, HB, hgo, hroom⟩ := hrel
  have HBLD := Lib.hid hbld
  have HGO := Lib.hid hgo
  clear hbld hgo hc0 hc1 hc2
  have hB0 : w.heap.size ≤ w1.heap.size := Nat.le_of_lt hlt
  have hL : l0_2.length < 1000000000000 := by have := room_len l0_2; have := fit_room HF.out; omega
  by_cases hil : i < l0_2.length
  ·
   have hd : decide (i < l0_2.length) = true := by simpa using hil
   have HG := Lib.hid (good_at HF.out i hil)
   have HGO2 := Lib.hid (show linesGo (rd_T41 l0_2 (i : Int) :: l0_2.drop (i + 1)) acc = res by rw [← rd_at l0_2 i hil]; exact HGO.out)
   have HRM := Lib.hid (show acc.length + ((rd_T41 l0_2 (i : Int)).f3.f0.size + 800 + roomL (l0_2.drop (i + 1))) ≤ 140000000000005 by rw [rd_at l0_2 i hil] at hroom; exact hroom)
   obtain ⟨ad, rfl, x0, x1, x2, x3, x4, x5⟩ := at_T41 HR0.out (i : Int) (by omega) (by omega)
   rw [Int.toNat_natCast] at x0 x1 x2 x3 x4 x5
   replace x0 := (HB.cell (World.block_lt_of_cell? w _ x0)).trans x0
   replace x1 := (HB.cell (World.block_lt_of_cell? w _ x1)).trans x1
   replace x2 := (HB.cell (World.block_lt_of_cell? w _ x2)).trans x2
   replace x3 := (HB.cell (World.block_lt_of_cell? w _ x3)).trans x3
   replace x4 := (HB.cell (World.block_lt_of_cell? w _ x4)).trans x4
   replace x5 := (HB.cell (World.block_lt_of_cell? w _ x5)).trans x5
   generalize rd_T41 l0_2 (i : Int) = x at x0 x1 x2 x3 x4 x5 HG HGO2 HRM
   clear HGO hroom
   by_cases hck : checkOf x = 0
   ·
    have HCK := Lib.hid (show delta_check.f 1 x.f0 x.f1.f0 x.f1.f1 x.f2 x.f3.f0 x.f3.f1 = some 0 by rw [delta_check_tells x 1 (Nat.le_refl _), hck])
    have HLN := Lib.hid (delta_line_tells x HG.out.1 HG.out.2.1 (by have := HG.out.2.2; omega) 66 (Nat.le_refl _))
    go_wp2_with (first
     | ((with_reducible refine gate_dst (N := 9) rfl ?_); refine box_event ?hg (N := 9) ?hd (cs := #[.int .i64 0, .int .i64 0, .int .u64 0, .bool false, .string ⟨#[]⟩, .bool false]) (t := 41) ?hr ?_; (case hd => rfl); (case hg => rfl); (case hr => first | (go_simp; done) | (go_simp; rfl)); intro gb hg wA hbox hbA; have HX := Lib.hid hbox; have y0 : wA.cell? ⟨gb, 0, none⟩ = some (.int .i64 0) := (blk_cell hbox 0).trans rfl; have z0 := blk_frozen hbox 0; have y1 : wA.cell? ⟨gb, 1, none⟩ = some (.int .i64 0) := (blk_cell hbox 1).trans rfl; have z1 := blk_frozen hbox 1; have y2 : wA.cell? ⟨gb, 2, none⟩ = some (.int .u64 0) := (blk_cell hbox 2).trans rfl; have z2 := blk_frozen hbox 2; have y3 : wA.cell? ⟨gb, 3, none⟩ = some (.bool false) := (blk_cell hbox 3).trans rfl; have z3 := blk_frozen hbox 3; have y4 : wA.cell? ⟨gb, 4, none⟩ = some (.string ⟨#[]⟩) := (blk_cell hbox 4).trans rfl; have z4 := blk_frozen hbox 4; have y5 : wA.cell? ⟨gb, 5, none⟩ = some (.bool false) := (blk_cell hbox 5).trans rfl; have z5 := blk_frozen hbox 5;  have HGE := Lib.hid (show wr.heap.size ≤ gb by rw [hg]; simp); have HBA := Lib.hid hbA; clear hbox hbA hg)
     | (go_at_call 42; (with_reducible refine (delta_check.calls _ _ _ _ _ _ _ _ _ HCK.out).mono ?_); rintro e w2 ⟨rfl, hb2⟩; have HX2 := Lib.hid (show w2.heap[gb]? = some (.cells #[.int .i64 x.f0, .int .i64 x.f1.f0, .int .u64 x.f1.f1, .bool x.f2, .string x.f3.f0, .bool x.f3.f1] 41 (0, 0)) from blk_below (putItem_blk x HX.out) hb2); have HB2 := Lib.hid (show Below wr.heap.size wr w2 from below_step (putItem_below x HBA.out HGE.out) hb2); clear y0 z0 y1 z1 y2 z2 y3 z3 y4 z4 y5 z5 hb2; have y0 : w2.cell? ⟨gb, 0, none⟩ = some (.int .i64 x.f0) := (blk_cell HX2.out 0).trans rfl; have z0 := blk_frozen HX2.out 0; have y1 : w2.cell? ⟨gb, 1, none⟩ = some (.int .i64 x.f1.f0) := (blk_cell HX2.out 1).trans rfl; have z1 := blk_frozen HX2.out 1; have y2 : w2.cell? ⟨gb, 2, none⟩ = some (.int .u64 x.f1.f1) := (blk_cell HX2.out 2).trans rfl; have z2 := blk_frozen HX2.out 2; have y3 : w2.cell? ⟨gb, 3, none⟩ = some (.bool x.f2) := (blk_cell HX2.out 3).trans rfl; have z3 := blk_frozen HX2.out 3; have y4 : w2.cell? ⟨gb, 4, none⟩ = some (.string x.f3.f0) := (blk_cell HX2.out 4).trans rfl; have z4 := blk_frozen HX2.out 4; have y5 : w2.cell? ⟨gb, 5, none⟩ = some (.bool x.f3.f1) := (blk_cell HX2.out 5).trans rfl; have z5 := blk_frozen HX2.out 5)
     | (go_at_call 43; (with_reducible refine (delta_line.calls _ _ _ _ _ _ _ _ _ (HT.out.below (HB.trans (HB2.out.mono HB.size))) HLN.out).mono ?_); rintro e w3 ⟨rfl, hb3⟩; have HB3 := Lib.hid (below_step HB2.out hb3))
     | (go_at_call 41; (with_reducible refine (bld_write _ _ acc (baOf (lineL x)) _ (HBLD.out.below HB3.out) ?hlen ?hsz).mono ?_); (case hlen => have := lineL_len x; have := HRM.out; rw [ba_size]; omega); (case hsz => exact Nat.le_trans hBW HB3.out.size); rintro e w4 ⟨rfl, hbld4, hb4⟩))
    go_roundw
    case rel =>
     refine ⟨i + 1, acc ++ lineL x, by go_num, by omega, ?_, Nat.le_trans hBW (Nat.le_trans HB3.out.size hb4.size), (HB.trans (HB3.out.mono HB.size)).trans (hb4.mono hB0), ?_, ?_⟩
     ·
      rw [baOf_data] at hbld4; exact hbld4
     ·
      have := HGO2.out; rwa [linesGo, if_pos hck] at this
     ·
      have := lineL_len x; have := HRM.out; rw [List.length_append]; omega
    case measure => simp [intOf]; omega
   ·
    have HCK := Lib.hid (delta_check_tells x 1 (Nat.le_refl _))
    have HE := Lib.hid (show (([] : List UInt8), checkOf x) = res by have := HGO2.out; rwa [linesGo, if_neg hck] at this)
    have e1 : (checkOf x == 0) = false := by simpa using hck
    have e2 : (checkOf x != 0) = true := by simpa using hck
    clear hck
    generalize checkOf x = e_ at HCK HE e1 e2
    go_wp2_with (first
     | ((with_reducible refine gate_dst (N := 9) rfl ?_); refine box_event ?hg (N := 9) ?hd (cs := #[.int .i64 0, .int .i64 0, .int .u64 0, .bool false, .string ⟨#[]⟩, .bool false]) (t := 41) ?hr ?_; (case hd => rfl); (case hg => rfl); (case hr => first | (go_simp; done) | (go_simp; rfl)); intro gb hg wA hbox hbA; have HX := Lib.hid hbox; have y0 : wA.cell? ⟨gb, 0, none⟩ = some (.int .i64 0) := (blk_cell hbox 0).trans rfl; have z0 := blk_frozen hbox 0; have y1 : wA.cell? ⟨gb, 1, none⟩ = some (.int .i64 0) := (blk_cell hbox 1).trans rfl; have z1 := blk_frozen hbox 1; have y2 : wA.cell? ⟨gb, 2, none⟩ = some (.int .u64 0) := (blk_cell hbox 2).trans rfl; have z2 := blk_frozen hbox 2; have y3 : wA.cell? ⟨gb, 3, none⟩ = some (.bool false) := (blk_cell hbox 3).trans rfl; have z3 := blk_frozen hbox 3; have y4 : wA.cell? ⟨gb, 4, none⟩ = some (.string ⟨#[]⟩) := (blk_cell hbox 4).trans rfl; have z4 := blk_frozen hbox 4; have y5 : wA.cell? ⟨gb, 5, none⟩ = some (.bool false) := (blk_cell hbox 5).trans rfl; have z5 := blk_frozen hbox 5;  have HGE := Lib.hid (show wr.heap.size ≤ gb by rw [hg]; simp); have HBA := Lib.hid hbA; clear hbox hbA hg)
     | (go_at_call 42; (with_reducible refine (delta_check.calls _ _ _ _ _ _ _ _ _ HCK.out).mono ?_); rintro e w2 ⟨rfl, hb2⟩; have HX2 := Lib.hid (show w2.heap[gb]? = some (.cells #[.int .i64 x.f0, .int .i64 x.f1.f0, .int .u64 x.f1.f1, .bool x.f2, .string x.f3.f0, .bool x.f3.f1] 41 (0, 0)) from blk_below (putItem_blk x HX.out) hb2); have HB2 := Lib.hid (show Below wr.heap.size wr w2 from below_step (putItem_below x HBA.out HGE.out) hb2); clear y0 z0 y1 z1 y2 z2 y3 z3 y4 z4 y5 z5 hb2; have y0 : w2.cell? ⟨gb, 0, none⟩ = some (.int .i64 x.f0) := (blk_cell HX2.out 0).trans rfl; have z0 := blk_frozen HX2.out 0; have y1 : w2.cell? ⟨gb, 1, none⟩ = some (.int .i64 x.f1.f0) := (blk_cell HX2.out 1).trans rfl; have z1 := blk_frozen HX2.out 1; have y2 : w2.cell? ⟨gb, 2, none⟩ = some (.int .u64 x.f1.f1) := (blk_cell HX2.out 2).trans rfl; have z2 := blk_frozen HX2.out 2; have y3 : w2.cell? ⟨gb, 3, none⟩ = some (.bool x.f2) := (blk_cell HX2.out 3).trans rfl; have z3 := blk_frozen HX2.out 3; have y4 : w2.cell? ⟨gb, 4, none⟩ = some (.string x.f3.f0) := (blk_cell HX2.out 4).trans rfl; have z4 := blk_frozen HX2.out 4; have y5 : w2.cell? ⟨gb, 5, none⟩ = some (.bool x.f3.f1) := (blk_cell HX2.out 5).trans rfl; have z5 := blk_frozen HX2.out 5))
    go_ret2
    exact ⟨by rw [← HE.out]; rfl, HB.trans (HB2.out.mono HB.size)⟩
  ·
   have hd : decide (i < l0_2.length) = false := by simpa using hil
   obtain rfl : i = l0_2.length := by omega
   have HE := Lib.hid (show (acc, (0 : Int)) = res by have := HGO.out; rw [List.drop_length] at this; exact this)
   go_wp2_with (go_at_call 44; (with_reducible refine (bld_string _ _ acc _ HBLD.out hBW).mono ?_); rintro e w2 ⟨rfl, _, hb2⟩)
   go_ret2
   exact ⟨by rw [← HE.out]; rfl, HB.trans (hb2.mono hB0)⟩
end Go.Proofs.YthppicgolkpbaaaDoor.P

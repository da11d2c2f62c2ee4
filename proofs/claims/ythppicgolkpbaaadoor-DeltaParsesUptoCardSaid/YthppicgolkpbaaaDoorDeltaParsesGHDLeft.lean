/- what this claim needs of the words and the printed functions; conditions: as each statement says -/
import Derived.Test.YthppicgolkpbaaaDoorDeltaParsesPx0
import Derived.Lib.Hide
import Derived.Test.YthppicgolkpbaaaDoorDeltaParsesGHDMap
import Derived.Shelf.RegionOpenPlain
import Derived.IntWalk
import Derived.RegionTactic
namespace Go.Proofs.YthppicgolkpbaaaDoor.P
open Go.RowKit Go.Proofs.YthppicgolkpbaaaDoorW.PrintWords Go.Proofs.YthppicgolkpbaaaDoorW.PrintLast Go.Proofs.YthppicgolkpbaaaDoorW.PrintMore
set_option linter.unusedVariables false
set_option linter.unusedSimpArgs false
def putItem (W : World) (g : Nat) (x : S41) : World := (((((W.setCell ⟨g, 0, none⟩ (.int .i64 x.f0)).setCell ⟨g, 1, none⟩ (.int .i64 x.f1.f0)).setCell ⟨g, 2, none⟩ (.int .u64 x.f1.f1)).setCell ⟨g, 3, none⟩ (.bool x.f2)).setCell ⟨g, 4, none⟩ (.string x.f3.f0)).setCell ⟨g, 5, none⟩ (.bool x.f3.f1)
def itemCells (x : S41) : Array Value := #[.int .i64 x.f0, .int .i64 x.f1.f0, .int .u64 x.f1.f1, .bool x.f2, .string x.f3.f0, .bool x.f3.f1]
theorem six_set (a b c d e f a' b' c' d' e' f' : Value) : (((((#[a, b, c, d, e, f].setIfInBounds 0 a').setIfInBounds 1 b').setIfInBounds 2 c').setIfInBounds 3 d').setIfInBounds 4 e').setIfInBounds 5 f' = #[a', b', c', d', e', f'] := by simp
theorem putItem_blk {W : World} {g : Nat} {a b c d e f : Value} (x : S41) (h : W.heap[g]? = some (.cells #[a, b, c, d, e, f] 41 (0, 0))) : (putItem W g x).heap[g]? = some (.cells (itemCells x) 41 (0, 0)) := by
 unfold putItem
 have h5 := blk_set (blk_set (blk_set (blk_set (blk_set (blk_set h 0 (.int .i64 x.f0)) 1 (.int .i64 x.f1.f0)) 2 (.int .u64 x.f1.f1)) 3 (.bool x.f2)) 4 (.string x.f3.f0)) 5 (.bool x.f3.f1)
 rw [six_set] at h5
 exact h5
theorem putItem_below {w W : World} {g : Nat} (x : S41) (hb : Below w.heap.size w W) (hg : w.heap.size ≤ g) : Below w.heap.size w (putItem W g x) := by
 unfold putItem
 exact ((((((hb.setCell (p := ⟨g, 0, none⟩) hg _).setCell (p := ⟨g, 1, none⟩) hg _).setCell (p := ⟨g, 2, none⟩) hg _).setCell (p := ⟨g, 3, none⟩) hg _).setCell (p := ⟨g, 4, none⟩) hg _).setCell (p := ⟨g, 5, none⟩) hg _)
theorem itemCells_at {W : World} {g : Nat} {x : S41} (h : W.heap[g]? = some (.cells (itemCells x) 41 (0, 0))) :
  W.cell? ⟨g, 0, none⟩ = some (.int .i64 x.f0) ∧ W.cell? ⟨g, 1, none⟩ = some (.int .i64 x.f1.f0) ∧ W.cell? ⟨g, 2, none⟩ = some (.int .u64 x.f1.f1) ∧ W.cell? ⟨g, 3, none⟩ = some (.bool x.f2) ∧ W.cell? ⟨g, 4, none⟩ = some (.string x.f3.f0) ∧ W.cell? ⟨g, 5, none⟩ = some (.bool x.f3.f1) :=
 ⟨(blk_cell h 0).trans rfl, (blk_cell h 1).trans rfl, (blk_cell h 2).trans rfl, (blk_cell h 3).trans rfl, (blk_cell h 4).trans rfl, (blk_cell h 5).trans rfl⟩
end Go.Proofs.YthppicgolkpbaaaDoor.P
namespace Go.Proofs.YthppicgolkpbaaaDoor.P
open Go.RowKit Go.Proofs.YthppicgolkpbaaaDoorW.PrintWords Go.Proofs.YthppicgolkpbaaaDoorW.PrintLast Go.Proofs.YthppicgolkpbaaaDoorW.PrintMore
set_option linter.unusedVariables false
set_option linter.unusedSimpArgs false
theorem it_at (l : List S41) (i : Nat) (h : i < l.length) : l[i]? = some (rd_T41 l (i : Int)) := by
 unfold rd_T41
 rw [Int.toNat_natCast, List.getD_eq_getElem?_getD, List.getElem?_eq_getElem h]
 rfl
theorem cnt_take (l : List S41) (i : Nat) (h : i < l.length) : (fun y => if eqIt y (rd_T41 l (i : Int)) = true then cntIt (l.take i) (rd_T41 l (i : Int)) + 1 else cntIt (l.take i) y) = cntIt (l.take (i + 1)) := by
 have h2 := it_at l i h
 generalize rd_T41 l (i : Int) = x at h2 ⊢
 funext y
 have ht : l.take (i + 1) = l.take i ++ [x] := by
  rw [List.take_add_one, h2]; rfl
 rw [ht]
 unfold cntIt
 rw [List.filter_append, List.length_append]
 by_cases e : eqIt y x = true
 ·
  rw [if_pos e, (eqIt_iff _ _).1 e]
  have : eqIt x x = true := (eqIt_iff _ _).2 rfl
  simp [this]
 ·
  rw [if_neg e]
  have : eqIt y x = false := by simpa using e
  simp [this]
theorem cnt_le (l : List S41) (i : Nat) (x : S41) (h : i ≤ l.length) : 0 ≤ cntIt (l.take i) x ∧ cntIt (l.take i) x ≤ i := by
 unfold cntIt
 have := List.length_filter_le (eqIt x) (l.take i)
 have h2 : (l.take i).length = i := by rw [List.length_take]; omega
 omega
theorem wf_i64 {v : Int} (h0 : -9223372036854775808 ≤ v) (h : v ≤ 9223372036854775807) : (Lit.int .i64 v).wf = true := WalkArith.wf_i64 (by omega)
def LeftRel (w : World) (l : List S41) (B : Nat) (v : Value) (W : World) : Prop :=
 ∃ i : Nat, v = .int .i64 (i : Int) ∧ i ≤ l.length ∧ CntMap W B i (cntIt (l.take i)) ∧ Below w.heap.size w W
set_option maxHeartbeats 4000000 in
set_option maxRecDepth 100000 in
theorem left_calls (A0 : Option Addr) (c0 : Nat) (l0 : List S41) (w : World) (hwf : l0.all itemWf = true) (hlen : l0.length ≤ 1000000) (hr0 : Kd.C k41 w A0 l0.length l0) (hc0 : l0.length ≤ c0) :
  Calls Tryd.prog 23 #[.slice A0 l0.length c0] w fun e w' => ∃ b, e = .returned (.map (some b)) ∧ w.heap.size ≤ b ∧ CntMap w' b l0.length (cntIt l0) ∧ Below w.heap.size w w' := by
 have HR0 := Lib.hid hr0
 have HW := Lib.hid hwf
 clear hr0 hwf
 have hmm := @run_makeMap Tryd.prog
 go_enter Tryd.func23, Tryd.ntmps23
 go_wp2
 go_loopw [9] (fun v9 W => LeftRel w l0 w.heap.size v9 W) (fun v9 _ => l0.length - (intOf v9).toNat)
 case atStart => exact ⟨0, rfl, Nat.zero_le _, CntMap.made w, below_alloc (Below.refl _ _) _⟩
 case round =>
  obtain ⟨i, rfl, hi, hcnt, HB⟩ := hrel
  by_cases hil : i < l0.length
  ·
   have hd : decide (i < l0.length) = true := by simpa using hil
   have hx : itemWf (rd_T41 l0 (i : Int)) = true := List.all_eq_true.1 HW.out _ (List.mem_of_getElem? (it_at l0 i hil))
   have HST := Lib.hid (cnt_take l0 i hil)
   have hle := cnt_le l0 i (rd_T41 l0 (i : Int)) (by omega)
   obtain ⟨ad, rfl, x0, x1, x2, x3, x4, x5⟩ := at_T41 HR0.out (i : Int) (by omega) (by omega)
   rw [Int.toNat_natCast] at x0 x1 x2 x3 x4 x5
   replace x0 := (HB.cell (World.block_lt_of_cell? w _ x0)).trans x0
   replace x1 := (HB.cell (World.block_lt_of_cell? w _ x1)).trans x1
   replace x2 := (HB.cell (World.block_lt_of_cell? w _ x2)).trans x2
   replace x3 := (HB.cell (World.block_lt_of_cell? w _ x3)).trans x3
   replace x4 := (HB.cell (World.block_lt_of_cell? w _ x4)).trans x4
   replace x5 := (HB.cell (World.block_lt_of_cell? w _ x5)).trans x5
   generalize rd_T41 l0 (i : Int) = x at x0 x1 x2 x3 x4 x5 hx HST hle
   have HCN := Lib.hid hcnt
   clear hcnt
   go_wp2_with ((with_reducible refine gate_dst (N := 5) rfl ?_); refine box_event ?hg (N := 5) ?hd (cs := #[.int .i64 0, .int .i64 0, .int .u64 0, .bool false, .string ⟨#[]⟩, .bool false]) (t := 41) ?hr ?_; (case hd => rfl); (case hg => rfl); (case hr => first | (go_simp; done) | (go_simp; rfl)); intro gb hg wA hbox hbA; have HX := Lib.hid hbox; have y0 : wA.cell? ⟨gb, 0, none⟩ = some (.int .i64 0) := (blk_cell hbox 0).trans rfl; have z0 := blk_frozen hbox 0; have y1 : wA.cell? ⟨gb, 1, none⟩ = some (.int .i64 0) := (blk_cell hbox 1).trans rfl; have z1 := blk_frozen hbox 1; have y2 : wA.cell? ⟨gb, 2, none⟩ = some (.int .u64 0) := (blk_cell hbox 2).trans rfl; have z2 := blk_frozen hbox 2; have y3 : wA.cell? ⟨gb, 3, none⟩ = some (.bool false) := (blk_cell hbox 3).trans rfl; have z3 := blk_frozen hbox 3; have y4 : wA.cell? ⟨gb, 4, none⟩ = some (.string ⟨#[]⟩) := (blk_cell hbox 4).trans rfl; have z4 := blk_frozen hbox 4; have y5 : wA.cell? ⟨gb, 5, none⟩ = some (.bool false) := (blk_cell hbox 5).trans rfl; have z5 := blk_frozen hbox 5;  have HGE := Lib.hid (show wr.heap.size ≤ gb by rw [hg]; simp); have HBA := Lib.hid hbA; clear hbox hbA hg)
   have HX2 := Lib.hid (putItem_blk x HX.out)
   have HB2 := Lib.hid (putItem_below x HBA.out HGE.out)
   clear y0 z0 y1 z1 y2 z2 y3 z3 y4 z4 y5 z5 HX HBA x0 x1 x2 x3 x4 x5
   unfold putItem at HX2 HB2
   generalize ((((((wA.setCell ⟨gb, 0, none⟩ (.int .i64 x.f0)).setCell ⟨gb, 1, none⟩ (.int .i64 x.f1.f0)).setCell ⟨gb, 2, none⟩ (.int .u64 x.f1.f1)).setCell ⟨gb, 3, none⟩ (.bool x.f2)).setCell ⟨gb, 4, none⟩ (.string x.f3.f0)).setCell ⟨gb, 5, none⟩ (.bool x.f3.f1)) = W at HX2 HB2 ⊢
   obtain ⟨y0, y1, y2, y3, y4, y5⟩ := itemCells_at HX2.out
   have HCW := Lib.hid (HCN.out.below HB2.out).drew
   obtain ⟨st, w2, w3, e1, e2, e3, e4, hc3, hg3⟩ := cnt_region HCW.out (by unfold maxLen; omega) x hx (cntIt (l0.take i) x + 1) (wf_i64 (by omega) (by omega))
   have HC3 := Lib.hid hc3
   have HG3 := Lib.hid hg3
   have HLE := Lib.hid hle
   obtain ⟨c, HCc⟩ : ∃ c, Hid (cntIt (l0.take i) x = c) := ⟨_, Lib.hid rfl⟩
   rw [HCc.out] at e1 e2 e3 e4 hle
   unfold valOf at e1 e2 e3
   have hwc : IntKind.i64.wrap (c + 1) = c + 1 := IntWalk.i64_in _ (by omega)
   clear hc3 hg3 hx
   have mixed : Tryd.prog.follows Departure.mixedOrders = true := by kernel_rfl
   go_region_o
   go_wp2
   go_roundw
   case rel => exact ⟨i + 1, by go_num, by omega, by rw [← HST.out]; exact HC3.out, (HB.trans ((below_drew HB2.out).mono HB.size)).grown HG3.out (Nat.le_trans HB.size HB2.out.size) (fun k hk => by injection hk with hk; omega)⟩
   case measure => simp [intOf]; omega
  ·
   have hd : decide (i < l0.length) = false := by simpa using hil
   obtain rfl : i = l0.length := by omega
   rw [List.take_length] at hcnt
   go_wp2
   go_ret
   exact ⟨_, rfl, Nat.le_refl _, hcnt, HB⟩
end Go.Proofs.YthppicgolkpbaaaDoor.P

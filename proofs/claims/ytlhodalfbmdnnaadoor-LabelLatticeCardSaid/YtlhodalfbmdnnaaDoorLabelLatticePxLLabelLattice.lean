-- printed by this session's turned copy of the kit's print program (wip/gen/patch.py, squeeze.py); Lean checks it
import Derived.Test.YtlhodalfbmdnnaaDoorLabelLatticePx0
import Derived.Test.YtlhodalfbmdnnaaDoorLabelLatticePxEq40
import Derived.Test.YtlhodalfbmdnnaaDoorLabelLatticePxLabel
import Derived.Test.YtlhodalfbmdnnaaDoorLabelLatticeHLive02
namespace Go.Proofs.YtlhodalfbmdnnaaDoor.P
open Go.RowKit Go.Proofs.YtlhodalfbmdnnaaDoorW.PrintWords Go.Proofs.YtlhodalfbmdnnaaDoorW.PrintLast Go.Proofs.YtlhodalfbmdnnaaDoorW.PrintMore
set_option linter.unusedVariables false
set_option linter.unusedSimpArgs false
theorem below_b {w W W' : World} (hb : Below W.heap.size W W') (h : Below w.heap.size w W := by repeat (first | (with_reducible first | exact Aside0.out (by assumption) | apply below_alloc | apply pw_below_drewN | apply below_drew1 | refine below_set ?_ (Aside0.out (by assumption))) | exact Aside0.out (by assumption)))   : Below w.heap.size w W' := below_step h hb
theorem bd_ {W0 W : World} {g : Nat} {o : Obj} (k : Aside0 (W0.heap[g]? = some o)) (h : W.heap[g]? = some o := by (with_reducible repeat (first | refine blk_drewN ?_ _ | refine blk_drew ?_ | refine blk_alloc ?_ _ | refine blk_far ?_ (Aside0.out (by assumption)) _)); exact Aside0.out (by assumption)) : W.heap[g]? = some o := h
theorem bb_ {W0 W W' : World} {g : Nat} {o : Obj} (k : Aside0 (W0.heap[g]? = some o)) (hb : Below W.heap.size W W') (h : W.heap[g]? = some o := by (with_reducible repeat (first | refine blk_drewN ?_ _ | refine blk_drew ?_ | refine blk_alloc ?_ _ | refine blk_far ?_ (Aside0.out (by assumption)) _)); exact Aside0.out (by assumption)) : Aside0 (W'.heap[g]? = some o) := ⟨blk_below h hb⟩
theorem nl_ {W0 W : World} {g g' : Nat} {o : Obj} (k : Aside0 (W0.heap[g]? = some o)) (hg : g' = W.heap.size) (h : W.heap[g]? = some o := by (with_reducible repeat (first | refine blk_drewN ?_ _ | refine blk_drew ?_ | refine blk_alloc ?_ _ | refine blk_far ?_ (Aside0.out (by assumption)) _)); exact Aside0.out (by assumption)) : Aside0 (g ≠ g') := ⟨hg ▸ Nat.ne_of_lt (blk_lt h)⟩
theorem ng_ {W0 W : World} {g g' : Nat} {o : Obj} (k : Aside0 (W0.heap[g]? = some o)) (hg : g' = W.heap.size) (h : W.heap[g]? = some o := by (with_reducible repeat (first | refine blk_drewN ?_ _ | refine blk_drew ?_ | refine blk_alloc ?_ _ | refine blk_far ?_ (Aside0.out (by assumption)) _)); exact Aside0.out (by assumption)) : Aside0 (g' ≠ g) := ⟨hg ▸ Nat.ne_of_gt (blk_lt h)⟩
theorem cf_ {W : World} {g : Nat} {t : TypeId} {a b : Value} (k : Aside0 (W.heap[g]? = some (.cells #[a, b] t (0, 0)))) : W.cell? ⟨g, 0, none⟩ = some a ∧ W.cell? ⟨g, 1, none⟩ = some b ∧ W.frozen? ⟨g, 0, none⟩ = false ∧ W.frozen? ⟨g, 1, none⟩ = false := ⟨(blk_cell k.out 0).trans rfl, (blk_cell k.out 1).trans rfl, blk_frozen k.out 0, blk_frozen k.out 1⟩
attribute [local go_sem high] eqA40
/-! ### jalousielaw02_LabelLattice: function 13 -/
mutual
def jalousielaw02_LabelLattice.j0 : Nat → Bool → Int → Int → Int → Int → Int → Int → Int → Int → Int → Int → Option (Bool)
 | 0, _, _, _, _, _, _, _, _, _, _, _ => none
 | k + 1, x49, x381000, x381001, x382000, x382001, x383000, x383001, x388000, x388001, x389000, x389001 => if x49 = true then (some false) else ((label_Below.f x381000 x381001 x388000 x388001).bind fun t401 => (if t401 = true then ((label_Below.f x382000 x382001 x388000 x388001).bind fun t402 => (if t402 = true then ((label_Below.f x381000 x381001 x383000 x383001).bind fun t403 => (if t403 = true then ((label_Below.f x382000 x382001 x383000 x383001).bind fun t404 => (if t404 = true then ((label_Below.f x388000 x388001 x383000 x383001).bind fun t405 => (jalousielaw02_LabelLattice.j1 k (!t405) x381000 x381001 x382000 x382001 x383000 x383001 x389000 x389001)) else (jalousielaw02_LabelLattice.j1 k false x381000 x381001 x382000 x382001 x383000 x383001 x389000 x389001))) else (jalousielaw02_LabelLattice.j1 k false x381000 x381001 x382000 x382001 x383000 x383001 x389000 x389001))) else (jalousielaw02_LabelLattice.j1 k true x381000 x381001 x382000 x382001 x383000 x383001 x389000 x389001))) else (jalousielaw02_LabelLattice.j1 k true x381000 x381001 x382000 x382001 x383000 x383001 x389000 x389001)))
def jalousielaw02_LabelLattice.j1 : Nat → Bool → Int → Int → Int → Int → Int → Int → Int → Int → Option (Bool)
 | 0, _, _, _, _, _, _, _, _, _ => none
 | k + 1, x75, x381000, x381001, x382000, x382001, x383000, x383001, x389000, x389001 => if x75 = true then (some false) else ((label_Below.f x389000 x389001 x381000 x381001).bind fun t406 => (if t406 = true then ((label_Below.f x389000 x389001 x382000 x382001).bind fun t407 => (if t407 = true then ((label_Below.f x383000 x383001 x381000 x381001).bind fun t408 => (if t408 = true then ((label_Below.f x383000 x383001 x382000 x382001).bind fun t409 => (if t409 = true then ((label_Below.f x383000 x383001 x389000 x389001).bind fun t410 => (jalousielaw02_LabelLattice.j2 k (!t410) x381000 x381001)) else (jalousielaw02_LabelLattice.j2 k false x381000 x381001))) else (jalousielaw02_LabelLattice.j2 k false x381000 x381001))) else (jalousielaw02_LabelLattice.j2 k true x381000 x381001))) else (jalousielaw02_LabelLattice.j2 k true x381000 x381001)))
def jalousielaw02_LabelLattice.j2 : Nat → Bool → Int → Int → Option (Bool)
 | 0, _, _, _ => none
 | k + 1, x101, x381000, x381001 => if x101 = true then (some false) else ((jalousielaw02_live.f).bind fun t411 => (if t411 = true then ((label_Right.f x381000 x381001).bind fun t412 => (if t412 = true then ((label_Below.f 0 0 x381000 x381001).bind fun t413 => (if t413 = true then ((label_Top.f).bind fun bt414 => ((label_Below.f x381000 x381001 bt414.1 bt414.2).bind fun t416 => (some t416))) else (some false))) else (some true))) else (some false)))
end
def jalousielaw02_LabelLattice.f (k : Nat) (a0_0 : Int) (a0_1 : Int) (a1_0 : Int) (a1_1 : Int) (a2_0 : Int) (a2_1 : Int) : Option (Bool) := (label_Join.f a0_0 a0_1 a1_0 a1_1).bind fun bt383 => ((label_Meet.f a0_0 a0_1 a1_0 a1_1).bind fun bt385 => ((label_Below.f a0_0 a0_1 a0_0 a0_1).bind fun t389 => (if t389 = true then ((label_Below.f a0_0 a0_1 a1_0 a1_1).bind fun t390 => (if t390 = true then ((label_Below.f a1_0 a1_1 a0_0 a0_1).bind fun t391 => (if t391 = true then (if (!(a0_0 == a1_0) || (!(a0_1 == a1_1))) = true then (jalousielaw02_LabelLattice.j0 k true a0_0 a0_1 a1_0 a1_1 a2_0 a2_1 bt383.1 bt383.2 bt385.1 bt385.2) else ((label_Below.f a0_0 a0_1 a1_0 a1_1).bind fun t392 => (if t392 = true then ((label_Below.f a1_0 a1_1 a2_0 a2_1).bind fun t393 => (if t393 = true then ((label_Below.f a0_0 a0_1 a2_0 a2_1).bind fun t394 => (jalousielaw02_LabelLattice.j0 k (!t394) a0_0 a0_1 a1_0 a1_1 a2_0 a2_1 bt383.1 bt383.2 bt385.1 bt385.2)) else (jalousielaw02_LabelLattice.j0 k false a0_0 a0_1 a1_0 a1_1 a2_0 a2_1 bt383.1 bt383.2 bt385.1 bt385.2))) else (jalousielaw02_LabelLattice.j0 k false a0_0 a0_1 a1_0 a1_1 a2_0 a2_1 bt383.1 bt383.2 bt385.1 bt385.2)))) else ((label_Below.f a0_0 a0_1 a1_0 a1_1).bind fun t395 => (if t395 = true then ((label_Below.f a1_0 a1_1 a2_0 a2_1).bind fun t396 => (if t396 = true then ((label_Below.f a0_0 a0_1 a2_0 a2_1).bind fun t397 => (jalousielaw02_LabelLattice.j0 k (!t397) a0_0 a0_1 a1_0 a1_1 a2_0 a2_1 bt383.1 bt383.2 bt385.1 bt385.2)) else (jalousielaw02_LabelLattice.j0 k false a0_0 a0_1 a1_0 a1_1 a2_0 a2_1 bt383.1 bt383.2 bt385.1 bt385.2))) else (jalousielaw02_LabelLattice.j0 k false a0_0 a0_1 a1_0 a1_1 a2_0 a2_1 bt383.1 bt383.2 bt385.1 bt385.2))))) else ((label_Below.f a0_0 a0_1 a1_0 a1_1).bind fun t398 => (if t398 = true then ((label_Below.f a1_0 a1_1 a2_0 a2_1).bind fun t399 => (if t399 = true then ((label_Below.f a0_0 a0_1 a2_0 a2_1).bind fun t400 => (jalousielaw02_LabelLattice.j0 k (!t400) a0_0 a0_1 a1_0 a1_1 a2_0 a2_1 bt383.1 bt383.2 bt385.1 bt385.2)) else (jalousielaw02_LabelLattice.j0 k false a0_0 a0_1 a1_0 a1_1 a2_0 a2_1 bt383.1 bt383.2 bt385.1 bt385.2))) else (jalousielaw02_LabelLattice.j0 k false a0_0 a0_1 a1_0 a1_1 a2_0 a2_1 bt383.1 bt383.2 bt385.1 bt385.2))))) else (jalousielaw02_LabelLattice.j0 k true a0_0 a0_1 a1_0 a1_1 a2_0 a2_1 bt383.1 bt383.2 bt385.1 bt385.2))))
theorem jalousielaw02_LabelLattice.no_j0 {k : Nat} {x0 : Int} {x1 : Int} {x2 : Int} {x3 : Int} {x4 : Int} {x5 : Int} {x6 : Int} {x7 : Int} {x8 : Int} {x9 : Int} (h : jalousielaw02_LabelLattice.j0 k true x0 x1 x2 x3 x4 x5 x6 x7 x8 x9 = some true) : False := by
 cases k with
 | zero => rw [jalousielaw02_LabelLattice.j0] at h; cases h
 | succ k => rw [jalousielaw02_LabelLattice.j0, if_pos rfl] at h; cases h
theorem jalousielaw02_LabelLattice.no_j1 {k : Nat} {x0 : Int} {x1 : Int} {x2 : Int} {x3 : Int} {x4 : Int} {x5 : Int} {x6 : Int} {x7 : Int} (h : jalousielaw02_LabelLattice.j1 k true x0 x1 x2 x3 x4 x5 x6 x7 = some true) : False := by
 cases k with
 | zero => rw [jalousielaw02_LabelLattice.j1] at h; cases h
 | succ k => rw [jalousielaw02_LabelLattice.j1, if_pos rfl] at h; cases h
theorem jalousielaw02_LabelLattice.no_j2 {k : Nat} {x0 : Int} {x1 : Int} (h : jalousielaw02_LabelLattice.j2 k true x0 x1 = some true) : False := by
 cases k with
 | zero => rw [jalousielaw02_LabelLattice.j2] at h; cases h
 | succ k => rw [jalousielaw02_LabelLattice.j2, if_pos rfl] at h; cases h
def jalousielaw02_LabelLattice.T1 : Bool × List (List Nat × List Nat) := (true, [([], []), ([], []), ([0, 1], [0, 1]), ([], []), ([], []), ([3, 4, 2], [3, 4]), ([], []), ([], []), ([6, 2, 5, 0, 1, 2, 6, 7], [2, 6]), ([7, 5, 8, 0, 1, 2, 3, 4, 5, 6, 7, 8], [5, 7])])
def jalousielaw02_LabelLattice.B1 : List Nat := [0, 0, 3, 0, 0, 31, 0, 0, 255, 511]
theorem jalousielaw02_LabelLattice.tab1 : rtab .any (opsOf Tryd.f13 1) = jalousielaw02_LabelLattice.T1 := by kernel_rfl
theorem jalousielaw02_LabelLattice.bits1 : waitsOk jalousielaw02_LabelLattice.T1.2 jalousielaw02_LabelLattice.B1 = true := by kernel_rfl
def jalousielaw02_LabelLattice.T8 : Bool × List (List Nat × List Nat) := (true, [([], []), ([0, 0], [0]), ([1], [1]), ([2, 1, 1], [1, 2]), ([3, 1], [1, 3]), ([4, 3, 1], [1, 4]), ([5], [5]), ([5], [5]), ([6, 7, 5, 5], [5, 6, 7]), ([8, 8, 5], [5, 8]), ([9], [9]), ([9, 9], [9]), ([10, 11, 11, 9], [9, 10, 11]), ([9, 12, 5], [5, 9, 12]), ([5, 13, 1], [1, 5, 13]), ([1, 14], [1, 14]), ([15, 12, 0, 1, 2, 3, 4, 5, 6, 7, 8, 9, 10, 11, 12, 13, 14, 15], [15])])
def jalousielaw02_LabelLattice.B8 : List Nat := [0, 1, 3, 7, 15, 31, 63, 63, 255, 511, 1023, 1023, 4095, 8191, 16383, 32767, 65535]
theorem jalousielaw02_LabelLattice.tab8 : rtab .any (opsOf Tryd.f13 8) = jalousielaw02_LabelLattice.T8 := by kernel_rfl
theorem jalousielaw02_LabelLattice.bits8 : waitsOk jalousielaw02_LabelLattice.T8.2 jalousielaw02_LabelLattice.B8 = true := by kernel_rfl
set_option maxHeartbeats 8000000 in
set_option maxRecDepth 100000 in
theorem jalousielaw02_LabelLattice.calls (k : Nat) (a0_0 : Int) (a0_1 : Int) (a1_0 : Int) (a1_1 : Int) (a2_0 : Int) (a2_1 : Int) (r : Bool) (w : World) (hT : Tabs w) (hr_ : Hid (r = true)) (h : jalousielaw02_LabelLattice.f k a0_0 a0_1 a1_0 a1_1 a2_0 a2_1 = some r) :
  Calls Tryd.prog 13 #[.agg #[.int .i64 a0_0, .int .u64 a0_1], .agg #[.int .i64 a1_0, .int .u64 a1_1], .agg #[.int .i64 a2_0, .int .u64 a2_1]] w fun e w' => e = .returned (.bool r) ∧ Below w.heap.size w w' := by
 have hu40 := Tryd.underlying40
 have HB := Aside0.mk (Below.refl w.heap.size w)
 have H : ((label_Join.f a0_0 a0_1 a1_0 a1_1).bind fun bt383 => ((label_Meet.f a0_0 a0_1 a1_0 a1_1).bind fun bt385 => ((label_Below.f a0_0 a0_1 a0_0 a0_1).bind fun t389 => (if t389 = true then ((label_Below.f a0_0 a0_1 a1_0 a1_1).bind fun t390 => (if t390 = true then ((label_Below.f a1_0 a1_1 a0_0 a0_1).bind fun t391 => (if t391 = true then (if (!(a0_0 == a1_0) || (!(a0_1 == a1_1))) = true then (jalousielaw02_LabelLattice.j0 k true a0_0 a0_1 a1_0 a1_1 a2_0 a2_1 bt383.1 bt383.2 bt385.1 bt385.2) else ((label_Below.f a0_0 a0_1 a1_0 a1_1).bind fun t392 => (if t392 = true then ((label_Below.f a1_0 a1_1 a2_0 a2_1).bind fun t393 => (if t393 = true then ((label_Below.f a0_0 a0_1 a2_0 a2_1).bind fun t394 => (jalousielaw02_LabelLattice.j0 k (!t394) a0_0 a0_1 a1_0 a1_1 a2_0 a2_1 bt383.1 bt383.2 bt385.1 bt385.2)) else (jalousielaw02_LabelLattice.j0 k false a0_0 a0_1 a1_0 a1_1 a2_0 a2_1 bt383.1 bt383.2 bt385.1 bt385.2))) else (jalousielaw02_LabelLattice.j0 k false a0_0 a0_1 a1_0 a1_1 a2_0 a2_1 bt383.1 bt383.2 bt385.1 bt385.2)))) else ((label_Below.f a0_0 a0_1 a1_0 a1_1).bind fun t395 => (if t395 = true then ((label_Below.f a1_0 a1_1 a2_0 a2_1).bind fun t396 => (if t396 = true then ((label_Below.f a0_0 a0_1 a2_0 a2_1).bind fun t397 => (jalousielaw02_LabelLattice.j0 k (!t397) a0_0 a0_1 a1_0 a1_1 a2_0 a2_1 bt383.1 bt383.2 bt385.1 bt385.2)) else (jalousielaw02_LabelLattice.j0 k false a0_0 a0_1 a1_0 a1_1 a2_0 a2_1 bt383.1 bt383.2 bt385.1 bt385.2))) else (jalousielaw02_LabelLattice.j0 k false a0_0 a0_1 a1_0 a1_1 a2_0 a2_1 bt383.1 bt383.2 bt385.1 bt385.2))))) else ((label_Below.f a0_0 a0_1 a1_0 a1_1).bind fun t398 => (if t398 = true then ((label_Below.f a1_0 a1_1 a2_0 a2_1).bind fun t399 => (if t399 = true then ((label_Below.f a0_0 a0_1 a2_0 a2_1).bind fun t400 => (jalousielaw02_LabelLattice.j0 k (!t400) a0_0 a0_1 a1_0 a1_1 a2_0 a2_1 bt383.1 bt383.2 bt385.1 bt385.2)) else (jalousielaw02_LabelLattice.j0 k false a0_0 a0_1 a1_0 a1_1 a2_0 a2_1 bt383.1 bt383.2 bt385.1 bt385.2))) else (jalousielaw02_LabelLattice.j0 k false a0_0 a0_1 a1_0 a1_1 a2_0 a2_1 bt383.1 bt383.2 bt385.1 bt385.2))))) else (jalousielaw02_LabelLattice.j0 k true a0_0 a0_1 a1_0 a1_1 a2_0 a2_1 bt383.1 bt383.2 bt385.1 bt385.2))))) = some r := h
 clear h
 have HF4 := Aside0.mk H
 clear H
 go_enter Tryd.func13, Tryd.ntmps13
 go_wp2_with (first | ((with_reducible refine gate_dst (N := 3) rfl ?_); refine box_event ?hg (N := 3) ?hd (cs := #[.int .i64 a0_0, .int .u64 a0_1]) (t := 40) ?hr ?_; (case hd => rfl); (case hg => rfl); (case hr => first | (go_simp; done) | (go_simp; rfl)); intro gb380 hg w5 hbox hb; have BK380 := Aside0.mk (hbox); have GW380 := Aside0.mk ((by rw [hg]; exact (below_size (by repeat (first | (with_reducible first | exact HB.out | apply below_alloc | apply pw_below_drewN | apply below_drew1) | exact HB.out))) : w.heap.size ≤ gb380)); have GE380 := Aside0.mk ((by rw [hg]; exact (below_size (by repeat (first | (with_reducible first | exact HB.out | apply below_alloc | apply pw_below_drewN | apply below_drew1) | exact HB.out))) : w.heap.size ≤ gb380)); replace HB := Aside0.mk (below_b hb); clear hb hbox hg) | ((with_reducible refine gate_dst (N := 4) rfl ?_); refine box_event ?hg (N := 4) ?hd (cs := #[.int .i64 a1_0, .int .u64 a1_1]) (t := 40) ?hr ?_; (case hd => rfl); (case hg => rfl); (case hr => first | (go_simp; done) | (go_simp; rfl)); intro gb381 hg w6 hbox hb; have BK381 := Aside0.mk (hbox); have GW381 := Aside0.mk ((by rw [hg]; exact (below_size (by repeat (first | (with_reducible first | exact HB.out | apply below_alloc | apply pw_below_drewN | apply below_drew1 | refine below_set ?_ GE380.out) | exact HB.out))) : w.heap.size ≤ gb381)); have GE381 := Aside0.mk ((by rw [hg]; exact (below_size (by repeat (first | (with_reducible first | exact HB.out | apply below_alloc | apply pw_below_drewN | apply below_drew1 | refine below_set ?_ GE380.out) | exact HB.out))) : w.heap.size ≤ gb381)); have NB380_381 := nl_ BK380 hg; have NB381_380 := ng_ BK380 hg; replace BK380 := bb_ BK380 hb; replace HB := Aside0.mk (below_b hb); clear hb hbox hg) | ((with_reducible refine gate_dst (N := 5) rfl ?_); refine box_event ?hg (N := 5) ?hd (cs := #[.int .i64 a2_0, .int .u64 a2_1]) (t := 40) ?hr ?_; (case hd => rfl); (case hg => rfl); (case hr => first | (go_simp; done) | (go_simp; rfl)); intro gb382 hg w7 hbox hb; have BK382 := Aside0.mk (hbox); have GW382 := Aside0.mk ((by rw [hg]; exact (below_size (by repeat (first | (with_reducible first | exact HB.out | apply below_alloc | apply pw_below_drewN | apply below_drew1 | refine below_set ?_ GE380.out | refine below_set ?_ GE381.out) | exact HB.out))) : w.heap.size ≤ gb382)); have GE382 := Aside0.mk ((by rw [hg]; exact (below_size (by repeat (first | (with_reducible first | exact HB.out | apply below_alloc | apply pw_below_drewN | apply below_drew1 | refine below_set ?_ GE380.out | refine below_set ?_ GE381.out) | exact HB.out))) : w.heap.size ≤ gb382)); have NB380_382 := nl_ BK380 hg; have NB382_380 := ng_ BK380 hg; have NB381_382 := nl_ BK381 hg; have NB382_381 := ng_ BK381 hg; replace BK380 := bb_ BK380 hb; replace BK381 := bb_ BK381 hb; replace HB := Aside0.mk (below_b hb); clear hb hbox hg))
 have H := HF4.out
 clear HF4
 replace H := Option.bind_eq_some_iff.mp H
 obtain ⟨⟨t383, t384⟩, A80, H⟩ := H
 replace H : ((label_Meet.f a0_0 a0_1 a1_0 a1_1).bind fun bt385 => ((label_Below.f a0_0 a0_1 a0_0 a0_1).bind fun t389 => (if t389 = true then ((label_Below.f a0_0 a0_1 a1_0 a1_1).bind fun t390 => (if t390 = true then ((label_Below.f a1_0 a1_1 a0_0 a0_1).bind fun t391 => (if t391 = true then (if (!(a0_0 == a1_0) || (!(a0_1 == a1_1))) = true then (jalousielaw02_LabelLattice.j0 k true a0_0 a0_1 a1_0 a1_1 a2_0 a2_1 t383 t384 bt385.1 bt385.2) else ((label_Below.f a0_0 a0_1 a1_0 a1_1).bind fun t392 => (if t392 = true then ((label_Below.f a1_0 a1_1 a2_0 a2_1).bind fun t393 => (if t393 = true then ((label_Below.f a0_0 a0_1 a2_0 a2_1).bind fun t394 => (jalousielaw02_LabelLattice.j0 k (!t394) a0_0 a0_1 a1_0 a1_1 a2_0 a2_1 t383 t384 bt385.1 bt385.2)) else (jalousielaw02_LabelLattice.j0 k false a0_0 a0_1 a1_0 a1_1 a2_0 a2_1 t383 t384 bt385.1 bt385.2))) else (jalousielaw02_LabelLattice.j0 k false a0_0 a0_1 a1_0 a1_1 a2_0 a2_1 t383 t384 bt385.1 bt385.2)))) else ((label_Below.f a0_0 a0_1 a1_0 a1_1).bind fun t395 => (if t395 = true then ((label_Below.f a1_0 a1_1 a2_0 a2_1).bind fun t396 => (if t396 = true then ((label_Below.f a0_0 a0_1 a2_0 a2_1).bind fun t397 => (jalousielaw02_LabelLattice.j0 k (!t397) a0_0 a0_1 a1_0 a1_1 a2_0 a2_1 t383 t384 bt385.1 bt385.2)) else (jalousielaw02_LabelLattice.j0 k false a0_0 a0_1 a1_0 a1_1 a2_0 a2_1 t383 t384 bt385.1 bt385.2))) else (jalousielaw02_LabelLattice.j0 k false a0_0 a0_1 a1_0 a1_1 a2_0 a2_1 t383 t384 bt385.1 bt385.2))))) else ((label_Below.f a0_0 a0_1 a1_0 a1_1).bind fun t398 => (if t398 = true then ((label_Below.f a1_0 a1_1 a2_0 a2_1).bind fun t399 => (if t399 = true then ((label_Below.f a0_0 a0_1 a2_0 a2_1).bind fun t400 => (jalousielaw02_LabelLattice.j0 k (!t400) a0_0 a0_1 a1_0 a1_1 a2_0 a2_1 t383 t384 bt385.1 bt385.2)) else (jalousielaw02_LabelLattice.j0 k false a0_0 a0_1 a1_0 a1_1 a2_0 a2_1 t383 t384 bt385.1 bt385.2))) else (jalousielaw02_LabelLattice.j0 k false a0_0 a0_1 a1_0 a1_1 a2_0 a2_1 t383 t384 bt385.1 bt385.2))))) else (jalousielaw02_LabelLattice.j0 k true a0_0 a0_1 a1_0 a1_1 a2_0 a2_1 t383 t384 bt385.1 bt385.2)))) = some r := H
 have A8 := Aside0.mk A80
 clear A80
 replace H := Option.bind_eq_some_iff.mp H
 obtain ⟨⟨t385, t386⟩, A90, H⟩ := H
 replace H : ((label_Below.f a0_0 a0_1 a0_0 a0_1).bind fun t389 => (if t389 = true then ((label_Below.f a0_0 a0_1 a1_0 a1_1).bind fun t390 => (if t390 = true then ((label_Below.f a1_0 a1_1 a0_0 a0_1).bind fun t391 => (if t391 = true then (if (!(a0_0 == a1_0) || (!(a0_1 == a1_1))) = true then (jalousielaw02_LabelLattice.j0 k true a0_0 a0_1 a1_0 a1_1 a2_0 a2_1 t383 t384 t385 t386) else ((label_Below.f a0_0 a0_1 a1_0 a1_1).bind fun t392 => (if t392 = true then ((label_Below.f a1_0 a1_1 a2_0 a2_1).bind fun t393 => (if t393 = true then ((label_Below.f a0_0 a0_1 a2_0 a2_1).bind fun t394 => (jalousielaw02_LabelLattice.j0 k (!t394) a0_0 a0_1 a1_0 a1_1 a2_0 a2_1 t383 t384 t385 t386)) else (jalousielaw02_LabelLattice.j0 k false a0_0 a0_1 a1_0 a1_1 a2_0 a2_1 t383 t384 t385 t386))) else (jalousielaw02_LabelLattice.j0 k false a0_0 a0_1 a1_0 a1_1 a2_0 a2_1 t383 t384 t385 t386)))) else ((label_Below.f a0_0 a0_1 a1_0 a1_1).bind fun t395 => (if t395 = true then ((label_Below.f a1_0 a1_1 a2_0 a2_1).bind fun t396 => (if t396 = true then ((label_Below.f a0_0 a0_1 a2_0 a2_1).bind fun t397 => (jalousielaw02_LabelLattice.j0 k (!t397) a0_0 a0_1 a1_0 a1_1 a2_0 a2_1 t383 t384 t385 t386)) else (jalousielaw02_LabelLattice.j0 k false a0_0 a0_1 a1_0 a1_1 a2_0 a2_1 t383 t384 t385 t386))) else (jalousielaw02_LabelLattice.j0 k false a0_0 a0_1 a1_0 a1_1 a2_0 a2_1 t383 t384 t385 t386))))) else ((label_Below.f a0_0 a0_1 a1_0 a1_1).bind fun t398 => (if t398 = true then ((label_Below.f a1_0 a1_1 a2_0 a2_1).bind fun t399 => (if t399 = true then ((label_Below.f a0_0 a0_1 a2_0 a2_1).bind fun t400 => (jalousielaw02_LabelLattice.j0 k (!t400) a0_0 a0_1 a1_0 a1_1 a2_0 a2_1 t383 t384 t385 t386)) else (jalousielaw02_LabelLattice.j0 k false a0_0 a0_1 a1_0 a1_1 a2_0 a2_1 t383 t384 t385 t386))) else (jalousielaw02_LabelLattice.j0 k false a0_0 a0_1 a1_0 a1_1 a2_0 a2_1 t383 t384 t385 t386))))) else (jalousielaw02_LabelLattice.j0 k true a0_0 a0_1 a1_0 a1_1 a2_0 a2_1 t383 t384 t385 t386))) = some r := H
 have A9 := Aside0.mk A90
 clear A90
 have HC10 := Aside0.mk H
 clear H
 try go_wp2
 replace BK380 := Aside0.mk (blk_drew BK380.out); replace BK381 := Aside0.mk (blk_drew BK381.out); replace BK382 := Aside0.mk (blk_drew BK382.out); replace HB := Aside0.mk (below_drew1 HB.out)
 refine start_ (n := 10) (S := fun w' => w'.cell? ⟨gb380, 0, none⟩ = some (.int .i64 a0_0) ∧ w'.cell? ⟨gb380, 1, none⟩ = some (.int .u64 a0_1) ∧ w'.cell? ⟨gb381, 0, none⟩ = some (.int .i64 a1_0) ∧ w'.cell? ⟨gb381, 1, none⟩ = some (.int .u64 a1_1)) (ds := []) (bm 10 0) (by kernel_rfl) rfl rfl ⟨(blk_cell BK380.out 0).trans rfl, (blk_cell BK380.out 1).trans rfl, (blk_cell BK381.out 0).trans rfl, (blk_cell BK381.out 1).trans rfl⟩ (fun hHeld => ?_); refine with_tabW jalousielaw02_LabelLattice.tab1 jalousielaw02_LabelLattice.bits1 (fun HT_ HW_ => ?_)
 generalize w7.drew = w11 at BK380 BK381 BK382 HB hHeld ⊢
 refine take_ (i := 0) (N := some 9) (v := ?_) (a' := ?_) (bm 10 1) rfl rfl (take_ofW HT_.out HW_.out (by kernel_rfl)) (fun _ _ _ h => h) (Or.inl ⟨by rfl, ?_⟩) hHeld ?_ ?_; rotate_left; (rintro w' ⟨s0, s1, s2, s3⟩; go_simp; with_reducible rfl); rotate_left; (simp only [Act.put, List.setIfInBounds_toArray, List.set_cons_zero, List.set_cons_succ, i64_w, i32_w]; rfl)
 refine take_ (i := 1) (N := some 10) (v := ?_) (a' := ?_) (bm 10 3) rfl rfl (take_ofW HT_.out HW_.out (by kernel_rfl)) (fun _ _ _ h => h) (Or.inl ⟨by rfl, ?_⟩) hHeld ?_ ?_; rotate_left; (rintro w' ⟨s0, s1, s2, s3⟩; go_simp; with_reducible rfl); rotate_left; (simp only [Act.put, List.setIfInBounds_toArray, List.set_cons_zero, List.set_cons_succ, i64_w, i32_w]; rfl)
 refine take_ (i := 3) (N := some 12) (v := ?_) (a' := ?_) (bm 10 11) rfl rfl (take_ofW HT_.out HW_.out (by kernel_rfl)) (fun _ _ _ h => h) (Or.inl ⟨by rfl, ?_⟩) hHeld ?_ ?_; rotate_left; (rintro w' ⟨s0, s1, s2, s3⟩; go_simp; with_reducible rfl); rotate_left; (simp only [Act.put, List.setIfInBounds_toArray, List.set_cons_zero, List.set_cons_succ, i64_w, i32_w]; rfl)
 refine take_ (i := 4) (N := some 13) (v := ?_) (a' := ?_) (bm 10 27) rfl rfl (take_ofW HT_.out HW_.out (by kernel_rfl)) (fun _ _ _ h => h) (Or.inl ⟨by rfl, ?_⟩) hHeld ?_ ?_; rotate_left; (rintro w' ⟨s0, s1, s2, s3⟩; go_simp; with_reducible rfl); rotate_left; (simp only [Act.put, List.setIfInBounds_toArray, List.set_cons_zero, List.set_cons_succ, i64_w, i32_w]; rfl)
 refine join_ (σ := Nat × Nat) 2 (bm 10 255) (fun s_ => [(11, .agg #[.int .i64 t383, .int .u64 t384]), (14, .agg #[.int .i64 t385, .int .u64 t386]), (7, .pointer (some ⟨s_.1, 0, none⟩)), (8, .pointer (some ⟨s_.2, 0, none⟩))]) (fun s_ w' => (w'.cell? ⟨gb380, 0, none⟩ = some (.int .i64 a0_0) ∧ w'.cell? ⟨gb380, 1, none⟩ = some (.int .u64 a0_1) ∧ w'.cell? ⟨gb381, 0, none⟩ = some (.int .i64 a1_0) ∧ w'.cell? ⟨gb381, 1, none⟩ = some (.int .u64 a1_1)) ∧ (w'.heap[gb380]? = some (.cells #[.int .i64 a0_0, .int .u64 a0_1] 40 (0, 0))) ∧ (w'.heap[gb381]? = some (.cells #[.int .i64 a1_0, .int .u64 a1_1] 40 (0, 0))) ∧ (w'.heap[gb382]? = some (.cells #[.int .i64 a2_0, .int .u64 a2_1] 40 (0, 0))) ∧ (w'.heap[s_.1]? = some (.cells #[.int .i64 0, .int .u64 0] 40 (0, 0))) ∧ (w'.heap[s_.2]? = some (.cells #[.int .i64 0, .int .u64 0] 40 (0, 0))) ∧ (w.heap.size ≤ s_.1) ∧ (w.heap.size ≤ s_.1) ∧ (gb380 ≠ s_.1) ∧ (s_.1 ≠ gb380) ∧ (gb381 ≠ s_.1) ∧ (s_.1 ≠ gb381) ∧ (gb382 ≠ s_.1) ∧ (s_.1 ≠ gb382) ∧ (s_.2 ≠ s_.1) ∧ (s_.1 ≠ s_.2) ∧ (w.heap.size ≤ s_.2) ∧ (w.heap.size ≤ s_.2) ∧ (gb380 ≠ s_.2) ∧ (s_.2 ≠ gb380) ∧ (gb381 ≠ s_.2) ∧ (s_.2 ≠ gb381) ∧ (gb382 ≠ s_.2) ∧ (s_.2 ≠ gb382) ∧ (Below w.heap.size w w')) ?_ ?_
 rotate_left
 ·intro hJ2_5_6_7
  refine join_ (σ := Nat) 3 (bm 10 127) (fun s_ => [(11, .agg #[.int .i64 t383, .int .u64 t384]), (14, .agg #[.int .i64 t385, .int .u64 t386]), (7, .pointer (some ⟨s_, 0, none⟩))]) (fun s_ w' => (w'.cell? ⟨gb380, 0, none⟩ = some (.int .i64 a0_0) ∧ w'.cell? ⟨gb380, 1, none⟩ = some (.int .u64 a0_1) ∧ w'.cell? ⟨gb381, 0, none⟩ = some (.int .i64 a1_0) ∧ w'.cell? ⟨gb381, 1, none⟩ = some (.int .u64 a1_1)) ∧ (w'.heap[gb380]? = some (.cells #[.int .i64 a0_0, .int .u64 a0_1] 40 (0, 0))) ∧ (w'.heap[gb381]? = some (.cells #[.int .i64 a1_0, .int .u64 a1_1] 40 (0, 0))) ∧ (w'.heap[gb382]? = some (.cells #[.int .i64 a2_0, .int .u64 a2_1] 40 (0, 0))) ∧ (w'.heap[s_]? = some (.cells #[.int .i64 0, .int .u64 0] 40 (0, 0))) ∧ (w.heap.size ≤ s_) ∧ (w.heap.size ≤ s_) ∧ (gb380 ≠ s_) ∧ (s_ ≠ gb380) ∧ (gb381 ≠ s_) ∧ (s_ ≠ gb381) ∧ (gb382 ≠ s_) ∧ (s_ ≠ gb382) ∧ (Below w.heap.size w w')) ?_ ?_
  rotate_left
  ·intro hJ2_5_6
   refine join_ (σ := Nat) 3 (bm 10 191) (fun s_ => [(11, .agg #[.int .i64 t383, .int .u64 t384]), (14, .agg #[.int .i64 t385, .int .u64 t386]), (8, .pointer (some ⟨s_, 0, none⟩))]) (fun s_ w' => (w'.cell? ⟨gb380, 0, none⟩ = some (.int .i64 a0_0) ∧ w'.cell? ⟨gb380, 1, none⟩ = some (.int .u64 a0_1) ∧ w'.cell? ⟨gb381, 0, none⟩ = some (.int .i64 a1_0) ∧ w'.cell? ⟨gb381, 1, none⟩ = some (.int .u64 a1_1)) ∧ (w'.heap[gb380]? = some (.cells #[.int .i64 a0_0, .int .u64 a0_1] 40 (0, 0))) ∧ (w'.heap[gb381]? = some (.cells #[.int .i64 a1_0, .int .u64 a1_1] 40 (0, 0))) ∧ (w'.heap[gb382]? = some (.cells #[.int .i64 a2_0, .int .u64 a2_1] 40 (0, 0))) ∧ (w'.heap[s_]? = some (.cells #[.int .i64 0, .int .u64 0] 40 (0, 0))) ∧ (w.heap.size ≤ s_) ∧ (w.heap.size ≤ s_) ∧ (gb380 ≠ s_) ∧ (s_ ≠ gb380) ∧ (gb381 ≠ s_) ∧ (s_ ≠ gb381) ∧ (gb382 ≠ s_) ∧ (s_ ≠ gb382) ∧ (Below w.heap.size w w')) ?_ ?_
   rotate_left
   ·intro hJ2_5_7
    refine join_ (σ := Nat × Nat) 3 (bm 10 223) (fun s_ => [(11, .agg #[.int .i64 t383, .int .u64 t384]), (7, .pointer (some ⟨s_.1, 0, none⟩)), (8, .pointer (some ⟨s_.2, 0, none⟩))]) (fun s_ w' => (w'.cell? ⟨gb380, 0, none⟩ = some (.int .i64 a0_0) ∧ w'.cell? ⟨gb380, 1, none⟩ = some (.int .u64 a0_1) ∧ w'.cell? ⟨gb381, 0, none⟩ = some (.int .i64 a1_0) ∧ w'.cell? ⟨gb381, 1, none⟩ = some (.int .u64 a1_1)) ∧ (w'.heap[gb380]? = some (.cells #[.int .i64 a0_0, .int .u64 a0_1] 40 (0, 0))) ∧ (w'.heap[gb381]? = some (.cells #[.int .i64 a1_0, .int .u64 a1_1] 40 (0, 0))) ∧ (w'.heap[gb382]? = some (.cells #[.int .i64 a2_0, .int .u64 a2_1] 40 (0, 0))) ∧ (w'.heap[s_.1]? = some (.cells #[.int .i64 0, .int .u64 0] 40 (0, 0))) ∧ (w'.heap[s_.2]? = some (.cells #[.int .i64 0, .int .u64 0] 40 (0, 0))) ∧ (w.heap.size ≤ s_.1) ∧ (w.heap.size ≤ s_.1) ∧ (gb380 ≠ s_.1) ∧ (s_.1 ≠ gb380) ∧ (gb381 ≠ s_.1) ∧ (s_.1 ≠ gb381) ∧ (gb382 ≠ s_.1) ∧ (s_.1 ≠ gb382) ∧ (s_.2 ≠ s_.1) ∧ (s_.1 ≠ s_.2) ∧ (w.heap.size ≤ s_.2) ∧ (w.heap.size ≤ s_.2) ∧ (gb380 ≠ s_.2) ∧ (s_.2 ≠ gb380) ∧ (gb381 ≠ s_.2) ∧ (s_.2 ≠ gb381) ∧ (gb382 ≠ s_.2) ∧ (s_.2 ≠ gb382) ∧ (Below w.heap.size w w')) ?_ ?_
    rotate_left
    ·intro hJ2_6_7
     refine join_ (σ := Unit) 4 (bm 10 63) (fun s_ => [(11, .agg #[.int .i64 t383, .int .u64 t384]), (14, .agg #[.int .i64 t385, .int .u64 t386])]) (fun s_ w' => (w'.cell? ⟨gb380, 0, none⟩ = some (.int .i64 a0_0) ∧ w'.cell? ⟨gb380, 1, none⟩ = some (.int .u64 a0_1) ∧ w'.cell? ⟨gb381, 0, none⟩ = some (.int .i64 a1_0) ∧ w'.cell? ⟨gb381, 1, none⟩ = some (.int .u64 a1_1)) ∧ (w'.heap[gb380]? = some (.cells #[.int .i64 a0_0, .int .u64 a0_1] 40 (0, 0))) ∧ (w'.heap[gb381]? = some (.cells #[.int .i64 a1_0, .int .u64 a1_1] 40 (0, 0))) ∧ (w'.heap[gb382]? = some (.cells #[.int .i64 a2_0, .int .u64 a2_1] 40 (0, 0))) ∧ (Below w.heap.size w w')) ?_ ?_
     rotate_left
     ·intro hJ2_5
      refine join_ (σ := Nat) 4 (bm 10 95) (fun s_ => [(11, .agg #[.int .i64 t383, .int .u64 t384]), (7, .pointer (some ⟨s_, 0, none⟩))]) (fun s_ w' => (w'.cell? ⟨gb380, 0, none⟩ = some (.int .i64 a0_0) ∧ w'.cell? ⟨gb380, 1, none⟩ = some (.int .u64 a0_1) ∧ w'.cell? ⟨gb381, 0, none⟩ = some (.int .i64 a1_0) ∧ w'.cell? ⟨gb381, 1, none⟩ = some (.int .u64 a1_1)) ∧ (w'.heap[gb380]? = some (.cells #[.int .i64 a0_0, .int .u64 a0_1] 40 (0, 0))) ∧ (w'.heap[gb381]? = some (.cells #[.int .i64 a1_0, .int .u64 a1_1] 40 (0, 0))) ∧ (w'.heap[gb382]? = some (.cells #[.int .i64 a2_0, .int .u64 a2_1] 40 (0, 0))) ∧ (w'.heap[s_]? = some (.cells #[.int .i64 0, .int .u64 0] 40 (0, 0))) ∧ (w.heap.size ≤ s_) ∧ (w.heap.size ≤ s_) ∧ (gb380 ≠ s_) ∧ (s_ ≠ gb380) ∧ (gb381 ≠ s_) ∧ (s_ ≠ gb381) ∧ (gb382 ≠ s_) ∧ (s_ ≠ gb382) ∧ (Below w.heap.size w w')) ?_ ?_
      rotate_left
      ·intro hJ2_6
       refine join_ (σ := Nat) 4 (bm 10 159) (fun s_ => [(11, .agg #[.int .i64 t383, .int .u64 t384]), (8, .pointer (some ⟨s_, 0, none⟩))]) (fun s_ w' => (w'.cell? ⟨gb380, 0, none⟩ = some (.int .i64 a0_0) ∧ w'.cell? ⟨gb380, 1, none⟩ = some (.int .u64 a0_1) ∧ w'.cell? ⟨gb381, 0, none⟩ = some (.int .i64 a1_0) ∧ w'.cell? ⟨gb381, 1, none⟩ = some (.int .u64 a1_1)) ∧ (w'.heap[gb380]? = some (.cells #[.int .i64 a0_0, .int .u64 a0_1] 40 (0, 0))) ∧ (w'.heap[gb381]? = some (.cells #[.int .i64 a1_0, .int .u64 a1_1] 40 (0, 0))) ∧ (w'.heap[gb382]? = some (.cells #[.int .i64 a2_0, .int .u64 a2_1] 40 (0, 0))) ∧ (w'.heap[s_]? = some (.cells #[.int .i64 0, .int .u64 0] 40 (0, 0))) ∧ (w.heap.size ≤ s_) ∧ (w.heap.size ≤ s_) ∧ (gb380 ≠ s_) ∧ (s_ ≠ gb380) ∧ (gb381 ≠ s_) ∧ (s_ ≠ gb381) ∧ (gb382 ≠ s_) ∧ (s_ ≠ gb382) ∧ (Below w.heap.size w w')) ?_ ?_
       rotate_left
       ·intro hJ2_7
        refine join_ (σ := Nat × Nat) 4 (bm 10 219) (fun s_ => [(7, .pointer (some ⟨s_.1, 0, none⟩)), (8, .pointer (some ⟨s_.2, 0, none⟩))]) (fun s_ w' => (w'.cell? ⟨gb380, 0, none⟩ = some (.int .i64 a0_0) ∧ w'.cell? ⟨gb380, 1, none⟩ = some (.int .u64 a0_1) ∧ w'.cell? ⟨gb381, 0, none⟩ = some (.int .i64 a1_0) ∧ w'.cell? ⟨gb381, 1, none⟩ = some (.int .u64 a1_1)) ∧ (w'.heap[gb380]? = some (.cells #[.int .i64 a0_0, .int .u64 a0_1] 40 (0, 0))) ∧ (w'.heap[gb381]? = some (.cells #[.int .i64 a1_0, .int .u64 a1_1] 40 (0, 0))) ∧ (w'.heap[gb382]? = some (.cells #[.int .i64 a2_0, .int .u64 a2_1] 40 (0, 0))) ∧ (w'.heap[s_.1]? = some (.cells #[.int .i64 0, .int .u64 0] 40 (0, 0))) ∧ (w'.heap[s_.2]? = some (.cells #[.int .i64 0, .int .u64 0] 40 (0, 0))) ∧ (w.heap.size ≤ s_.1) ∧ (w.heap.size ≤ s_.1) ∧ (gb380 ≠ s_.1) ∧ (s_.1 ≠ gb380) ∧ (gb381 ≠ s_.1) ∧ (s_.1 ≠ gb381) ∧ (gb382 ≠ s_.1) ∧ (s_.1 ≠ gb382) ∧ (s_.2 ≠ s_.1) ∧ (s_.1 ≠ s_.2) ∧ (w.heap.size ≤ s_.2) ∧ (w.heap.size ≤ s_.2) ∧ (gb380 ≠ s_.2) ∧ (s_.2 ≠ gb380) ∧ (gb381 ≠ s_.2) ∧ (s_.2 ≠ gb381) ∧ (gb382 ≠ s_.2) ∧ (s_.2 ≠ gb382) ∧ (Below w.heap.size w w')) ?_ ?_
        rotate_left
        ·intro hJ6_7
         refine join_ (σ := Unit) 5 (bm 10 31) (fun s_ => [(11, .agg #[.int .i64 t383, .int .u64 t384])]) (fun s_ w' => (w'.cell? ⟨gb380, 0, none⟩ = some (.int .i64 a0_0) ∧ w'.cell? ⟨gb380, 1, none⟩ = some (.int .u64 a0_1) ∧ w'.cell? ⟨gb381, 0, none⟩ = some (.int .i64 a1_0) ∧ w'.cell? ⟨gb381, 1, none⟩ = some (.int .u64 a1_1)) ∧ (w'.heap[gb380]? = some (.cells #[.int .i64 a0_0, .int .u64 a0_1] 40 (0, 0))) ∧ (w'.heap[gb381]? = some (.cells #[.int .i64 a1_0, .int .u64 a1_1] 40 (0, 0))) ∧ (w'.heap[gb382]? = some (.cells #[.int .i64 a2_0, .int .u64 a2_1] 40 (0, 0))) ∧ (Below w.heap.size w w')) ?_ ?_
         rotate_left
         ·intro hJ2
          refine join_ (σ := Nat) 5 (bm 10 91) (fun s_ => [(7, .pointer (some ⟨s_, 0, none⟩))]) (fun s_ w' => (w'.cell? ⟨gb380, 0, none⟩ = some (.int .i64 a0_0) ∧ w'.cell? ⟨gb380, 1, none⟩ = some (.int .u64 a0_1) ∧ w'.cell? ⟨gb381, 0, none⟩ = some (.int .i64 a1_0) ∧ w'.cell? ⟨gb381, 1, none⟩ = some (.int .u64 a1_1)) ∧ (w'.heap[gb380]? = some (.cells #[.int .i64 a0_0, .int .u64 a0_1] 40 (0, 0))) ∧ (w'.heap[gb381]? = some (.cells #[.int .i64 a1_0, .int .u64 a1_1] 40 (0, 0))) ∧ (w'.heap[gb382]? = some (.cells #[.int .i64 a2_0, .int .u64 a2_1] 40 (0, 0))) ∧ (w'.heap[s_]? = some (.cells #[.int .i64 0, .int .u64 0] 40 (0, 0))) ∧ (w.heap.size ≤ s_) ∧ (w.heap.size ≤ s_) ∧ (gb380 ≠ s_) ∧ (s_ ≠ gb380) ∧ (gb381 ≠ s_) ∧ (s_ ≠ gb381) ∧ (gb382 ≠ s_) ∧ (s_ ≠ gb382) ∧ (Below w.heap.size w w')) ?_ ?_
          rotate_left
          ·intro hJ6
           refine join_ (σ := Nat) 5 (bm 10 155) (fun s_ => [(8, .pointer (some ⟨s_, 0, none⟩))]) (fun s_ w' => (w'.cell? ⟨gb380, 0, none⟩ = some (.int .i64 a0_0) ∧ w'.cell? ⟨gb380, 1, none⟩ = some (.int .u64 a0_1) ∧ w'.cell? ⟨gb381, 0, none⟩ = some (.int .i64 a1_0) ∧ w'.cell? ⟨gb381, 1, none⟩ = some (.int .u64 a1_1)) ∧ (w'.heap[gb380]? = some (.cells #[.int .i64 a0_0, .int .u64 a0_1] 40 (0, 0))) ∧ (w'.heap[gb381]? = some (.cells #[.int .i64 a1_0, .int .u64 a1_1] 40 (0, 0))) ∧ (w'.heap[gb382]? = some (.cells #[.int .i64 a2_0, .int .u64 a2_1] 40 (0, 0))) ∧ (w'.heap[s_]? = some (.cells #[.int .i64 0, .int .u64 0] 40 (0, 0))) ∧ (w.heap.size ≤ s_) ∧ (w.heap.size ≤ s_) ∧ (gb380 ≠ s_) ∧ (s_ ≠ gb380) ∧ (gb381 ≠ s_) ∧ (s_ ≠ gb381) ∧ (gb382 ≠ s_) ∧ (s_ ≠ gb382) ∧ (Below w.heap.size w w')) ?_ ?_
           rotate_left
           ·intro hJ7
            refine three_ (i := 2) (j := 6) (k := 7) (Ni := some 11) (Nj := some 7) (Nk := some 8) (bm 10 31) (bm 10 91) (bm 10 155) rfl rfl rfl rfl rfl rfl (three_of HT_.out (by kernel_rfl)) (by decide) (by decide) (by decide) (fun K hK => ?_) (fun K hK => ?_) (fun K hK => ?_)
            ·refine goes_ Tryd.func45 (by kernel_rfl) rfl #[.agg #[.int .i64 a0_0, .int .u64 a0_1], .agg #[.int .i64 a1_0, .int .u64 a1_1]] (by rfl) rfl rfl (by (try simp only [List.map_toArray, List.map_cons, List.map_nil]); first | done | rfl | (simp only [List.length_drop, List.length_take]; rfl)) ?_
             with_reducible refine (label_Join.calls a0_0 a0_1 a1_0 a1_1 t383 t384 _ A8.out).mono ?_
             rintro e w12 ⟨rfl, hb⟩
             refine ⟨_, rfl, ?_⟩
             replace BK380 := bb_ BK380 hb; replace BK381 := bb_ BK381 hb; replace BK382 := bb_ BK382 hb; replace HB := Aside0.mk (below_b hb)
             (try clear hb)
             refine hK.out _ _ ⟨(blk_cell BK380.out 0).trans rfl, (blk_cell BK380.out 1).trans rfl, (blk_cell BK381.out 0).trans rfl, (blk_cell BK381.out 1).trans rfl⟩ (fun hHeld => ?_)
             clear hK K
             refine norm_ (a' := ?_) ?_ ?_
             rotate_left
             ·show Act.put _ (some 11) _ = _
              simp only [Act.put, List.setIfInBounds_toArray, List.set_cons_zero, List.set_cons_succ, i64_w, i32_w]
              rfl
             exact norm_ (by first | (simp only [putAll, Act.put, List.setIfInBounds_toArray, List.set_cons_zero, List.set_cons_succ]; done) | (simp only [putAll, Act.put, List.setIfInBounds_toArray, List.set_cons_zero, List.set_cons_succ]; rfl)) (hJ2 () _ ⟨hHeld, (bd_ BK380), (bd_ BK381), (bd_ BK382), (by repeat (first | (with_reducible first | exact HB.out | apply below_alloc | apply pw_below_drewN | apply below_drew1 | refine below_set ?_ GE380.out | refine below_set ?_ GE381.out | refine below_set ?_ GE382.out) | exact HB.out))⟩)
            ·refine box_step ?hg (N := 7) ?hd (cs := #[.int .i64 0, .int .u64 0]) (t := 40) ?hr ?_; (case hd => rfl); (case hg => rfl); (case hr => first | (go_simp; done) | (go_simp; rfl))
             intro gb387 hg w12 hbox hb
             have BK387 := Aside0.mk (hbox); have GW387 := Aside0.mk ((by rw [hg]; exact (below_size (by repeat (first | (with_reducible first | exact HB.out | apply below_alloc | apply pw_below_drewN | apply below_drew1 | refine below_set ?_ GE380.out | refine below_set ?_ GE381.out | refine below_set ?_ GE382.out) | exact HB.out))) : w.heap.size ≤ gb387)); have GE387 := Aside0.mk ((by rw [hg]; exact (below_size (by repeat (first | (with_reducible first | exact HB.out | apply below_alloc | apply pw_below_drewN | apply below_drew1 | refine below_set ?_ GE380.out | refine below_set ?_ GE381.out | refine below_set ?_ GE382.out) | exact HB.out))) : w.heap.size ≤ gb387)); have NB380_387 := nl_ BK380 hg; have NB387_380 := ng_ BK380 hg; have NB381_387 := nl_ BK381 hg; have NB387_381 := ng_ BK381 hg; have NB382_387 := nl_ BK382 hg; have NB387_382 := ng_ BK382 hg; replace BK380 := bb_ BK380 hb; replace BK381 := bb_ BK381 hb; replace BK382 := bb_ BK382 hb; replace HB := Aside0.mk (below_b hb); clear hb hbox hg
             refine hK.out _ _ ⟨(blk_cell BK380.out 0).trans rfl, (blk_cell BK380.out 1).trans rfl, (blk_cell BK381.out 0).trans rfl, (blk_cell BK381.out 1).trans rfl⟩ (fun hHeld => ?_)
             clear hK K
             refine norm_ (a' := ?_) ?_ ?_
             rotate_left
             ·show Act.put _ (some 7) _ = _
              simp only [Act.put, List.setIfInBounds_toArray, List.set_cons_zero, List.set_cons_succ, i64_w, i32_w]
              rfl
             exact norm_ (by first | (simp only [putAll, Act.put, List.setIfInBounds_toArray, List.set_cons_zero, List.set_cons_succ]; done) | (simp only [putAll, Act.put, List.setIfInBounds_toArray, List.set_cons_zero, List.set_cons_succ]; rfl)) (hJ6 (gb387) _ ⟨hHeld, (bd_ BK380), (bd_ BK381), (bd_ BK382), (bd_ BK387), GW387.out, GE387.out, NB380_387.out, NB387_380.out, NB381_387.out, NB387_381.out, NB382_387.out, NB387_382.out, (by repeat (first | (with_reducible first | exact HB.out | apply below_alloc | apply pw_below_drewN | apply below_drew1 | refine below_set ?_ GE380.out | refine below_set ?_ GE381.out | refine below_set ?_ GE382.out | refine below_set ?_ GE387.out) | exact HB.out))⟩)
            ·refine box_step ?hg (N := 8) ?hd (cs := #[.int .i64 0, .int .u64 0]) (t := 40) ?hr ?_; (case hd => rfl); (case hg => rfl); (case hr => first | (go_simp; done) | (go_simp; rfl))
             intro gb388 hg w12 hbox hb
             have BK388 := Aside0.mk (hbox); have GW388 := Aside0.mk ((by rw [hg]; exact (below_size (by repeat (first | (with_reducible first | exact HB.out | apply below_alloc | apply pw_below_drewN | apply below_drew1 | refine below_set ?_ GE380.out | refine below_set ?_ GE381.out | refine below_set ?_ GE382.out) | exact HB.out))) : w.heap.size ≤ gb388)); have GE388 := Aside0.mk ((by rw [hg]; exact (below_size (by repeat (first | (with_reducible first | exact HB.out | apply below_alloc | apply pw_below_drewN | apply below_drew1 | refine below_set ?_ GE380.out | refine below_set ?_ GE381.out | refine below_set ?_ GE382.out) | exact HB.out))) : w.heap.size ≤ gb388)); have NB380_388 := nl_ BK380 hg; have NB388_380 := ng_ BK380 hg; have NB381_388 := nl_ BK381 hg; have NB388_381 := ng_ BK381 hg; have NB382_388 := nl_ BK382 hg; have NB388_382 := ng_ BK382 hg; replace BK380 := bb_ BK380 hb; replace BK381 := bb_ BK381 hb; replace BK382 := bb_ BK382 hb; replace HB := Aside0.mk (below_b hb); clear hb hbox hg
             refine hK.out _ _ ⟨(blk_cell BK380.out 0).trans rfl, (blk_cell BK380.out 1).trans rfl, (blk_cell BK381.out 0).trans rfl, (blk_cell BK381.out 1).trans rfl⟩ (fun hHeld => ?_)
             clear hK K
             refine norm_ (a' := ?_) ?_ ?_
             rotate_left
             ·show Act.put _ (some 8) _ = _
              simp only [Act.put, List.setIfInBounds_toArray, List.set_cons_zero, List.set_cons_succ, i64_w, i32_w]
              rfl
             exact norm_ (by first | (simp only [putAll, Act.put, List.setIfInBounds_toArray, List.set_cons_zero, List.set_cons_succ]; done) | (simp only [putAll, Act.put, List.setIfInBounds_toArray, List.set_cons_zero, List.set_cons_succ]; rfl)) (hJ7 (gb388) _ ⟨hHeld, (bd_ BK380), (bd_ BK381), (bd_ BK382), (bd_ BK388), GW388.out, GE388.out, NB380_388.out, NB388_380.out, NB381_388.out, NB388_381.out, NB382_388.out, NB388_382.out, (by repeat (first | (with_reducible first | exact HB.out | apply below_alloc | apply pw_below_drewN | apply below_drew1 | refine below_set ?_ GE380.out | refine below_set ?_ GE381.out | refine below_set ?_ GE382.out | refine below_set ?_ GE388.out) | exact HB.out))⟩)
           ·rintro gb388 w13 ⟨hS_, h0_, h1_, h2_, h3_, h4_, h5_, h6_, h7_, h8_, h9_, h10_, h11_, h12_⟩
            have BK388 : Aside0 (w13.heap[gb388]? = some (.cells #[.int .i64 0, .int .u64 0] 40 (0, 0))) := ⟨h3_⟩; have GW388 : Aside0 (w.heap.size ≤ gb388) := ⟨h4_⟩; have GE388 : Aside0 (w.heap.size ≤ gb388) := ⟨h5_⟩; have NB380_388 : Aside0 (gb380 ≠ gb388) := ⟨h6_⟩; have NB388_380 : Aside0 (gb388 ≠ gb380) := ⟨h7_⟩; have NB381_388 : Aside0 (gb381 ≠ gb388) := ⟨h8_⟩; have NB388_381 : Aside0 (gb388 ≠ gb381) := ⟨h9_⟩; have NB382_388 : Aside0 (gb382 ≠ gb388) := ⟨h10_⟩; have NB388_382 : Aside0 (gb388 ≠ gb382) := ⟨h11_⟩; replace BK380 : Aside0 (w13.heap[gb380]? = some (.cells #[.int .i64 a0_0, .int .u64 a0_1] 40 (0, 0))) := ⟨h0_⟩; replace BK381 : Aside0 (w13.heap[gb381]? = some (.cells #[.int .i64 a1_0, .int .u64 a1_1] 40 (0, 0))) := ⟨h1_⟩; replace BK382 : Aside0 (w13.heap[gb382]? = some (.cells #[.int .i64 a2_0, .int .u64 a2_1] 40 (0, 0))) := ⟨h2_⟩; replace HB : Aside0 (Below w.heap.size w w13) := ⟨h12_⟩; clear h0_ h1_ h2_ h3_ h4_ h5_ h6_ h7_ h8_ h9_ h10_ h11_ h12_
            have hHeld : w13.cell? ⟨gb380, 0, none⟩ = some (.int .i64 a0_0) ∧ w13.cell? ⟨gb380, 1, none⟩ = some (.int .u64 a0_1) ∧ w13.cell? ⟨gb381, 0, none⟩ = some (.int .i64 a1_0) ∧ w13.cell? ⟨gb381, 1, none⟩ = some (.int .u64 a1_1) := hS_
            refine norm_ (a' := ?_) ?_ ?_
            rotate_left
            ·simp only [putAll, Act.put, List.setIfInBounds_toArray, List.set_cons_zero, List.set_cons_succ]
             rfl
            refine two_ (i := 2) (j := 6) (Ni := some 11) (Nj := some 7) (bm 10 159) (bm 10 219) rfl rfl rfl rfl (two_of HT_.out (by kernel_rfl)) (by decide) (by decide) (fun K hK => ?_) (fun K hK => ?_)
            ·refine goes_ Tryd.func45 (by kernel_rfl) rfl #[.agg #[.int .i64 a0_0, .int .u64 a0_1], .agg #[.int .i64 a1_0, .int .u64 a1_1]] (by rfl) rfl rfl (by (try simp only [List.map_toArray, List.map_cons, List.map_nil]); first | done | rfl | (simp only [List.length_drop, List.length_take]; rfl)) ?_
             with_reducible refine (label_Join.calls a0_0 a0_1 a1_0 a1_1 t383 t384 _ A8.out).mono ?_
             rintro e w14 ⟨rfl, hb⟩
             refine ⟨_, rfl, ?_⟩
             replace BK380 := bb_ BK380 hb; replace BK381 := bb_ BK381 hb; replace BK382 := bb_ BK382 hb; replace BK388 := bb_ BK388 hb; replace HB := Aside0.mk (below_b hb)
             (try clear hb)
             refine hK.out _ _ ⟨(blk_cell BK380.out 0).trans rfl, (blk_cell BK380.out 1).trans rfl, (blk_cell BK381.out 0).trans rfl, (blk_cell BK381.out 1).trans rfl⟩ (fun hHeld => ?_)
             clear hK K
             refine norm_ (a' := ?_) ?_ ?_
             rotate_left
             ·show Act.put _ (some 11) _ = _
              simp only [Act.put, List.setIfInBounds_toArray, List.set_cons_zero, List.set_cons_succ, i64_w, i32_w]
              rfl
             exact norm_ (by first | (simp only [putAll, Act.put, List.setIfInBounds_toArray, List.set_cons_zero, List.set_cons_succ]; done) | (simp only [putAll, Act.put, List.setIfInBounds_toArray, List.set_cons_zero, List.set_cons_succ]; rfl)) (hJ2_7 (gb388) _ ⟨hHeld, (bd_ BK380), (bd_ BK381), (bd_ BK382), (bd_ BK388), GW388.out, GE388.out, NB380_388.out, NB388_380.out, NB381_388.out, NB388_381.out, NB382_388.out, NB388_382.out, (by repeat (first | (with_reducible first | exact HB.out | apply below_alloc | apply pw_below_drewN | apply below_drew1 | refine below_set ?_ GE380.out | refine below_set ?_ GE381.out | refine below_set ?_ GE382.out | refine below_set ?_ GE388.out) | exact HB.out))⟩)
            ·refine box_step ?hg (N := 7) ?hd (cs := #[.int .i64 0, .int .u64 0]) (t := 40) ?hr ?_; (case hd => rfl); (case hg => rfl); (case hr => first | (go_simp; done) | (go_simp; rfl))
             intro gb387 hg w14 hbox hb
             have BK387 := Aside0.mk (hbox); have GW387 := Aside0.mk ((by rw [hg]; exact (below_size (by repeat (first | (with_reducible first | exact HB.out | apply below_alloc | apply pw_below_drewN | apply below_drew1 | refine below_set ?_ GE380.out | refine below_set ?_ GE381.out | refine below_set ?_ GE382.out | refine below_set ?_ GE388.out) | exact HB.out))) : w.heap.size ≤ gb387)); have GE387 := Aside0.mk ((by rw [hg]; exact (below_size (by repeat (first | (with_reducible first | exact HB.out | apply below_alloc | apply pw_below_drewN | apply below_drew1 | refine below_set ?_ GE380.out | refine below_set ?_ GE381.out | refine below_set ?_ GE382.out | refine below_set ?_ GE388.out) | exact HB.out))) : w.heap.size ≤ gb387)); have NB380_387 := nl_ BK380 hg; have NB387_380 := ng_ BK380 hg; have NB381_387 := nl_ BK381 hg; have NB387_381 := ng_ BK381 hg; have NB382_387 := nl_ BK382 hg; have NB387_382 := ng_ BK382 hg; have NB388_387 := nl_ BK388 hg; have NB387_388 := ng_ BK388 hg; replace BK380 := bb_ BK380 hb; replace BK381 := bb_ BK381 hb; replace BK382 := bb_ BK382 hb; replace BK388 := bb_ BK388 hb; replace HB := Aside0.mk (below_b hb); clear hb hbox hg
             refine hK.out _ _ ⟨(blk_cell BK380.out 0).trans rfl, (blk_cell BK380.out 1).trans rfl, (blk_cell BK381.out 0).trans rfl, (blk_cell BK381.out 1).trans rfl⟩ (fun hHeld => ?_)
             clear hK K
             refine norm_ (a' := ?_) ?_ ?_
             rotate_left
             ·show Act.put _ (some 7) _ = _
              simp only [Act.put, List.setIfInBounds_toArray, List.set_cons_zero, List.set_cons_succ, i64_w, i32_w]
              rfl
             exact norm_ (by first | (simp only [putAll, Act.put, List.setIfInBounds_toArray, List.set_cons_zero, List.set_cons_succ]; done) | (simp only [putAll, Act.put, List.setIfInBounds_toArray, List.set_cons_zero, List.set_cons_succ]; rfl)) (hJ6_7 (gb387, gb388) _ ⟨hHeld, (bd_ BK380), (bd_ BK381), (bd_ BK382), (bd_ BK387), (bd_ BK388), GW387.out, GE387.out, NB380_387.out, NB387_380.out, NB381_387.out, NB387_381.out, NB382_387.out, NB387_382.out, NB388_387.out, NB387_388.out, GW388.out, GE388.out, NB380_388.out, NB388_380.out, NB381_388.out, NB388_381.out, NB382_388.out, NB388_382.out, (by repeat (first | (with_reducible first | exact HB.out | apply below_alloc | apply pw_below_drewN | apply below_drew1 | refine below_set ?_ GE380.out | refine below_set ?_ GE381.out | refine below_set ?_ GE382.out | refine below_set ?_ GE388.out | refine below_set ?_ GE387.out) | exact HB.out))⟩)
          ·rintro gb387 w13 ⟨hS_, h0_, h1_, h2_, h3_, h4_, h5_, h6_, h7_, h8_, h9_, h10_, h11_, h12_⟩
           have BK387 : Aside0 (w13.heap[gb387]? = some (.cells #[.int .i64 0, .int .u64 0] 40 (0, 0))) := ⟨h3_⟩; have GW387 : Aside0 (w.heap.size ≤ gb387) := ⟨h4_⟩; have GE387 : Aside0 (w.heap.size ≤ gb387) := ⟨h5_⟩; have NB380_387 : Aside0 (gb380 ≠ gb387) := ⟨h6_⟩; have NB387_380 : Aside0 (gb387 ≠ gb380) := ⟨h7_⟩; have NB381_387 : Aside0 (gb381 ≠ gb387) := ⟨h8_⟩; have NB387_381 : Aside0 (gb387 ≠ gb381) := ⟨h9_⟩; have NB382_387 : Aside0 (gb382 ≠ gb387) := ⟨h10_⟩; have NB387_382 : Aside0 (gb387 ≠ gb382) := ⟨h11_⟩; replace BK380 : Aside0 (w13.heap[gb380]? = some (.cells #[.int .i64 a0_0, .int .u64 a0_1] 40 (0, 0))) := ⟨h0_⟩; replace BK381 : Aside0 (w13.heap[gb381]? = some (.cells #[.int .i64 a1_0, .int .u64 a1_1] 40 (0, 0))) := ⟨h1_⟩; replace BK382 : Aside0 (w13.heap[gb382]? = some (.cells #[.int .i64 a2_0, .int .u64 a2_1] 40 (0, 0))) := ⟨h2_⟩; replace HB : Aside0 (Below w.heap.size w w13) := ⟨h12_⟩; clear h0_ h1_ h2_ h3_ h4_ h5_ h6_ h7_ h8_ h9_ h10_ h11_ h12_
           have hHeld : w13.cell? ⟨gb380, 0, none⟩ = some (.int .i64 a0_0) ∧ w13.cell? ⟨gb380, 1, none⟩ = some (.int .u64 a0_1) ∧ w13.cell? ⟨gb381, 0, none⟩ = some (.int .i64 a1_0) ∧ w13.cell? ⟨gb381, 1, none⟩ = some (.int .u64 a1_1) := hS_
           refine norm_ (a' := ?_) ?_ ?_
           rotate_left
           ·simp only [putAll, Act.put, List.setIfInBounds_toArray, List.set_cons_zero, List.set_cons_succ]
            rfl
           refine two_ (i := 2) (j := 7) (Ni := some 11) (Nj := some 8) (bm 10 95) (bm 10 219) rfl rfl rfl rfl (two_of HT_.out (by kernel_rfl)) (by decide) (by decide) (fun K hK => ?_) (fun K hK => ?_)
           ·refine goes_ Tryd.func45 (by kernel_rfl) rfl #[.agg #[.int .i64 a0_0, .int .u64 a0_1], .agg #[.int .i64 a1_0, .int .u64 a1_1]] (by rfl) rfl rfl (by (try simp only [List.map_toArray, List.map_cons, List.map_nil]); first | done | rfl | (simp only [List.length_drop, List.length_take]; rfl)) ?_
            with_reducible refine (label_Join.calls a0_0 a0_1 a1_0 a1_1 t383 t384 _ A8.out).mono ?_
            rintro e w14 ⟨rfl, hb⟩
            refine ⟨_, rfl, ?_⟩
            replace BK380 := bb_ BK380 hb; replace BK381 := bb_ BK381 hb; replace BK382 := bb_ BK382 hb; replace BK387 := bb_ BK387 hb; replace HB := Aside0.mk (below_b hb)
            (try clear hb)
            refine hK.out _ _ ⟨(blk_cell BK380.out 0).trans rfl, (blk_cell BK380.out 1).trans rfl, (blk_cell BK381.out 0).trans rfl, (blk_cell BK381.out 1).trans rfl⟩ (fun hHeld => ?_)
            clear hK K
            refine norm_ (a' := ?_) ?_ ?_
            rotate_left
            ·show Act.put _ (some 11) _ = _
             simp only [Act.put, List.setIfInBounds_toArray, List.set_cons_zero, List.set_cons_succ, i64_w, i32_w]
             rfl
            exact norm_ (by first | (simp only [putAll, Act.put, List.setIfInBounds_toArray, List.set_cons_zero, List.set_cons_succ]; done) | (simp only [putAll, Act.put, List.setIfInBounds_toArray, List.set_cons_zero, List.set_cons_succ]; rfl)) (hJ2_6 (gb387) _ ⟨hHeld, (bd_ BK380), (bd_ BK381), (bd_ BK382), (bd_ BK387), GW387.out, GE387.out, NB380_387.out, NB387_380.out, NB381_387.out, NB387_381.out, NB382_387.out, NB387_382.out, (by repeat (first | (with_reducible first | exact HB.out | apply below_alloc | apply pw_below_drewN | apply below_drew1 | refine below_set ?_ GE380.out | refine below_set ?_ GE381.out | refine below_set ?_ GE382.out | refine below_set ?_ GE387.out) | exact HB.out))⟩)
           ·refine box_step ?hg (N := 8) ?hd (cs := #[.int .i64 0, .int .u64 0]) (t := 40) ?hr ?_; (case hd => rfl); (case hg => rfl); (case hr => first | (go_simp; done) | (go_simp; rfl))
            intro gb388 hg w14 hbox hb
            have BK388 := Aside0.mk (hbox); have GW388 := Aside0.mk ((by rw [hg]; exact (below_size (by repeat (first | (with_reducible first | exact HB.out | apply below_alloc | apply pw_below_drewN | apply below_drew1 | refine below_set ?_ GE380.out | refine below_set ?_ GE381.out | refine below_set ?_ GE382.out | refine below_set ?_ GE387.out) | exact HB.out))) : w.heap.size ≤ gb388)); have GE388 := Aside0.mk ((by rw [hg]; exact (below_size (by repeat (first | (with_reducible first | exact HB.out | apply below_alloc | apply pw_below_drewN | apply below_drew1 | refine below_set ?_ GE380.out | refine below_set ?_ GE381.out | refine below_set ?_ GE382.out | refine below_set ?_ GE387.out) | exact HB.out))) : w.heap.size ≤ gb388)); have NB380_388 := nl_ BK380 hg; have NB388_380 := ng_ BK380 hg; have NB381_388 := nl_ BK381 hg; have NB388_381 := ng_ BK381 hg; have NB382_388 := nl_ BK382 hg; have NB388_382 := ng_ BK382 hg; have NB387_388 := nl_ BK387 hg; have NB388_387 := ng_ BK387 hg; replace BK380 := bb_ BK380 hb; replace BK381 := bb_ BK381 hb; replace BK382 := bb_ BK382 hb; replace BK387 := bb_ BK387 hb; replace HB := Aside0.mk (below_b hb); clear hb hbox hg
            refine hK.out _ _ ⟨(blk_cell BK380.out 0).trans rfl, (blk_cell BK380.out 1).trans rfl, (blk_cell BK381.out 0).trans rfl, (blk_cell BK381.out 1).trans rfl⟩ (fun hHeld => ?_)
            clear hK K
            refine norm_ (a' := ?_) ?_ ?_
            rotate_left
            ·show Act.put _ (some 8) _ = _
             simp only [Act.put, List.setIfInBounds_toArray, List.set_cons_zero, List.set_cons_succ, i64_w, i32_w]
             rfl
            exact norm_ (by first | (simp only [putAll, Act.put, List.setIfInBounds_toArray, List.set_cons_zero, List.set_cons_succ]; done) | (simp only [putAll, Act.put, List.setIfInBounds_toArray, List.set_cons_zero, List.set_cons_succ]; rfl)) (hJ6_7 (gb387, gb388) _ ⟨hHeld, (bd_ BK380), (bd_ BK381), (bd_ BK382), (bd_ BK387), (bd_ BK388), GW387.out, GE387.out, NB380_387.out, NB387_380.out, NB381_387.out, NB387_381.out, NB382_387.out, NB387_382.out, NB388_387.out, NB387_388.out, GW388.out, GE388.out, NB380_388.out, NB388_380.out, NB381_388.out, NB388_381.out, NB382_388.out, NB388_382.out, (by repeat (first | (with_reducible first | exact HB.out | apply below_alloc | apply pw_below_drewN | apply below_drew1 | refine below_set ?_ GE380.out | refine below_set ?_ GE381.out | refine below_set ?_ GE382.out | refine below_set ?_ GE387.out | refine below_set ?_ GE388.out) | exact HB.out))⟩)
         ·rintro _ w13 ⟨hS_, h0_, h1_, h2_, h3_⟩
          replace BK380 : Aside0 (w13.heap[gb380]? = some (.cells #[.int .i64 a0_0, .int .u64 a0_1] 40 (0, 0))) := ⟨h0_⟩; replace BK381 : Aside0 (w13.heap[gb381]? = some (.cells #[.int .i64 a1_0, .int .u64 a1_1] 40 (0, 0))) := ⟨h1_⟩; replace BK382 : Aside0 (w13.heap[gb382]? = some (.cells #[.int .i64 a2_0, .int .u64 a2_1] 40 (0, 0))) := ⟨h2_⟩; replace HB : Aside0 (Below w.heap.size w w13) := ⟨h3_⟩; clear h0_ h1_ h2_ h3_
          have hHeld : w13.cell? ⟨gb380, 0, none⟩ = some (.int .i64 a0_0) ∧ w13.cell? ⟨gb380, 1, none⟩ = some (.int .u64 a0_1) ∧ w13.cell? ⟨gb381, 0, none⟩ = some (.int .i64 a1_0) ∧ w13.cell? ⟨gb381, 1, none⟩ = some (.int .u64 a1_1) := hS_
          refine norm_ (a' := ?_) ?_ ?_
          rotate_left
          ·simp only [putAll, Act.put, List.setIfInBounds_toArray, List.set_cons_zero, List.set_cons_succ]
           rfl
          refine three_ (i := 5) (j := 6) (k := 7) (Ni := some 14) (Nj := some 7) (Nk := some 8) (bm 10 63) (bm 10 95) (bm 10 159) rfl rfl rfl rfl rfl rfl (three_of HT_.out (by kernel_rfl)) (by decide) (by decide) (by decide) (fun K hK => ?_) (fun K hK => ?_) (fun K hK => ?_)
          ·refine goes_ Tryd.func47 (by kernel_rfl) rfl #[.agg #[.int .i64 a0_0, .int .u64 a0_1], .agg #[.int .i64 a1_0, .int .u64 a1_1]] (by rfl) rfl rfl (by (try simp only [List.map_toArray, List.map_cons, List.map_nil]); first | done | rfl | (simp only [List.length_drop, List.length_take]; rfl)) ?_
           with_reducible refine (label_Meet.calls a0_0 a0_1 a1_0 a1_1 t385 t386 _ A9.out).mono ?_
           rintro e w14 ⟨rfl, hb⟩
           refine ⟨_, rfl, ?_⟩
           replace BK380 := bb_ BK380 hb; replace BK381 := bb_ BK381 hb; replace BK382 := bb_ BK382 hb; replace HB := Aside0.mk (below_b hb)
           (try clear hb)
           refine hK.out _ _ ⟨(blk_cell BK380.out 0).trans rfl, (blk_cell BK380.out 1).trans rfl, (blk_cell BK381.out 0).trans rfl, (blk_cell BK381.out 1).trans rfl⟩ (fun hHeld => ?_)
           clear hK K
           refine norm_ (a' := ?_) ?_ ?_
           rotate_left
           ·show Act.put _ (some 14) _ = _
            simp only [Act.put, List.setIfInBounds_toArray, List.set_cons_zero, List.set_cons_succ, i64_w, i32_w]
            rfl
           exact norm_ (by first | (simp only [putAll, Act.put, List.setIfInBounds_toArray, List.set_cons_zero, List.set_cons_succ]; done) | (simp only [putAll, Act.put, List.setIfInBounds_toArray, List.set_cons_zero, List.set_cons_succ]; rfl)) (hJ2_5 () _ ⟨hHeld, (bd_ BK380), (bd_ BK381), (bd_ BK382), (by repeat (first | (with_reducible first | exact HB.out | apply below_alloc | apply pw_below_drewN | apply below_drew1 | refine below_set ?_ GE380.out | refine below_set ?_ GE381.out | refine below_set ?_ GE382.out) | exact HB.out))⟩)
          ·refine box_step ?hg (N := 7) ?hd (cs := #[.int .i64 0, .int .u64 0]) (t := 40) ?hr ?_; (case hd => rfl); (case hg => rfl); (case hr => first | (go_simp; done) | (go_simp; rfl))
           intro gb387 hg w14 hbox hb
           have BK387 := Aside0.mk (hbox); have GW387 := Aside0.mk ((by rw [hg]; exact (below_size (by repeat (first | (with_reducible first | exact HB.out | apply below_alloc | apply pw_below_drewN | apply below_drew1 | refine below_set ?_ GE380.out | refine below_set ?_ GE381.out | refine below_set ?_ GE382.out) | exact HB.out))) : w.heap.size ≤ gb387)); have GE387 := Aside0.mk ((by rw [hg]; exact (below_size (by repeat (first | (with_reducible first | exact HB.out | apply below_alloc | apply pw_below_drewN | apply below_drew1 | refine below_set ?_ GE380.out | refine below_set ?_ GE381.out | refine below_set ?_ GE382.out) | exact HB.out))) : w.heap.size ≤ gb387)); have NB380_387 := nl_ BK380 hg; have NB387_380 := ng_ BK380 hg; have NB381_387 := nl_ BK381 hg; have NB387_381 := ng_ BK381 hg; have NB382_387 := nl_ BK382 hg; have NB387_382 := ng_ BK382 hg; replace BK380 := bb_ BK380 hb; replace BK381 := bb_ BK381 hb; replace BK382 := bb_ BK382 hb; replace HB := Aside0.mk (below_b hb); clear hb hbox hg
           refine hK.out _ _ ⟨(blk_cell BK380.out 0).trans rfl, (blk_cell BK380.out 1).trans rfl, (blk_cell BK381.out 0).trans rfl, (blk_cell BK381.out 1).trans rfl⟩ (fun hHeld => ?_)
           clear hK K
           refine norm_ (a' := ?_) ?_ ?_
           rotate_left
           ·show Act.put _ (some 7) _ = _
            simp only [Act.put, List.setIfInBounds_toArray, List.set_cons_zero, List.set_cons_succ, i64_w, i32_w]
            rfl
           exact norm_ (by first | (simp only [putAll, Act.put, List.setIfInBounds_toArray, List.set_cons_zero, List.set_cons_succ]; done) | (simp only [putAll, Act.put, List.setIfInBounds_toArray, List.set_cons_zero, List.set_cons_succ]; rfl)) (hJ2_6 (gb387) _ ⟨hHeld, (bd_ BK380), (bd_ BK381), (bd_ BK382), (bd_ BK387), GW387.out, GE387.out, NB380_387.out, NB387_380.out, NB381_387.out, NB387_381.out, NB382_387.out, NB387_382.out, (by repeat (first | (with_reducible first | exact HB.out | apply below_alloc | apply pw_below_drewN | apply below_drew1 | refine below_set ?_ GE380.out | refine below_set ?_ GE381.out | refine below_set ?_ GE382.out | refine below_set ?_ GE387.out) | exact HB.out))⟩)
          ·refine box_step ?hg (N := 8) ?hd (cs := #[.int .i64 0, .int .u64 0]) (t := 40) ?hr ?_; (case hd => rfl); (case hg => rfl); (case hr => first | (go_simp; done) | (go_simp; rfl))
           intro gb388 hg w14 hbox hb
           have BK388 := Aside0.mk (hbox); have GW388 := Aside0.mk ((by rw [hg]; exact (below_size (by repeat (first | (with_reducible first | exact HB.out | apply below_alloc | apply pw_below_drewN | apply below_drew1 | refine below_set ?_ GE380.out | refine below_set ?_ GE381.out | refine below_set ?_ GE382.out) | exact HB.out))) : w.heap.size ≤ gb388)); have GE388 := Aside0.mk ((by rw [hg]; exact (below_size (by repeat (first | (with_reducible first | exact HB.out | apply below_alloc | apply pw_below_drewN | apply below_drew1 | refine below_set ?_ GE380.out | refine below_set ?_ GE381.out | refine below_set ?_ GE382.out) | exact HB.out))) : w.heap.size ≤ gb388)); have NB380_388 := nl_ BK380 hg; have NB388_380 := ng_ BK380 hg; have NB381_388 := nl_ BK381 hg; have NB388_381 := ng_ BK381 hg; have NB382_388 := nl_ BK382 hg; have NB388_382 := ng_ BK382 hg; replace BK380 := bb_ BK380 hb; replace BK381 := bb_ BK381 hb; replace BK382 := bb_ BK382 hb; replace HB := Aside0.mk (below_b hb); clear hb hbox hg
           refine hK.out _ _ ⟨(blk_cell BK380.out 0).trans rfl, (blk_cell BK380.out 1).trans rfl, (blk_cell BK381.out 0).trans rfl, (blk_cell BK381.out 1).trans rfl⟩ (fun hHeld => ?_)
           clear hK K
           refine norm_ (a' := ?_) ?_ ?_
           rotate_left
           ·show Act.put _ (some 8) _ = _
            simp only [Act.put, List.setIfInBounds_toArray, List.set_cons_zero, List.set_cons_succ, i64_w, i32_w]
            rfl
           exact norm_ (by first | (simp only [putAll, Act.put, List.setIfInBounds_toArray, List.set_cons_zero, List.set_cons_succ]; done) | (simp only [putAll, Act.put, List.setIfInBounds_toArray, List.set_cons_zero, List.set_cons_succ]; rfl)) (hJ2_7 (gb388) _ ⟨hHeld, (bd_ BK380), (bd_ BK381), (bd_ BK382), (bd_ BK388), GW388.out, GE388.out, NB380_388.out, NB388_380.out, NB381_388.out, NB388_381.out, NB382_388.out, NB388_382.out, (by repeat (first | (with_reducible first | exact HB.out | apply below_alloc | apply pw_below_drewN | apply below_drew1 | refine below_set ?_ GE380.out | refine below_set ?_ GE381.out | refine below_set ?_ GE382.out | refine below_set ?_ GE388.out) | exact HB.out))⟩)
        ·rintro ⟨gb387, gb388⟩ w14 ⟨hS_, h0_, h1_, h2_, h3_, h4_, h5_, h6_, h7_, h8_, h9_, h10_, h11_, h12_, h13_, h14_, h15_, h16_, h17_, h18_, h19_, h20_, h21_, h22_, h23_⟩
         have BK387 : Aside0 (w14.heap[gb387]? = some (.cells #[.int .i64 0, .int .u64 0] 40 (0, 0))) := ⟨h3_⟩; have BK388 : Aside0 (w14.heap[gb388]? = some (.cells #[.int .i64 0, .int .u64 0] 40 (0, 0))) := ⟨h4_⟩; have GW387 : Aside0 (w.heap.size ≤ gb387) := ⟨h5_⟩; have GE387 : Aside0 (w.heap.size ≤ gb387) := ⟨h6_⟩; have NB380_387 : Aside0 (gb380 ≠ gb387) := ⟨h7_⟩; have NB387_380 : Aside0 (gb387 ≠ gb380) := ⟨h8_⟩; have NB381_387 : Aside0 (gb381 ≠ gb387) := ⟨h9_⟩; have NB387_381 : Aside0 (gb387 ≠ gb381) := ⟨h10_⟩; have NB382_387 : Aside0 (gb382 ≠ gb387) := ⟨h11_⟩; have NB387_382 : Aside0 (gb387 ≠ gb382) := ⟨h12_⟩; have NB388_387 : Aside0 (gb388 ≠ gb387) := ⟨h13_⟩; have NB387_388 : Aside0 (gb387 ≠ gb388) := ⟨h14_⟩; have GW388 : Aside0 (w.heap.size ≤ gb388) := ⟨h15_⟩; have GE388 : Aside0 (w.heap.size ≤ gb388) := ⟨h16_⟩; have NB380_388 : Aside0 (gb380 ≠ gb388) := ⟨h17_⟩; have NB388_380 : Aside0 (gb388 ≠ gb380) := ⟨h18_⟩; have NB381_388 : Aside0 (gb381 ≠ gb388) := ⟨h19_⟩; have NB388_381 : Aside0 (gb388 ≠ gb381) := ⟨h20_⟩; have NB382_388 : Aside0 (gb382 ≠ gb388) := ⟨h21_⟩; have NB388_382 : Aside0 (gb388 ≠ gb382) := ⟨h22_⟩; replace BK380 : Aside0 (w14.heap[gb380]? = some (.cells #[.int .i64 a0_0, .int .u64 a0_1] 40 (0, 0))) := ⟨h0_⟩; replace BK381 : Aside0 (w14.heap[gb381]? = some (.cells #[.int .i64 a1_0, .int .u64 a1_1] 40 (0, 0))) := ⟨h1_⟩; replace BK382 : Aside0 (w14.heap[gb382]? = some (.cells #[.int .i64 a2_0, .int .u64 a2_1] 40 (0, 0))) := ⟨h2_⟩; replace HB : Aside0 (Below w.heap.size w w14) := ⟨h23_⟩; clear h0_ h1_ h2_ h3_ h4_ h5_ h6_ h7_ h8_ h9_ h10_ h11_ h12_ h13_ h14_ h15_ h16_ h17_ h18_ h19_ h20_ h21_ h22_ h23_
         have hHeld : w14.cell? ⟨gb380, 0, none⟩ = some (.int .i64 a0_0) ∧ w14.cell? ⟨gb380, 1, none⟩ = some (.int .u64 a0_1) ∧ w14.cell? ⟨gb381, 0, none⟩ = some (.int .i64 a1_0) ∧ w14.cell? ⟨gb381, 1, none⟩ = some (.int .u64 a1_1) := hS_
         refine norm_ (a' := ?_) ?_ ?_
         rotate_left
         ·simp only [putAll, Act.put, List.setIfInBounds_toArray, List.set_cons_zero, List.set_cons_succ]
          rfl
         refine one_ (i := 2) (N := some 11) (bm 10 223) rfl rfl (one_of HT_.out (by kernel_rfl)) (by decide) (fun K hK => ?_)
         refine goes_ Tryd.func45 (by kernel_rfl) rfl #[.agg #[.int .i64 a0_0, .int .u64 a0_1], .agg #[.int .i64 a1_0, .int .u64 a1_1]] (by rfl) rfl rfl (by (try simp only [List.map_toArray, List.map_cons, List.map_nil]); first | done | rfl | (simp only [List.length_drop, List.length_take]; rfl)) ?_
         with_reducible refine (label_Join.calls a0_0 a0_1 a1_0 a1_1 t383 t384 _ A8.out).mono ?_
         rintro e w15 ⟨rfl, hb⟩
         refine ⟨_, rfl, ?_⟩
         replace BK380 := bb_ BK380 hb; replace BK381 := bb_ BK381 hb; replace BK382 := bb_ BK382 hb; replace BK387 := bb_ BK387 hb; replace BK388 := bb_ BK388 hb; replace HB := Aside0.mk (below_b hb)
         (try clear hb)
         refine hK.out _ _ ⟨(blk_cell BK380.out 0).trans rfl, (blk_cell BK380.out 1).trans rfl, (blk_cell BK381.out 0).trans rfl, (blk_cell BK381.out 1).trans rfl⟩ (fun hHeld => ?_)
         clear hK K
         refine norm_ (a' := ?_) ?_ ?_
         rotate_left
         ·show Act.put _ (some 11) _ = _
          simp only [Act.put, List.setIfInBounds_toArray, List.set_cons_zero, List.set_cons_succ, i64_w, i32_w]
          rfl
         exact norm_ (by first | (simp only [putAll, Act.put, List.setIfInBounds_toArray, List.set_cons_zero, List.set_cons_succ]; done) | (simp only [putAll, Act.put, List.setIfInBounds_toArray, List.set_cons_zero, List.set_cons_succ]; rfl)) (hJ2_6_7 (gb387, gb388) _ ⟨hHeld, (bd_ BK380), (bd_ BK381), (bd_ BK382), (bd_ BK387), (bd_ BK388), GW387.out, GE387.out, NB380_387.out, NB387_380.out, NB381_387.out, NB387_381.out, NB382_387.out, NB387_382.out, NB388_387.out, NB387_388.out, GW388.out, GE388.out, NB380_388.out, NB388_380.out, NB381_388.out, NB388_381.out, NB382_388.out, NB388_382.out, (by repeat (first | (with_reducible first | exact HB.out | apply below_alloc | apply pw_below_drewN | apply below_drew1 | refine below_set ?_ GE380.out | refine below_set ?_ GE381.out | refine below_set ?_ GE382.out | refine below_set ?_ GE387.out | refine below_set ?_ GE388.out) | exact HB.out))⟩)
       ·rintro gb388 w14 ⟨hS_, h0_, h1_, h2_, h3_, h4_, h5_, h6_, h7_, h8_, h9_, h10_, h11_, h12_⟩
        have BK388 : Aside0 (w14.heap[gb388]? = some (.cells #[.int .i64 0, .int .u64 0] 40 (0, 0))) := ⟨h3_⟩; have GW388 : Aside0 (w.heap.size ≤ gb388) := ⟨h4_⟩; have GE388 : Aside0 (w.heap.size ≤ gb388) := ⟨h5_⟩; have NB380_388 : Aside0 (gb380 ≠ gb388) := ⟨h6_⟩; have NB388_380 : Aside0 (gb388 ≠ gb380) := ⟨h7_⟩; have NB381_388 : Aside0 (gb381 ≠ gb388) := ⟨h8_⟩; have NB388_381 : Aside0 (gb388 ≠ gb381) := ⟨h9_⟩; have NB382_388 : Aside0 (gb382 ≠ gb388) := ⟨h10_⟩; have NB388_382 : Aside0 (gb388 ≠ gb382) := ⟨h11_⟩; replace BK380 : Aside0 (w14.heap[gb380]? = some (.cells #[.int .i64 a0_0, .int .u64 a0_1] 40 (0, 0))) := ⟨h0_⟩; replace BK381 : Aside0 (w14.heap[gb381]? = some (.cells #[.int .i64 a1_0, .int .u64 a1_1] 40 (0, 0))) := ⟨h1_⟩; replace BK382 : Aside0 (w14.heap[gb382]? = some (.cells #[.int .i64 a2_0, .int .u64 a2_1] 40 (0, 0))) := ⟨h2_⟩; replace HB : Aside0 (Below w.heap.size w w14) := ⟨h12_⟩; clear h0_ h1_ h2_ h3_ h4_ h5_ h6_ h7_ h8_ h9_ h10_ h11_ h12_
        have hHeld : w14.cell? ⟨gb380, 0, none⟩ = some (.int .i64 a0_0) ∧ w14.cell? ⟨gb380, 1, none⟩ = some (.int .u64 a0_1) ∧ w14.cell? ⟨gb381, 0, none⟩ = some (.int .i64 a1_0) ∧ w14.cell? ⟨gb381, 1, none⟩ = some (.int .u64 a1_1) := hS_
        refine norm_ (a' := ?_) ?_ ?_
        rotate_left
        ·simp only [putAll, Act.put, List.setIfInBounds_toArray, List.set_cons_zero, List.set_cons_succ]
         rfl
        refine two_ (i := 5) (j := 6) (Ni := some 14) (Nj := some 7) (bm 10 191) (bm 10 223) rfl rfl rfl rfl (two_of HT_.out (by kernel_rfl)) (by decide) (by decide) (fun K hK => ?_) (fun K hK => ?_)
        ·refine goes_ Tryd.func47 (by kernel_rfl) rfl #[.agg #[.int .i64 a0_0, .int .u64 a0_1], .agg #[.int .i64 a1_0, .int .u64 a1_1]] (by rfl) rfl rfl (by (try simp only [List.map_toArray, List.map_cons, List.map_nil]); first | done | rfl | (simp only [List.length_drop, List.length_take]; rfl)) ?_
         with_reducible refine (label_Meet.calls a0_0 a0_1 a1_0 a1_1 t385 t386 _ A9.out).mono ?_
         rintro e w15 ⟨rfl, hb⟩
         refine ⟨_, rfl, ?_⟩
         replace BK380 := bb_ BK380 hb; replace BK381 := bb_ BK381 hb; replace BK382 := bb_ BK382 hb; replace BK388 := bb_ BK388 hb; replace HB := Aside0.mk (below_b hb)
         (try clear hb)
         refine hK.out _ _ ⟨(blk_cell BK380.out 0).trans rfl, (blk_cell BK380.out 1).trans rfl, (blk_cell BK381.out 0).trans rfl, (blk_cell BK381.out 1).trans rfl⟩ (fun hHeld => ?_)
         clear hK K
         refine norm_ (a' := ?_) ?_ ?_
         rotate_left
         ·show Act.put _ (some 14) _ = _
          simp only [Act.put, List.setIfInBounds_toArray, List.set_cons_zero, List.set_cons_succ, i64_w, i32_w]
          rfl
         exact norm_ (by first | (simp only [putAll, Act.put, List.setIfInBounds_toArray, List.set_cons_zero, List.set_cons_succ]; done) | (simp only [putAll, Act.put, List.setIfInBounds_toArray, List.set_cons_zero, List.set_cons_succ]; rfl)) (hJ2_5_7 (gb388) _ ⟨hHeld, (bd_ BK380), (bd_ BK381), (bd_ BK382), (bd_ BK388), GW388.out, GE388.out, NB380_388.out, NB388_380.out, NB381_388.out, NB388_381.out, NB382_388.out, NB388_382.out, (by repeat (first | (with_reducible first | exact HB.out | apply below_alloc | apply pw_below_drewN | apply below_drew1 | refine below_set ?_ GE380.out | refine below_set ?_ GE381.out | refine below_set ?_ GE382.out | refine below_set ?_ GE388.out) | exact HB.out))⟩)
        ·refine box_step ?hg (N := 7) ?hd (cs := #[.int .i64 0, .int .u64 0]) (t := 40) ?hr ?_; (case hd => rfl); (case hg => rfl); (case hr => first | (go_simp; done) | (go_simp; rfl))
         intro gb387 hg w15 hbox hb
         have BK387 := Aside0.mk (hbox); have GW387 := Aside0.mk ((by rw [hg]; exact (below_size (by repeat (first | (with_reducible first | exact HB.out | apply below_alloc | apply pw_below_drewN | apply below_drew1 | refine below_set ?_ GE380.out | refine below_set ?_ GE381.out | refine below_set ?_ GE382.out | refine below_set ?_ GE388.out) | exact HB.out))) : w.heap.size ≤ gb387)); have GE387 := Aside0.mk ((by rw [hg]; exact (below_size (by repeat (first | (with_reducible first | exact HB.out | apply below_alloc | apply pw_below_drewN | apply below_drew1 | refine below_set ?_ GE380.out | refine below_set ?_ GE381.out | refine below_set ?_ GE382.out | refine below_set ?_ GE388.out) | exact HB.out))) : w.heap.size ≤ gb387)); have NB380_387 := nl_ BK380 hg; have NB387_380 := ng_ BK380 hg; have NB381_387 := nl_ BK381 hg; have NB387_381 := ng_ BK381 hg; have NB382_387 := nl_ BK382 hg; have NB387_382 := ng_ BK382 hg; have NB388_387 := nl_ BK388 hg; have NB387_388 := ng_ BK388 hg; replace BK380 := bb_ BK380 hb; replace BK381 := bb_ BK381 hb; replace BK382 := bb_ BK382 hb; replace BK388 := bb_ BK388 hb; replace HB := Aside0.mk (below_b hb); clear hb hbox hg
         refine hK.out _ _ ⟨(blk_cell BK380.out 0).trans rfl, (blk_cell BK380.out 1).trans rfl, (blk_cell BK381.out 0).trans rfl, (blk_cell BK381.out 1).trans rfl⟩ (fun hHeld => ?_)
         clear hK K
         refine norm_ (a' := ?_) ?_ ?_
         rotate_left
         ·show Act.put _ (some 7) _ = _
          simp only [Act.put, List.setIfInBounds_toArray, List.set_cons_zero, List.set_cons_succ, i64_w, i32_w]
          rfl
         exact norm_ (by first | (simp only [putAll, Act.put, List.setIfInBounds_toArray, List.set_cons_zero, List.set_cons_succ]; done) | (simp only [putAll, Act.put, List.setIfInBounds_toArray, List.set_cons_zero, List.set_cons_succ]; rfl)) (hJ2_6_7 (gb387, gb388) _ ⟨hHeld, (bd_ BK380), (bd_ BK381), (bd_ BK382), (bd_ BK387), (bd_ BK388), GW387.out, GE387.out, NB380_387.out, NB387_380.out, NB381_387.out, NB387_381.out, NB382_387.out, NB387_382.out, NB388_387.out, NB387_388.out, GW388.out, GE388.out, NB380_388.out, NB388_380.out, NB381_388.out, NB388_381.out, NB382_388.out, NB388_382.out, (by repeat (first | (with_reducible first | exact HB.out | apply below_alloc | apply pw_below_drewN | apply below_drew1 | refine below_set ?_ GE380.out | refine below_set ?_ GE381.out | refine below_set ?_ GE382.out | refine below_set ?_ GE388.out | refine below_set ?_ GE387.out) | exact HB.out))⟩)
      ·rintro gb387 w14 ⟨hS_, h0_, h1_, h2_, h3_, h4_, h5_, h6_, h7_, h8_, h9_, h10_, h11_, h12_⟩
       have BK387 : Aside0 (w14.heap[gb387]? = some (.cells #[.int .i64 0, .int .u64 0] 40 (0, 0))) := ⟨h3_⟩; have GW387 : Aside0 (w.heap.size ≤ gb387) := ⟨h4_⟩; have GE387 : Aside0 (w.heap.size ≤ gb387) := ⟨h5_⟩; have NB380_387 : Aside0 (gb380 ≠ gb387) := ⟨h6_⟩; have NB387_380 : Aside0 (gb387 ≠ gb380) := ⟨h7_⟩; have NB381_387 : Aside0 (gb381 ≠ gb387) := ⟨h8_⟩; have NB387_381 : Aside0 (gb387 ≠ gb381) := ⟨h9_⟩; have NB382_387 : Aside0 (gb382 ≠ gb387) := ⟨h10_⟩; have NB387_382 : Aside0 (gb387 ≠ gb382) := ⟨h11_⟩; replace BK380 : Aside0 (w14.heap[gb380]? = some (.cells #[.int .i64 a0_0, .int .u64 a0_1] 40 (0, 0))) := ⟨h0_⟩; replace BK381 : Aside0 (w14.heap[gb381]? = some (.cells #[.int .i64 a1_0, .int .u64 a1_1] 40 (0, 0))) := ⟨h1_⟩; replace BK382 : Aside0 (w14.heap[gb382]? = some (.cells #[.int .i64 a2_0, .int .u64 a2_1] 40 (0, 0))) := ⟨h2_⟩; replace HB : Aside0 (Below w.heap.size w w14) := ⟨h12_⟩; clear h0_ h1_ h2_ h3_ h4_ h5_ h6_ h7_ h8_ h9_ h10_ h11_ h12_
       have hHeld : w14.cell? ⟨gb380, 0, none⟩ = some (.int .i64 a0_0) ∧ w14.cell? ⟨gb380, 1, none⟩ = some (.int .u64 a0_1) ∧ w14.cell? ⟨gb381, 0, none⟩ = some (.int .i64 a1_0) ∧ w14.cell? ⟨gb381, 1, none⟩ = some (.int .u64 a1_1) := hS_
       refine norm_ (a' := ?_) ?_ ?_
       rotate_left
       ·simp only [putAll, Act.put, List.setIfInBounds_toArray, List.set_cons_zero, List.set_cons_succ]
        rfl
       refine two_ (i := 5) (j := 7) (Ni := some 14) (Nj := some 8) (bm 10 127) (bm 10 223) rfl rfl rfl rfl (two_of HT_.out (by kernel_rfl)) (by decide) (by decide) (fun K hK => ?_) (fun K hK => ?_)
       ·refine goes_ Tryd.func47 (by kernel_rfl) rfl #[.agg #[.int .i64 a0_0, .int .u64 a0_1], .agg #[.int .i64 a1_0, .int .u64 a1_1]] (by rfl) rfl rfl (by (try simp only [List.map_toArray, List.map_cons, List.map_nil]); first | done | rfl | (simp only [List.length_drop, List.length_take]; rfl)) ?_
        with_reducible refine (label_Meet.calls a0_0 a0_1 a1_0 a1_1 t385 t386 _ A9.out).mono ?_
        rintro e w15 ⟨rfl, hb⟩
        refine ⟨_, rfl, ?_⟩
        replace BK380 := bb_ BK380 hb; replace BK381 := bb_ BK381 hb; replace BK382 := bb_ BK382 hb; replace BK387 := bb_ BK387 hb; replace HB := Aside0.mk (below_b hb)
        (try clear hb)
        refine hK.out _ _ ⟨(blk_cell BK380.out 0).trans rfl, (blk_cell BK380.out 1).trans rfl, (blk_cell BK381.out 0).trans rfl, (blk_cell BK381.out 1).trans rfl⟩ (fun hHeld => ?_)
        clear hK K
        refine norm_ (a' := ?_) ?_ ?_
        rotate_left
        ·show Act.put _ (some 14) _ = _
         simp only [Act.put, List.setIfInBounds_toArray, List.set_cons_zero, List.set_cons_succ, i64_w, i32_w]
         rfl
        exact norm_ (by first | (simp only [putAll, Act.put, List.setIfInBounds_toArray, List.set_cons_zero, List.set_cons_succ]; done) | (simp only [putAll, Act.put, List.setIfInBounds_toArray, List.set_cons_zero, List.set_cons_succ]; rfl)) (hJ2_5_6 (gb387) _ ⟨hHeld, (bd_ BK380), (bd_ BK381), (bd_ BK382), (bd_ BK387), GW387.out, GE387.out, NB380_387.out, NB387_380.out, NB381_387.out, NB387_381.out, NB382_387.out, NB387_382.out, (by repeat (first | (with_reducible first | exact HB.out | apply below_alloc | apply pw_below_drewN | apply below_drew1 | refine below_set ?_ GE380.out | refine below_set ?_ GE381.out | refine below_set ?_ GE382.out | refine below_set ?_ GE387.out) | exact HB.out))⟩)
       ·refine box_step ?hg (N := 8) ?hd (cs := #[.int .i64 0, .int .u64 0]) (t := 40) ?hr ?_; (case hd => rfl); (case hg => rfl); (case hr => first | (go_simp; done) | (go_simp; rfl))
        intro gb388 hg w15 hbox hb
        have BK388 := Aside0.mk (hbox); have GW388 := Aside0.mk ((by rw [hg]; exact (below_size (by repeat (first | (with_reducible first | exact HB.out | apply below_alloc | apply pw_below_drewN | apply below_drew1 | refine below_set ?_ GE380.out | refine below_set ?_ GE381.out | refine below_set ?_ GE382.out | refine below_set ?_ GE387.out) | exact HB.out))) : w.heap.size ≤ gb388)); have GE388 := Aside0.mk ((by rw [hg]; exact (below_size (by repeat (first | (with_reducible first | exact HB.out | apply below_alloc | apply pw_below_drewN | apply below_drew1 | refine below_set ?_ GE380.out | refine below_set ?_ GE381.out | refine below_set ?_ GE382.out | refine below_set ?_ GE387.out) | exact HB.out))) : w.heap.size ≤ gb388)); have NB380_388 := nl_ BK380 hg; have NB388_380 := ng_ BK380 hg; have NB381_388 := nl_ BK381 hg; have NB388_381 := ng_ BK381 hg; have NB382_388 := nl_ BK382 hg; have NB388_382 := ng_ BK382 hg; have NB387_388 := nl_ BK387 hg; have NB388_387 := ng_ BK387 hg; replace BK380 := bb_ BK380 hb; replace BK381 := bb_ BK381 hb; replace BK382 := bb_ BK382 hb; replace BK387 := bb_ BK387 hb; replace HB := Aside0.mk (below_b hb); clear hb hbox hg
        refine hK.out _ _ ⟨(blk_cell BK380.out 0).trans rfl, (blk_cell BK380.out 1).trans rfl, (blk_cell BK381.out 0).trans rfl, (blk_cell BK381.out 1).trans rfl⟩ (fun hHeld => ?_)
        clear hK K
        refine norm_ (a' := ?_) ?_ ?_
        rotate_left
        ·show Act.put _ (some 8) _ = _
         simp only [Act.put, List.setIfInBounds_toArray, List.set_cons_zero, List.set_cons_succ, i64_w, i32_w]
         rfl
        exact norm_ (by first | (simp only [putAll, Act.put, List.setIfInBounds_toArray, List.set_cons_zero, List.set_cons_succ]; done) | (simp only [putAll, Act.put, List.setIfInBounds_toArray, List.set_cons_zero, List.set_cons_succ]; rfl)) (hJ2_6_7 (gb387, gb388) _ ⟨hHeld, (bd_ BK380), (bd_ BK381), (bd_ BK382), (bd_ BK387), (bd_ BK388), GW387.out, GE387.out, NB380_387.out, NB387_380.out, NB381_387.out, NB387_381.out, NB382_387.out, NB387_382.out, NB388_387.out, NB387_388.out, GW388.out, GE388.out, NB380_388.out, NB388_380.out, NB381_388.out, NB388_381.out, NB382_388.out, NB388_382.out, (by repeat (first | (with_reducible first | exact HB.out | apply below_alloc | apply pw_below_drewN | apply below_drew1 | refine below_set ?_ GE380.out | refine below_set ?_ GE381.out | refine below_set ?_ GE382.out | refine below_set ?_ GE387.out | refine below_set ?_ GE388.out) | exact HB.out))⟩)
     ·rintro _ w14 ⟨hS_, h0_, h1_, h2_, h3_⟩
      replace BK380 : Aside0 (w14.heap[gb380]? = some (.cells #[.int .i64 a0_0, .int .u64 a0_1] 40 (0, 0))) := ⟨h0_⟩; replace BK381 : Aside0 (w14.heap[gb381]? = some (.cells #[.int .i64 a1_0, .int .u64 a1_1] 40 (0, 0))) := ⟨h1_⟩; replace BK382 : Aside0 (w14.heap[gb382]? = some (.cells #[.int .i64 a2_0, .int .u64 a2_1] 40 (0, 0))) := ⟨h2_⟩; replace HB : Aside0 (Below w.heap.size w w14) := ⟨h3_⟩; clear h0_ h1_ h2_ h3_
      have hHeld : w14.cell? ⟨gb380, 0, none⟩ = some (.int .i64 a0_0) ∧ w14.cell? ⟨gb380, 1, none⟩ = some (.int .u64 a0_1) ∧ w14.cell? ⟨gb381, 0, none⟩ = some (.int .i64 a1_0) ∧ w14.cell? ⟨gb381, 1, none⟩ = some (.int .u64 a1_1) := hS_
      refine norm_ (a' := ?_) ?_ ?_
      rotate_left
      ·simp only [putAll, Act.put, List.setIfInBounds_toArray, List.set_cons_zero, List.set_cons_succ]
       rfl
      refine two_ (i := 6) (j := 7) (Ni := some 7) (Nj := some 8) (bm 10 127) (bm 10 191) rfl rfl rfl rfl (two_of HT_.out (by kernel_rfl)) (by decide) (by decide) (fun K hK => ?_) (fun K hK => ?_)
      ·refine box_step ?hg (N := 7) ?hd (cs := #[.int .i64 0, .int .u64 0]) (t := 40) ?hr ?_; (case hd => rfl); (case hg => rfl); (case hr => first | (go_simp; done) | (go_simp; rfl))
       intro gb387 hg w15 hbox hb
       have BK387 := Aside0.mk (hbox); have GW387 := Aside0.mk ((by rw [hg]; exact (below_size (by repeat (first | (with_reducible first | exact HB.out | apply below_alloc | apply pw_below_drewN | apply below_drew1 | refine below_set ?_ GE380.out | refine below_set ?_ GE381.out | refine below_set ?_ GE382.out) | exact HB.out))) : w.heap.size ≤ gb387)); have GE387 := Aside0.mk ((by rw [hg]; exact (below_size (by repeat (first | (with_reducible first | exact HB.out | apply below_alloc | apply pw_below_drewN | apply below_drew1 | refine below_set ?_ GE380.out | refine below_set ?_ GE381.out | refine below_set ?_ GE382.out) | exact HB.out))) : w.heap.size ≤ gb387)); have NB380_387 := nl_ BK380 hg; have NB387_380 := ng_ BK380 hg; have NB381_387 := nl_ BK381 hg; have NB387_381 := ng_ BK381 hg; have NB382_387 := nl_ BK382 hg; have NB387_382 := ng_ BK382 hg; replace BK380 := bb_ BK380 hb; replace BK381 := bb_ BK381 hb; replace BK382 := bb_ BK382 hb; replace HB := Aside0.mk (below_b hb); clear hb hbox hg
       refine hK.out _ _ ⟨(blk_cell BK380.out 0).trans rfl, (blk_cell BK380.out 1).trans rfl, (blk_cell BK381.out 0).trans rfl, (blk_cell BK381.out 1).trans rfl⟩ (fun hHeld => ?_)
       clear hK K
       refine norm_ (a' := ?_) ?_ ?_
       rotate_left
       ·show Act.put _ (some 7) _ = _
        simp only [Act.put, List.setIfInBounds_toArray, List.set_cons_zero, List.set_cons_succ, i64_w, i32_w]
        rfl
       exact norm_ (by first | (simp only [putAll, Act.put, List.setIfInBounds_toArray, List.set_cons_zero, List.set_cons_succ]; done) | (simp only [putAll, Act.put, List.setIfInBounds_toArray, List.set_cons_zero, List.set_cons_succ]; rfl)) (hJ2_5_6 (gb387) _ ⟨hHeld, (bd_ BK380), (bd_ BK381), (bd_ BK382), (bd_ BK387), GW387.out, GE387.out, NB380_387.out, NB387_380.out, NB381_387.out, NB387_381.out, NB382_387.out, NB387_382.out, (by repeat (first | (with_reducible first | exact HB.out | apply below_alloc | apply pw_below_drewN | apply below_drew1 | refine below_set ?_ GE380.out | refine below_set ?_ GE381.out | refine below_set ?_ GE382.out | refine below_set ?_ GE387.out) | exact HB.out))⟩)
      ·refine box_step ?hg (N := 8) ?hd (cs := #[.int .i64 0, .int .u64 0]) (t := 40) ?hr ?_; (case hd => rfl); (case hg => rfl); (case hr => first | (go_simp; done) | (go_simp; rfl))
       intro gb388 hg w15 hbox hb
       have BK388 := Aside0.mk (hbox); have GW388 := Aside0.mk ((by rw [hg]; exact (below_size (by repeat (first | (with_reducible first | exact HB.out | apply below_alloc | apply pw_below_drewN | apply below_drew1 | refine below_set ?_ GE380.out | refine below_set ?_ GE381.out | refine below_set ?_ GE382.out) | exact HB.out))) : w.heap.size ≤ gb388)); have GE388 := Aside0.mk ((by rw [hg]; exact (below_size (by repeat (first | (with_reducible first | exact HB.out | apply below_alloc | apply pw_below_drewN | apply below_drew1 | refine below_set ?_ GE380.out | refine below_set ?_ GE381.out | refine below_set ?_ GE382.out) | exact HB.out))) : w.heap.size ≤ gb388)); have NB380_388 := nl_ BK380 hg; have NB388_380 := ng_ BK380 hg; have NB381_388 := nl_ BK381 hg; have NB388_381 := ng_ BK381 hg; have NB382_388 := nl_ BK382 hg; have NB388_382 := ng_ BK382 hg; replace BK380 := bb_ BK380 hb; replace BK381 := bb_ BK381 hb; replace BK382 := bb_ BK382 hb; replace HB := Aside0.mk (below_b hb); clear hb hbox hg
       refine hK.out _ _ ⟨(blk_cell BK380.out 0).trans rfl, (blk_cell BK380.out 1).trans rfl, (blk_cell BK381.out 0).trans rfl, (blk_cell BK381.out 1).trans rfl⟩ (fun hHeld => ?_)
       clear hK K
       refine norm_ (a' := ?_) ?_ ?_
       rotate_left
       ·show Act.put _ (some 8) _ = _
        simp only [Act.put, List.setIfInBounds_toArray, List.set_cons_zero, List.set_cons_succ, i64_w, i32_w]
        rfl
       exact norm_ (by first | (simp only [putAll, Act.put, List.setIfInBounds_toArray, List.set_cons_zero, List.set_cons_succ]; done) | (simp only [putAll, Act.put, List.setIfInBounds_toArray, List.set_cons_zero, List.set_cons_succ]; rfl)) (hJ2_5_7 (gb388) _ ⟨hHeld, (bd_ BK380), (bd_ BK381), (bd_ BK382), (bd_ BK388), GW388.out, GE388.out, NB380_388.out, NB388_380.out, NB381_388.out, NB388_381.out, NB382_388.out, NB388_382.out, (by repeat (first | (with_reducible first | exact HB.out | apply below_alloc | apply pw_below_drewN | apply below_drew1 | refine below_set ?_ GE380.out | refine below_set ?_ GE381.out | refine below_set ?_ GE382.out | refine below_set ?_ GE388.out) | exact HB.out))⟩)
    ·rintro ⟨gb387, gb388⟩ w15 ⟨hS_, h0_, h1_, h2_, h3_, h4_, h5_, h6_, h7_, h8_, h9_, h10_, h11_, h12_, h13_, h14_, h15_, h16_, h17_, h18_, h19_, h20_, h21_, h22_, h23_⟩
     have BK387 : Aside0 (w15.heap[gb387]? = some (.cells #[.int .i64 0, .int .u64 0] 40 (0, 0))) := ⟨h3_⟩; have BK388 : Aside0 (w15.heap[gb388]? = some (.cells #[.int .i64 0, .int .u64 0] 40 (0, 0))) := ⟨h4_⟩; have GW387 : Aside0 (w.heap.size ≤ gb387) := ⟨h5_⟩; have GE387 : Aside0 (w.heap.size ≤ gb387) := ⟨h6_⟩; have NB380_387 : Aside0 (gb380 ≠ gb387) := ⟨h7_⟩; have NB387_380 : Aside0 (gb387 ≠ gb380) := ⟨h8_⟩; have NB381_387 : Aside0 (gb381 ≠ gb387) := ⟨h9_⟩; have NB387_381 : Aside0 (gb387 ≠ gb381) := ⟨h10_⟩; have NB382_387 : Aside0 (gb382 ≠ gb387) := ⟨h11_⟩; have NB387_382 : Aside0 (gb387 ≠ gb382) := ⟨h12_⟩; have NB388_387 : Aside0 (gb388 ≠ gb387) := ⟨h13_⟩; have NB387_388 : Aside0 (gb387 ≠ gb388) := ⟨h14_⟩; have GW388 : Aside0 (w.heap.size ≤ gb388) := ⟨h15_⟩; have GE388 : Aside0 (w.heap.size ≤ gb388) := ⟨h16_⟩; have NB380_388 : Aside0 (gb380 ≠ gb388) := ⟨h17_⟩; have NB388_380 : Aside0 (gb388 ≠ gb380) := ⟨h18_⟩; have NB381_388 : Aside0 (gb381 ≠ gb388) := ⟨h19_⟩; have NB388_381 : Aside0 (gb388 ≠ gb381) := ⟨h20_⟩; have NB382_388 : Aside0 (gb382 ≠ gb388) := ⟨h21_⟩; have NB388_382 : Aside0 (gb388 ≠ gb382) := ⟨h22_⟩; replace BK380 : Aside0 (w15.heap[gb380]? = some (.cells #[.int .i64 a0_0, .int .u64 a0_1] 40 (0, 0))) := ⟨h0_⟩; replace BK381 : Aside0 (w15.heap[gb381]? = some (.cells #[.int .i64 a1_0, .int .u64 a1_1] 40 (0, 0))) := ⟨h1_⟩; replace BK382 : Aside0 (w15.heap[gb382]? = some (.cells #[.int .i64 a2_0, .int .u64 a2_1] 40 (0, 0))) := ⟨h2_⟩; replace HB : Aside0 (Below w.heap.size w w15) := ⟨h23_⟩; clear h0_ h1_ h2_ h3_ h4_ h5_ h6_ h7_ h8_ h9_ h10_ h11_ h12_ h13_ h14_ h15_ h16_ h17_ h18_ h19_ h20_ h21_ h22_ h23_
     have hHeld : w15.cell? ⟨gb380, 0, none⟩ = some (.int .i64 a0_0) ∧ w15.cell? ⟨gb380, 1, none⟩ = some (.int .u64 a0_1) ∧ w15.cell? ⟨gb381, 0, none⟩ = some (.int .i64 a1_0) ∧ w15.cell? ⟨gb381, 1, none⟩ = some (.int .u64 a1_1) := hS_
     refine norm_ (a' := ?_) ?_ ?_
     rotate_left
     ·simp only [putAll, Act.put, List.setIfInBounds_toArray, List.set_cons_zero, List.set_cons_succ]
      rfl
     refine one_ (i := 5) (N := some 14) (bm 10 255) rfl rfl (one_of HT_.out (by kernel_rfl)) (by decide) (fun K hK => ?_)
     refine goes_ Tryd.func47 (by kernel_rfl) rfl #[.agg #[.int .i64 a0_0, .int .u64 a0_1], .agg #[.int .i64 a1_0, .int .u64 a1_1]] (by rfl) rfl rfl (by (try simp only [List.map_toArray, List.map_cons, List.map_nil]); first | done | rfl | (simp only [List.length_drop, List.length_take]; rfl)) ?_
     with_reducible refine (label_Meet.calls a0_0 a0_1 a1_0 a1_1 t385 t386 _ A9.out).mono ?_
     rintro e w16 ⟨rfl, hb⟩
     refine ⟨_, rfl, ?_⟩
     replace BK380 := bb_ BK380 hb; replace BK381 := bb_ BK381 hb; replace BK382 := bb_ BK382 hb; replace BK387 := bb_ BK387 hb; replace BK388 := bb_ BK388 hb; replace HB := Aside0.mk (below_b hb)
     (try clear hb)
     refine hK.out _ _ ⟨(blk_cell BK380.out 0).trans rfl, (blk_cell BK380.out 1).trans rfl, (blk_cell BK381.out 0).trans rfl, (blk_cell BK381.out 1).trans rfl⟩ (fun hHeld => ?_)
     clear hK K
     refine norm_ (a' := ?_) ?_ ?_
     rotate_left
     ·show Act.put _ (some 14) _ = _
      simp only [Act.put, List.setIfInBounds_toArray, List.set_cons_zero, List.set_cons_succ, i64_w, i32_w]
      rfl
     exact norm_ (by first | (simp only [putAll, Act.put, List.setIfInBounds_toArray, List.set_cons_zero, List.set_cons_succ]; done) | (simp only [putAll, Act.put, List.setIfInBounds_toArray, List.set_cons_zero, List.set_cons_succ]; rfl)) (hJ2_5_6_7 (gb387, gb388) _ ⟨hHeld, (bd_ BK380), (bd_ BK381), (bd_ BK382), (bd_ BK387), (bd_ BK388), GW387.out, GE387.out, NB380_387.out, NB387_380.out, NB381_387.out, NB387_381.out, NB382_387.out, NB387_382.out, NB388_387.out, NB387_388.out, GW388.out, GE388.out, NB380_388.out, NB388_380.out, NB381_388.out, NB388_381.out, NB382_388.out, NB388_382.out, (by repeat (first | (with_reducible first | exact HB.out | apply below_alloc | apply pw_below_drewN | apply below_drew1 | refine below_set ?_ GE380.out | refine below_set ?_ GE381.out | refine below_set ?_ GE382.out | refine below_set ?_ GE387.out | refine below_set ?_ GE388.out) | exact HB.out))⟩)
   ·rintro gb388 w15 ⟨hS_, h0_, h1_, h2_, h3_, h4_, h5_, h6_, h7_, h8_, h9_, h10_, h11_, h12_⟩
    have BK388 : Aside0 (w15.heap[gb388]? = some (.cells #[.int .i64 0, .int .u64 0] 40 (0, 0))) := ⟨h3_⟩; have GW388 : Aside0 (w.heap.size ≤ gb388) := ⟨h4_⟩; have GE388 : Aside0 (w.heap.size ≤ gb388) := ⟨h5_⟩; have NB380_388 : Aside0 (gb380 ≠ gb388) := ⟨h6_⟩; have NB388_380 : Aside0 (gb388 ≠ gb380) := ⟨h7_⟩; have NB381_388 : Aside0 (gb381 ≠ gb388) := ⟨h8_⟩; have NB388_381 : Aside0 (gb388 ≠ gb381) := ⟨h9_⟩; have NB382_388 : Aside0 (gb382 ≠ gb388) := ⟨h10_⟩; have NB388_382 : Aside0 (gb388 ≠ gb382) := ⟨h11_⟩; replace BK380 : Aside0 (w15.heap[gb380]? = some (.cells #[.int .i64 a0_0, .int .u64 a0_1] 40 (0, 0))) := ⟨h0_⟩; replace BK381 : Aside0 (w15.heap[gb381]? = some (.cells #[.int .i64 a1_0, .int .u64 a1_1] 40 (0, 0))) := ⟨h1_⟩; replace BK382 : Aside0 (w15.heap[gb382]? = some (.cells #[.int .i64 a2_0, .int .u64 a2_1] 40 (0, 0))) := ⟨h2_⟩; replace HB : Aside0 (Below w.heap.size w w15) := ⟨h12_⟩; clear h0_ h1_ h2_ h3_ h4_ h5_ h6_ h7_ h8_ h9_ h10_ h11_ h12_
    have hHeld : w15.cell? ⟨gb380, 0, none⟩ = some (.int .i64 a0_0) ∧ w15.cell? ⟨gb380, 1, none⟩ = some (.int .u64 a0_1) ∧ w15.cell? ⟨gb381, 0, none⟩ = some (.int .i64 a1_0) ∧ w15.cell? ⟨gb381, 1, none⟩ = some (.int .u64 a1_1) := hS_
    refine norm_ (a' := ?_) ?_ ?_
    rotate_left
    ·simp only [putAll, Act.put, List.setIfInBounds_toArray, List.set_cons_zero, List.set_cons_succ]
     rfl
    refine one_ (i := 6) (N := some 7) (bm 10 255) rfl rfl (one_of HT_.out (by kernel_rfl)) (by decide) (fun K hK => ?_)
    refine box_step ?hg (N := 7) ?hd (cs := #[.int .i64 0, .int .u64 0]) (t := 40) ?hr ?_; (case hd => rfl); (case hg => rfl); (case hr => first | (go_simp; done) | (go_simp; rfl))
    intro gb387 hg w16 hbox hb
    have BK387 := Aside0.mk (hbox); have GW387 := Aside0.mk ((by rw [hg]; exact (below_size (by repeat (first | (with_reducible first | exact HB.out | apply below_alloc | apply pw_below_drewN | apply below_drew1 | refine below_set ?_ GE380.out | refine below_set ?_ GE381.out | refine below_set ?_ GE382.out | refine below_set ?_ GE388.out) | exact HB.out))) : w.heap.size ≤ gb387)); have GE387 := Aside0.mk ((by rw [hg]; exact (below_size (by repeat (first | (with_reducible first | exact HB.out | apply below_alloc | apply pw_below_drewN | apply below_drew1 | refine below_set ?_ GE380.out | refine below_set ?_ GE381.out | refine below_set ?_ GE382.out | refine below_set ?_ GE388.out) | exact HB.out))) : w.heap.size ≤ gb387)); have NB380_387 := nl_ BK380 hg; have NB387_380 := ng_ BK380 hg; have NB381_387 := nl_ BK381 hg; have NB387_381 := ng_ BK381 hg; have NB382_387 := nl_ BK382 hg; have NB387_382 := ng_ BK382 hg; have NB388_387 := nl_ BK388 hg; have NB387_388 := ng_ BK388 hg; replace BK380 := bb_ BK380 hb; replace BK381 := bb_ BK381 hb; replace BK382 := bb_ BK382 hb; replace BK388 := bb_ BK388 hb; replace HB := Aside0.mk (below_b hb); clear hb hbox hg
    refine hK.out _ _ ⟨(blk_cell BK380.out 0).trans rfl, (blk_cell BK380.out 1).trans rfl, (blk_cell BK381.out 0).trans rfl, (blk_cell BK381.out 1).trans rfl⟩ (fun hHeld => ?_)
    clear hK K
    refine norm_ (a' := ?_) ?_ ?_
    rotate_left
    ·show Act.put _ (some 7) _ = _
     simp only [Act.put, List.setIfInBounds_toArray, List.set_cons_zero, List.set_cons_succ, i64_w, i32_w]
     rfl
    exact norm_ (by first | (simp only [putAll, Act.put, List.setIfInBounds_toArray, List.set_cons_zero, List.set_cons_succ]; done) | (simp only [putAll, Act.put, List.setIfInBounds_toArray, List.set_cons_zero, List.set_cons_succ]; rfl)) (hJ2_5_6_7 (gb387, gb388) _ ⟨hHeld, (bd_ BK380), (bd_ BK381), (bd_ BK382), (bd_ BK387), (bd_ BK388), GW387.out, GE387.out, NB380_387.out, NB387_380.out, NB381_387.out, NB387_381.out, NB382_387.out, NB387_382.out, NB388_387.out, NB387_388.out, GW388.out, GE388.out, NB380_388.out, NB388_380.out, NB381_388.out, NB388_381.out, NB382_388.out, NB388_382.out, (by repeat (first | (with_reducible first | exact HB.out | apply below_alloc | apply pw_below_drewN | apply below_drew1 | refine below_set ?_ GE380.out | refine below_set ?_ GE381.out | refine below_set ?_ GE382.out | refine below_set ?_ GE388.out | refine below_set ?_ GE387.out) | exact HB.out))⟩)
  ·rintro gb387 w15 ⟨hS_, h0_, h1_, h2_, h3_, h4_, h5_, h6_, h7_, h8_, h9_, h10_, h11_, h12_⟩
   have BK387 : Aside0 (w15.heap[gb387]? = some (.cells #[.int .i64 0, .int .u64 0] 40 (0, 0))) := ⟨h3_⟩; have GW387 : Aside0 (w.heap.size ≤ gb387) := ⟨h4_⟩; have GE387 : Aside0 (w.heap.size ≤ gb387) := ⟨h5_⟩; have NB380_387 : Aside0 (gb380 ≠ gb387) := ⟨h6_⟩; have NB387_380 : Aside0 (gb387 ≠ gb380) := ⟨h7_⟩; have NB381_387 : Aside0 (gb381 ≠ gb387) := ⟨h8_⟩; have NB387_381 : Aside0 (gb387 ≠ gb381) := ⟨h9_⟩; have NB382_387 : Aside0 (gb382 ≠ gb387) := ⟨h10_⟩; have NB387_382 : Aside0 (gb387 ≠ gb382) := ⟨h11_⟩; replace BK380 : Aside0 (w15.heap[gb380]? = some (.cells #[.int .i64 a0_0, .int .u64 a0_1] 40 (0, 0))) := ⟨h0_⟩; replace BK381 : Aside0 (w15.heap[gb381]? = some (.cells #[.int .i64 a1_0, .int .u64 a1_1] 40 (0, 0))) := ⟨h1_⟩; replace BK382 : Aside0 (w15.heap[gb382]? = some (.cells #[.int .i64 a2_0, .int .u64 a2_1] 40 (0, 0))) := ⟨h2_⟩; replace HB : Aside0 (Below w.heap.size w w15) := ⟨h12_⟩; clear h0_ h1_ h2_ h3_ h4_ h5_ h6_ h7_ h8_ h9_ h10_ h11_ h12_
   have hHeld : w15.cell? ⟨gb380, 0, none⟩ = some (.int .i64 a0_0) ∧ w15.cell? ⟨gb380, 1, none⟩ = some (.int .u64 a0_1) ∧ w15.cell? ⟨gb381, 0, none⟩ = some (.int .i64 a1_0) ∧ w15.cell? ⟨gb381, 1, none⟩ = some (.int .u64 a1_1) := hS_
   refine norm_ (a' := ?_) ?_ ?_
   rotate_left
   ·simp only [putAll, Act.put, List.setIfInBounds_toArray, List.set_cons_zero, List.set_cons_succ]
    rfl
   refine one_ (i := 7) (N := some 8) (bm 10 255) rfl rfl (one_of HT_.out (by kernel_rfl)) (by decide) (fun K hK => ?_)
   refine box_step ?hg (N := 8) ?hd (cs := #[.int .i64 0, .int .u64 0]) (t := 40) ?hr ?_; (case hd => rfl); (case hg => rfl); (case hr => first | (go_simp; done) | (go_simp; rfl))
   intro gb388 hg w16 hbox hb
   have BK388 := Aside0.mk (hbox); have GW388 := Aside0.mk ((by rw [hg]; exact (below_size (by repeat (first | (with_reducible first | exact HB.out | apply below_alloc | apply pw_below_drewN | apply below_drew1 | refine below_set ?_ GE380.out | refine below_set ?_ GE381.out | refine below_set ?_ GE382.out | refine below_set ?_ GE387.out) | exact HB.out))) : w.heap.size ≤ gb388)); have GE388 := Aside0.mk ((by rw [hg]; exact (below_size (by repeat (first | (with_reducible first | exact HB.out | apply below_alloc | apply pw_below_drewN | apply below_drew1 | refine below_set ?_ GE380.out | refine below_set ?_ GE381.out | refine below_set ?_ GE382.out | refine below_set ?_ GE387.out) | exact HB.out))) : w.heap.size ≤ gb388)); have NB380_388 := nl_ BK380 hg; have NB388_380 := ng_ BK380 hg; have NB381_388 := nl_ BK381 hg; have NB388_381 := ng_ BK381 hg; have NB382_388 := nl_ BK382 hg; have NB388_382 := ng_ BK382 hg; have NB387_388 := nl_ BK387 hg; have NB388_387 := ng_ BK387 hg; replace BK380 := bb_ BK380 hb; replace BK381 := bb_ BK381 hb; replace BK382 := bb_ BK382 hb; replace BK387 := bb_ BK387 hb; replace HB := Aside0.mk (below_b hb); clear hb hbox hg
   refine hK.out _ _ ⟨(blk_cell BK380.out 0).trans rfl, (blk_cell BK380.out 1).trans rfl, (blk_cell BK381.out 0).trans rfl, (blk_cell BK381.out 1).trans rfl⟩ (fun hHeld => ?_)
   clear hK K
   refine norm_ (a' := ?_) ?_ ?_
   rotate_left
   ·show Act.put _ (some 8) _ = _
    simp only [Act.put, List.setIfInBounds_toArray, List.set_cons_zero, List.set_cons_succ, i64_w, i32_w]
    rfl
   exact norm_ (by first | (simp only [putAll, Act.put, List.setIfInBounds_toArray, List.set_cons_zero, List.set_cons_succ]; done) | (simp only [putAll, Act.put, List.setIfInBounds_toArray, List.set_cons_zero, List.set_cons_succ]; rfl)) (hJ2_5_6_7 (gb387, gb388) _ ⟨hHeld, (bd_ BK380), (bd_ BK381), (bd_ BK382), (bd_ BK387), (bd_ BK388), GW387.out, GE387.out, NB380_387.out, NB387_380.out, NB381_387.out, NB387_381.out, NB382_387.out, NB387_382.out, NB388_387.out, NB387_388.out, GW388.out, GE388.out, NB380_388.out, NB388_380.out, NB381_388.out, NB388_381.out, NB382_388.out, NB388_382.out, (by repeat (first | (with_reducible first | exact HB.out | apply below_alloc | apply pw_below_drewN | apply below_drew1 | refine below_set ?_ GE380.out | refine below_set ?_ GE381.out | refine below_set ?_ GE382.out | refine below_set ?_ GE387.out | refine below_set ?_ GE388.out) | exact HB.out))⟩)
 rintro ⟨gb387, gb388⟩ w16 ⟨hS_, h0_, h1_, h2_, h3_, h4_, h5_, h6_, h7_, h8_, h9_, h10_, h11_, h12_, h13_, h14_, h15_, h16_, h17_, h18_, h19_, h20_, h21_, h22_, h23_⟩
 have BK387 : Aside0 (w16.heap[gb387]? = some (.cells #[.int .i64 0, .int .u64 0] 40 (0, 0))) := ⟨h3_⟩; have BK388 : Aside0 (w16.heap[gb388]? = some (.cells #[.int .i64 0, .int .u64 0] 40 (0, 0))) := ⟨h4_⟩; have GW387 : Aside0 (w.heap.size ≤ gb387) := ⟨h5_⟩; have GE387 : Aside0 (w.heap.size ≤ gb387) := ⟨h6_⟩; have NB380_387 : Aside0 (gb380 ≠ gb387) := ⟨h7_⟩; have NB387_380 : Aside0 (gb387 ≠ gb380) := ⟨h8_⟩; have NB381_387 : Aside0 (gb381 ≠ gb387) := ⟨h9_⟩; have NB387_381 : Aside0 (gb387 ≠ gb381) := ⟨h10_⟩; have NB382_387 : Aside0 (gb382 ≠ gb387) := ⟨h11_⟩; have NB387_382 : Aside0 (gb387 ≠ gb382) := ⟨h12_⟩; have NB388_387 : Aside0 (gb388 ≠ gb387) := ⟨h13_⟩; have NB387_388 : Aside0 (gb387 ≠ gb388) := ⟨h14_⟩; have GW388 : Aside0 (w.heap.size ≤ gb388) := ⟨h15_⟩; have GE388 : Aside0 (w.heap.size ≤ gb388) := ⟨h16_⟩; have NB380_388 : Aside0 (gb380 ≠ gb388) := ⟨h17_⟩; have NB388_380 : Aside0 (gb388 ≠ gb380) := ⟨h18_⟩; have NB381_388 : Aside0 (gb381 ≠ gb388) := ⟨h19_⟩; have NB388_381 : Aside0 (gb388 ≠ gb381) := ⟨h20_⟩; have NB382_388 : Aside0 (gb382 ≠ gb388) := ⟨h21_⟩; have NB388_382 : Aside0 (gb388 ≠ gb382) := ⟨h22_⟩; replace BK380 : Aside0 (w16.heap[gb380]? = some (.cells #[.int .i64 a0_0, .int .u64 a0_1] 40 (0, 0))) := ⟨h0_⟩; replace BK381 : Aside0 (w16.heap[gb381]? = some (.cells #[.int .i64 a1_0, .int .u64 a1_1] 40 (0, 0))) := ⟨h1_⟩; replace BK382 : Aside0 (w16.heap[gb382]? = some (.cells #[.int .i64 a2_0, .int .u64 a2_1] 40 (0, 0))) := ⟨h2_⟩; replace HB : Aside0 (Below w.heap.size w w16) := ⟨h23_⟩; clear h0_ h1_ h2_ h3_ h4_ h5_ h6_ h7_ h8_ h9_ h10_ h11_ h12_ h13_ h14_ h15_ h16_ h17_ h18_ h19_ h20_ h21_ h22_ h23_
 have hHeld : w16.cell? ⟨gb380, 0, none⟩ = some (.int .i64 a0_0) ∧ w16.cell? ⟨gb380, 1, none⟩ = some (.int .u64 a0_1) ∧ w16.cell? ⟨gb381, 0, none⟩ = some (.int .i64 a1_0) ∧ w16.cell? ⟨gb381, 1, none⟩ = some (.int .u64 a1_1) := hS_
 refine norm_ (a' := ?_) ?_ ?_
 rotate_left
 ·simp only [putAll, Act.put, List.setIfInBounds_toArray, List.set_cons_zero, List.set_cons_succ]
  rfl
 refine one_ (i := 8) (N := none) (bm 10 511) rfl rfl (one_of HT_.out (by kernel_rfl)) (by decide) (fun K hK => ?_)
 have hs17 : w16.cell? ⟨gb387, 0, none⟩ = some (.int .i64 0) := (blk_cell BK387.out 0).trans rfl
 have hfs17 := blk_frozen BK387.out 0
 have hns17_0 := NB380_387.out
 have hns17_1 := NB381_387.out
 have hns17_2 := NB382_387.out
 have hns17_4 := NB388_387.out
 have hms17_0 := NB387_380.out
 have hms17_1 := NB387_381.out
 have hms17_2 := NB387_382.out
 have hms17_4 := NB387_388.out
 have hs18 : w16.cell? ⟨gb387, 1, none⟩ = some (.int .u64 0) := (blk_cell BK387.out 1).trans rfl
 have hfs18 := blk_frozen BK387.out 1
 have hns18_0 := NB380_387.out
 have hns18_1 := NB381_387.out
 have hns18_2 := NB382_387.out
 have hns18_4 := NB388_387.out
 have hms18_0 := NB387_380.out
 have hms18_1 := NB387_381.out
 have hms18_2 := NB387_382.out
 have hms18_4 := NB387_388.out
 refine skip_ (w1 := ?_) (by rfl) rfl ?_ ?_
 rotate_left
 ·go_simp
  rfl
 refine hK.out _ _ ⟨((cell_far (p := ⟨gb387, _, none⟩) NB380_387.out _).trans (((cell_far (p := ⟨gb387, _, none⟩) NB380_387.out _).trans (hHeld.1)))), ((cell_far (p := ⟨gb387, _, none⟩) NB380_387.out _).trans (((cell_far (p := ⟨gb387, _, none⟩) NB380_387.out _).trans (hHeld.2.1)))), ((cell_far (p := ⟨gb387, _, none⟩) NB381_387.out _).trans (((cell_far (p := ⟨gb387, _, none⟩) NB381_387.out _).trans (hHeld.2.2.1)))), ((cell_far (p := ⟨gb387, _, none⟩) NB381_387.out _).trans (((cell_far (p := ⟨gb387, _, none⟩) NB381_387.out _).trans (hHeld.2.2.2))))⟩ (fun hHeld => ?_)
 clear hK K
 refine one_ (i := 9) (N := none) (bm 10 1023) rfl rfl (one_of HT_.out (by kernel_rfl)) (by decide) (fun K hK => ?_)
 have hs19 : w16.cell? ⟨gb388, 0, none⟩ = some (.int .i64 0) := (blk_cell BK388.out 0).trans rfl
 have hfs19 := blk_frozen BK388.out 0
 have hns19_0 := NB380_388.out
 have hns19_1 := NB381_388.out
 have hns19_2 := NB382_388.out
 have hns19_3 := NB387_388.out
 have hms19_0 := NB388_380.out
 have hms19_1 := NB388_381.out
 have hms19_2 := NB388_382.out
 have hms19_3 := NB388_387.out
 have hs20 : w16.cell? ⟨gb388, 1, none⟩ = some (.int .u64 0) := (blk_cell BK388.out 1).trans rfl
 have hfs20 := blk_frozen BK388.out 1
 have hns20_0 := NB380_388.out
 have hns20_1 := NB381_388.out
 have hns20_2 := NB382_388.out
 have hns20_3 := NB387_388.out
 have hms20_0 := NB388_380.out
 have hms20_1 := NB388_381.out
 have hms20_2 := NB388_382.out
 have hms20_3 := NB388_387.out
 refine skip_ (w1 := ?_) (by rfl) rfl ?_ ?_
 rotate_left
 ·go_simp
  rfl
 refine hK.out _ _ ⟨((cell_far (p := ⟨gb388, _, none⟩) NB380_388.out _).trans (((cell_far (p := ⟨gb388, _, none⟩) NB380_388.out _).trans (hHeld.1)))), ((cell_far (p := ⟨gb388, _, none⟩) NB380_388.out _).trans (((cell_far (p := ⟨gb388, _, none⟩) NB380_388.out _).trans (hHeld.2.1)))), ((cell_far (p := ⟨gb388, _, none⟩) NB381_388.out _).trans (((cell_far (p := ⟨gb388, _, none⟩) NB381_388.out _).trans (hHeld.2.2.1)))), ((cell_far (p := ⟨gb388, _, none⟩) NB381_388.out _).trans (((cell_far (p := ⟨gb388, _, none⟩) NB381_388.out _).trans (hHeld.2.2.2))))⟩ (fun hHeld => ?_)
 clear hK K
 refine done_ (done_of HT_.out (by kernel_rfl)) ?_
 go_upto_region 2 with (fail)
 go_cut [49] (fun v49 wc => ∃ (kq : Nat) (x49_9 : Bool), v49 = .bool x49_9 ∧ Aside0 (jalousielaw02_LabelLattice.j0 kq x49_9 a0_0 a0_1 a1_0 a1_1 a2_0 a2_1 t383 t384 t385 t386 = some r) ∧ Aside0 (kq ≤ k) ∧ Aside0 (wc.heap[gb380]? = some (.cells #[.int .i64 a0_0, .int .u64 a0_1] 40 (0, 0))) ∧ Aside0 (wc.heap[gb381]? = some (.cells #[.int .i64 a1_0, .int .u64 a1_1] 40 (0, 0))) ∧ Aside0 (wc.heap[gb382]? = some (.cells #[.int .i64 a2_0, .int .u64 a2_1] 40 (0, 0))) ∧ Aside0 (wc.heap[gb387]? = some (.cells #[.int .i64 t383, .int .u64 t384] 40 (0, 0))) ∧ Aside0 (wc.heap[gb388]? = some (.cells #[.int .i64 t385, .int .u64 t386] 40 (0, 0))) ∧ Aside0 (Below w.heap.size w wc))
 case first =>
  have H := HC10.out
  clear HC10
  replace H := Option.bind_eq_some_iff.mp H
  obtain ⟨t389, A210, H⟩ := H
  replace H : (if t389 = true then ((label_Below.f a0_0 a0_1 a1_0 a1_1).bind fun t390 => (if t390 = true then ((label_Below.f a1_0 a1_1 a0_0 a0_1).bind fun t391 => (if t391 = true then (if (!(a0_0 == a1_0) || (!(a0_1 == a1_1))) = true then (jalousielaw02_LabelLattice.j0 k true a0_0 a0_1 a1_0 a1_1 a2_0 a2_1 t383 t384 t385 t386) else ((label_Below.f a0_0 a0_1 a1_0 a1_1).bind fun t392 => (if t392 = true then ((label_Below.f a1_0 a1_1 a2_0 a2_1).bind fun t393 => (if t393 = true then ((label_Below.f a0_0 a0_1 a2_0 a2_1).bind fun t394 => (jalousielaw02_LabelLattice.j0 k (!t394) a0_0 a0_1 a1_0 a1_1 a2_0 a2_1 t383 t384 t385 t386)) else (jalousielaw02_LabelLattice.j0 k false a0_0 a0_1 a1_0 a1_1 a2_0 a2_1 t383 t384 t385 t386))) else (jalousielaw02_LabelLattice.j0 k false a0_0 a0_1 a1_0 a1_1 a2_0 a2_1 t383 t384 t385 t386)))) else ((label_Below.f a0_0 a0_1 a1_0 a1_1).bind fun t395 => (if t395 = true then ((label_Below.f a1_0 a1_1 a2_0 a2_1).bind fun t396 => (if t396 = true then ((label_Below.f a0_0 a0_1 a2_0 a2_1).bind fun t397 => (jalousielaw02_LabelLattice.j0 k (!t397) a0_0 a0_1 a1_0 a1_1 a2_0 a2_1 t383 t384 t385 t386)) else (jalousielaw02_LabelLattice.j0 k false a0_0 a0_1 a1_0 a1_1 a2_0 a2_1 t383 t384 t385 t386))) else (jalousielaw02_LabelLattice.j0 k false a0_0 a0_1 a1_0 a1_1 a2_0 a2_1 t383 t384 t385 t386))))) else ((label_Below.f a0_0 a0_1 a1_0 a1_1).bind fun t398 => (if t398 = true then ((label_Below.f a1_0 a1_1 a2_0 a2_1).bind fun t399 => (if t399 = true then ((label_Below.f a0_0 a0_1 a2_0 a2_1).bind fun t400 => (jalousielaw02_LabelLattice.j0 k (!t400) a0_0 a0_1 a1_0 a1_1 a2_0 a2_1 t383 t384 t385 t386)) else (jalousielaw02_LabelLattice.j0 k false a0_0 a0_1 a1_0 a1_1 a2_0 a2_1 t383 t384 t385 t386))) else (jalousielaw02_LabelLattice.j0 k false a0_0 a0_1 a1_0 a1_1 a2_0 a2_1 t383 t384 t385 t386))))) else (jalousielaw02_LabelLattice.j0 k true a0_0 a0_1 a1_0 a1_1 a2_0 a2_1 t383 t384 t385 t386)) = some r := H
  have A21 := Aside0.mk A210
  clear A210
  by_cases c22 : t389 = true
  ·subst c22
   have H1 : ((label_Below.f a0_0 a0_1 a1_0 a1_1).bind fun t390 => (if t390 = true then ((label_Below.f a1_0 a1_1 a0_0 a0_1).bind fun t391 => (if t391 = true then (if (!(a0_0 == a1_0) || (!(a0_1 == a1_1))) = true then (jalousielaw02_LabelLattice.j0 k true a0_0 a0_1 a1_0 a1_1 a2_0 a2_1 t383 t384 t385 t386) else ((label_Below.f a0_0 a0_1 a1_0 a1_1).bind fun t392 => (if t392 = true then ((label_Below.f a1_0 a1_1 a2_0 a2_1).bind fun t393 => (if t393 = true then ((label_Below.f a0_0 a0_1 a2_0 a2_1).bind fun t394 => (jalousielaw02_LabelLattice.j0 k (!t394) a0_0 a0_1 a1_0 a1_1 a2_0 a2_1 t383 t384 t385 t386)) else (jalousielaw02_LabelLattice.j0 k false a0_0 a0_1 a1_0 a1_1 a2_0 a2_1 t383 t384 t385 t386))) else (jalousielaw02_LabelLattice.j0 k false a0_0 a0_1 a1_0 a1_1 a2_0 a2_1 t383 t384 t385 t386)))) else ((label_Below.f a0_0 a0_1 a1_0 a1_1).bind fun t395 => (if t395 = true then ((label_Below.f a1_0 a1_1 a2_0 a2_1).bind fun t396 => (if t396 = true then ((label_Below.f a0_0 a0_1 a2_0 a2_1).bind fun t397 => (jalousielaw02_LabelLattice.j0 k (!t397) a0_0 a0_1 a1_0 a1_1 a2_0 a2_1 t383 t384 t385 t386)) else (jalousielaw02_LabelLattice.j0 k false a0_0 a0_1 a1_0 a1_1 a2_0 a2_1 t383 t384 t385 t386))) else (jalousielaw02_LabelLattice.j0 k false a0_0 a0_1 a1_0 a1_1 a2_0 a2_1 t383 t384 t385 t386))))) else ((label_Below.f a0_0 a0_1 a1_0 a1_1).bind fun t398 => (if t398 = true then ((label_Below.f a1_0 a1_1 a2_0 a2_1).bind fun t399 => (if t399 = true then ((label_Below.f a0_0 a0_1 a2_0 a2_1).bind fun t400 => (jalousielaw02_LabelLattice.j0 k (!t400) a0_0 a0_1 a1_0 a1_1 a2_0 a2_1 t383 t384 t385 t386)) else (jalousielaw02_LabelLattice.j0 k false a0_0 a0_1 a1_0 a1_1 a2_0 a2_1 t383 t384 t385 t386))) else (jalousielaw02_LabelLattice.j0 k false a0_0 a0_1 a1_0 a1_1 a2_0 a2_1 t383 t384 t385 t386))))) = some r := by rw [if_pos rfl] at H; exact H
   clear H; have H := H1; clear H1
   replace H := Option.bind_eq_some_iff.mp H
   obtain ⟨t390, A230, H⟩ := H
   replace H : (if t390 = true then ((label_Below.f a1_0 a1_1 a0_0 a0_1).bind fun t391 => (if t391 = true then (if (!(a0_0 == a1_0) || (!(a0_1 == a1_1))) = true then (jalousielaw02_LabelLattice.j0 k true a0_0 a0_1 a1_0 a1_1 a2_0 a2_1 t383 t384 t385 t386) else ((label_Below.f a0_0 a0_1 a1_0 a1_1).bind fun t392 => (if t392 = true then ((label_Below.f a1_0 a1_1 a2_0 a2_1).bind fun t393 => (if t393 = true then ((label_Below.f a0_0 a0_1 a2_0 a2_1).bind fun t394 => (jalousielaw02_LabelLattice.j0 k (!t394) a0_0 a0_1 a1_0 a1_1 a2_0 a2_1 t383 t384 t385 t386)) else (jalousielaw02_LabelLattice.j0 k false a0_0 a0_1 a1_0 a1_1 a2_0 a2_1 t383 t384 t385 t386))) else (jalousielaw02_LabelLattice.j0 k false a0_0 a0_1 a1_0 a1_1 a2_0 a2_1 t383 t384 t385 t386)))) else ((label_Below.f a0_0 a0_1 a1_0 a1_1).bind fun t395 => (if t395 = true then ((label_Below.f a1_0 a1_1 a2_0 a2_1).bind fun t396 => (if t396 = true then ((label_Below.f a0_0 a0_1 a2_0 a2_1).bind fun t397 => (jalousielaw02_LabelLattice.j0 k (!t397) a0_0 a0_1 a1_0 a1_1 a2_0 a2_1 t383 t384 t385 t386)) else (jalousielaw02_LabelLattice.j0 k false a0_0 a0_1 a1_0 a1_1 a2_0 a2_1 t383 t384 t385 t386))) else (jalousielaw02_LabelLattice.j0 k false a0_0 a0_1 a1_0 a1_1 a2_0 a2_1 t383 t384 t385 t386))))) else ((label_Below.f a0_0 a0_1 a1_0 a1_1).bind fun t398 => (if t398 = true then ((label_Below.f a1_0 a1_1 a2_0 a2_1).bind fun t399 => (if t399 = true then ((label_Below.f a0_0 a0_1 a2_0 a2_1).bind fun t400 => (jalousielaw02_LabelLattice.j0 k (!t400) a0_0 a0_1 a1_0 a1_1 a2_0 a2_1 t383 t384 t385 t386)) else (jalousielaw02_LabelLattice.j0 k false a0_0 a0_1 a1_0 a1_1 a2_0 a2_1 t383 t384 t385 t386))) else (jalousielaw02_LabelLattice.j0 k false a0_0 a0_1 a1_0 a1_1 a2_0 a2_1 t383 t384 t385 t386)))) = some r := H
   have A23 := Aside0.mk A230
   clear A230
   by_cases c24 : t390 = true
   ·subst c24
    have H1 : ((label_Below.f a1_0 a1_1 a0_0 a0_1).bind fun t391 => (if t391 = true then (if (!(a0_0 == a1_0) || (!(a0_1 == a1_1))) = true then (jalousielaw02_LabelLattice.j0 k true a0_0 a0_1 a1_0 a1_1 a2_0 a2_1 t383 t384 t385 t386) else ((label_Below.f a0_0 a0_1 a1_0 a1_1).bind fun t392 => (if t392 = true then ((label_Below.f a1_0 a1_1 a2_0 a2_1).bind fun t393 => (if t393 = true then ((label_Below.f a0_0 a0_1 a2_0 a2_1).bind fun t394 => (jalousielaw02_LabelLattice.j0 k (!t394) a0_0 a0_1 a1_0 a1_1 a2_0 a2_1 t383 t384 t385 t386)) else (jalousielaw02_LabelLattice.j0 k false a0_0 a0_1 a1_0 a1_1 a2_0 a2_1 t383 t384 t385 t386))) else (jalousielaw02_LabelLattice.j0 k false a0_0 a0_1 a1_0 a1_1 a2_0 a2_1 t383 t384 t385 t386)))) else ((label_Below.f a0_0 a0_1 a1_0 a1_1).bind fun t395 => (if t395 = true then ((label_Below.f a1_0 a1_1 a2_0 a2_1).bind fun t396 => (if t396 = true then ((label_Below.f a0_0 a0_1 a2_0 a2_1).bind fun t397 => (jalousielaw02_LabelLattice.j0 k (!t397) a0_0 a0_1 a1_0 a1_1 a2_0 a2_1 t383 t384 t385 t386)) else (jalousielaw02_LabelLattice.j0 k false a0_0 a0_1 a1_0 a1_1 a2_0 a2_1 t383 t384 t385 t386))) else (jalousielaw02_LabelLattice.j0 k false a0_0 a0_1 a1_0 a1_1 a2_0 a2_1 t383 t384 t385 t386))))) = some r := by rw [if_pos rfl] at H; exact H
    clear H; have H := H1; clear H1
    replace H := Option.bind_eq_some_iff.mp H
    obtain ⟨t391, A250, H⟩ := H
    replace H : (if t391 = true then (if (!(a0_0 == a1_0) || (!(a0_1 == a1_1))) = true then (jalousielaw02_LabelLattice.j0 k true a0_0 a0_1 a1_0 a1_1 a2_0 a2_1 t383 t384 t385 t386) else ((label_Below.f a0_0 a0_1 a1_0 a1_1).bind fun t392 => (if t392 = true then ((label_Below.f a1_0 a1_1 a2_0 a2_1).bind fun t393 => (if t393 = true then ((label_Below.f a0_0 a0_1 a2_0 a2_1).bind fun t394 => (jalousielaw02_LabelLattice.j0 k (!t394) a0_0 a0_1 a1_0 a1_1 a2_0 a2_1 t383 t384 t385 t386)) else (jalousielaw02_LabelLattice.j0 k false a0_0 a0_1 a1_0 a1_1 a2_0 a2_1 t383 t384 t385 t386))) else (jalousielaw02_LabelLattice.j0 k false a0_0 a0_1 a1_0 a1_1 a2_0 a2_1 t383 t384 t385 t386)))) else ((label_Below.f a0_0 a0_1 a1_0 a1_1).bind fun t395 => (if t395 = true then ((label_Below.f a1_0 a1_1 a2_0 a2_1).bind fun t396 => (if t396 = true then ((label_Below.f a0_0 a0_1 a2_0 a2_1).bind fun t397 => (jalousielaw02_LabelLattice.j0 k (!t397) a0_0 a0_1 a1_0 a1_1 a2_0 a2_1 t383 t384 t385 t386)) else (jalousielaw02_LabelLattice.j0 k false a0_0 a0_1 a1_0 a1_1 a2_0 a2_1 t383 t384 t385 t386))) else (jalousielaw02_LabelLattice.j0 k false a0_0 a0_1 a1_0 a1_1 a2_0 a2_1 t383 t384 t385 t386)))) = some r := H
    have A25 := Aside0.mk A250
    clear A250
    by_cases c26 : t391 = true
    ·subst c26
     have H1 : (if (!(a0_0 == a1_0) || (!(a0_1 == a1_1))) = true then (jalousielaw02_LabelLattice.j0 k true a0_0 a0_1 a1_0 a1_1 a2_0 a2_1 t383 t384 t385 t386) else ((label_Below.f a0_0 a0_1 a1_0 a1_1).bind fun t392 => (if t392 = true then ((label_Below.f a1_0 a1_1 a2_0 a2_1).bind fun t393 => (if t393 = true then ((label_Below.f a0_0 a0_1 a2_0 a2_1).bind fun t394 => (jalousielaw02_LabelLattice.j0 k (!t394) a0_0 a0_1 a1_0 a1_1 a2_0 a2_1 t383 t384 t385 t386)) else (jalousielaw02_LabelLattice.j0 k false a0_0 a0_1 a1_0 a1_1 a2_0 a2_1 t383 t384 t385 t386))) else (jalousielaw02_LabelLattice.j0 k false a0_0 a0_1 a1_0 a1_1 a2_0 a2_1 t383 t384 t385 t386)))) = some r := by rw [if_pos rfl] at H; exact H
     clear H; have H := H1; clear H1
     by_cases c27 : (!(a0_0 == a1_0) || (!(a0_1 == a1_1))) = true
     ·rw [if_pos c27] at H
      have c27b0 : (!(a0_0 == a1_0) || (!(a0_1 == a1_1))) = true := c27
      clear c27
      (first | rw [c27b0] | (simp only [i64_w, i32_w]; rw [c27b0]) | skip)
      have H9_ := H.trans (congrArg some hr_.out)
      clear H
      exfalso
      repeat' (first | (exact jalousielaw02_LabelLattice.no_j0 H9_) | (exact jalousielaw02_LabelLattice.no_j1 H9_) | (exact jalousielaw02_LabelLattice.no_j2 H9_) | (exact absurd H9_ (by decide)) | (exact absurd rfl (by assumption)) | (obtain ⟨_, _, H9_⟩ := Option.bind_eq_some_iff.mp H9_) | (rw [if_pos rfl] at H9_) | split at H9_ | (unfold jalousielaw02_LabelLattice.j0 at H9_; split at H9_))
     ·rw [if_neg c27] at H
      have c27b0 : (!(a0_0 == a1_0) || (!(a0_1 == a1_1))) = false := by simpa using c27
      clear c27
      (first | rw [c27b0] | (simp only [i64_w, i32_w]; rw [c27b0]) | skip)
      replace H := Option.bind_eq_some_iff.mp H
      obtain ⟨t392, B0_, H⟩ := H
      have h_ := Option.some.inj (A23.out.symm.trans B0_)
      subst h_
      clear B0_
      replace H : (if true = true then ((label_Below.f a1_0 a1_1 a2_0 a2_1).bind fun t393 => (if t393 = true then ((label_Below.f a0_0 a0_1 a2_0 a2_1).bind fun t394 => (jalousielaw02_LabelLattice.j0 k (!t394) a0_0 a0_1 a1_0 a1_1 a2_0 a2_1 t383 t384 t385 t386)) else (jalousielaw02_LabelLattice.j0 k false a0_0 a0_1 a1_0 a1_1 a2_0 a2_1 t383 t384 t385 t386))) else (jalousielaw02_LabelLattice.j0 k false a0_0 a0_1 a1_0 a1_1 a2_0 a2_1 t383 t384 t385 t386)) = some r := H
      have H1 : ((label_Below.f a1_0 a1_1 a2_0 a2_1).bind fun t393 => (if t393 = true then ((label_Below.f a0_0 a0_1 a2_0 a2_1).bind fun t394 => (jalousielaw02_LabelLattice.j0 k (!t394) a0_0 a0_1 a1_0 a1_1 a2_0 a2_1 t383 t384 t385 t386)) else (jalousielaw02_LabelLattice.j0 k false a0_0 a0_1 a1_0 a1_1 a2_0 a2_1 t383 t384 t385 t386))) = some r := by rw [if_pos rfl] at H; exact H
      clear H; have H := H1; clear H1
      replace H := Option.bind_eq_some_iff.mp H
      obtain ⟨t393, A290, H⟩ := H
      replace H : (if t393 = true then ((label_Below.f a0_0 a0_1 a2_0 a2_1).bind fun t394 => (jalousielaw02_LabelLattice.j0 k (!t394) a0_0 a0_1 a1_0 a1_1 a2_0 a2_1 t383 t384 t385 t386)) else (jalousielaw02_LabelLattice.j0 k false a0_0 a0_1 a1_0 a1_1 a2_0 a2_1 t383 t384 t385 t386)) = some r := H
      have A29 := Aside0.mk A290
      clear A290
      by_cases c30 : t393 = true
      ·subst c30
       have H1 : ((label_Below.f a0_0 a0_1 a2_0 a2_1).bind fun t394 => (jalousielaw02_LabelLattice.j0 k (!t394) a0_0 a0_1 a1_0 a1_1 a2_0 a2_1 t383 t384 t385 t386)) = some r := by rw [if_pos rfl] at H; exact H
       clear H; have H := H1; clear H1
       replace H := Option.bind_eq_some_iff.mp H
       obtain ⟨t394, A310, H⟩ := H
       replace H : (jalousielaw02_LabelLattice.j0 k (!t394) a0_0 a0_1 a1_0 a1_1 a2_0 a2_1 t383 t384 t385 t386) = some r := H
       have A31 := Aside0.mk A310
       clear A310
       have H' := Aside0.mk H
       clear H
       have hnb32 := NB380_381.out
       have hnc32 := NB381_380.out
       have hnb33 := NB380_382.out
       have hnc33 := NB382_380.out
       have hnb34 := NB380_387.out
       have hnc34 := NB387_380.out
       have hnb35 := NB380_388.out
       have hnc35 := NB388_380.out
       have hcz36_0 : w16.cell? ⟨gb380, 0, none⟩ = some (.int .i64 a0_0) := (blk_cell BK380.out 0).trans rfl
       have hcz36_1 : w16.cell? ⟨gb380, 1, none⟩ = some (.int .u64 a0_1) := (blk_cell BK380.out 1).trans rfl
       have hfz36_0 := blk_frozen BK380.out 0
       have hfz36_1 := blk_frozen BK380.out 1
       go_wp2_with (first | ((with_reducible refine gate_callee (f := 43) rfl ?_); refine goesL_ (some 17) rfl rfl Tryd.func43 (by kernel_rfl) rfl #[.agg #[.int .i64 a0_0, .int .u64 a0_1], .agg #[.int .i64 a0_0, .int .u64 a0_1]] rfl (by (try simp only [List.map_toArray, List.map_cons, List.map_nil]); first | done | rfl | (simp only [List.length_drop, List.length_take]; rfl)) ?_; (with_reducible refine (label_Below.calls a0_0 a0_1 a0_0 a0_1 true _ A21.out).mono ?_); rintro e w37 ⟨rfl, hb⟩; refine ⟨_, rfl, ?_⟩; replace BK380 := bb_ BK380 hb; replace BK381 := bb_ BK381 hb; replace BK382 := bb_ BK382 hb; replace BK387 := Aside0.mk (blk_below (g := gb387) (o := .cells #[.int .i64 t383, .int .u64 t384] 40 (0, 0)) (by (with_reducible repeat (first | refine blk_drewN ?_ _ | refine blk_drew ?_ | refine blk_alloc ?_ _)); refine blk_far ?_ NB387_388.out _; (with_reducible repeat (first | refine blk_drewN ?_ _ | refine blk_drew ?_ | refine blk_alloc ?_ _)); refine blk_far ?_ NB387_388.out _; (with_reducible repeat (first | refine blk_drewN ?_ _ | refine blk_drew ?_ | refine blk_alloc ?_ _)); refine blk_put (cs := #[.int .i64 t383, .int .u64 0]) ?_ 1 _ rfl; (with_reducible repeat (first | refine blk_drewN ?_ _ | refine blk_drew ?_ | refine blk_alloc ?_ _)); refine blk_put (cs := #[.int .i64 0, .int .u64 0]) ?_ 0 _ rfl; (with_reducible repeat (first | refine blk_drewN ?_ _ | refine blk_drew ?_ | refine blk_alloc ?_ _)); exact BK387.out) hb); replace BK388 := Aside0.mk (blk_below (g := gb388) (o := .cells #[.int .i64 t385, .int .u64 t386] 40 (0, 0)) (by (with_reducible repeat (first | refine blk_drewN ?_ _ | refine blk_drew ?_ | refine blk_alloc ?_ _)); refine blk_put (cs := #[.int .i64 t385, .int .u64 0]) ?_ 1 _ rfl; (with_reducible repeat (first | refine blk_drewN ?_ _ | refine blk_drew ?_ | refine blk_alloc ?_ _)); refine blk_put (cs := #[.int .i64 0, .int .u64 0]) ?_ 0 _ rfl; (with_reducible repeat (first | refine blk_drewN ?_ _ | refine blk_drew ?_ | refine blk_alloc ?_ _)); refine blk_far ?_ NB388_387.out _; (with_reducible repeat (first | refine blk_drewN ?_ _ | refine blk_drew ?_ | refine blk_alloc ?_ _)); refine blk_far ?_ NB388_387.out _; (with_reducible repeat (first | refine blk_drewN ?_ _ | refine blk_drew ?_ | refine blk_alloc ?_ _)); exact BK388.out) hb); replace HB := Aside0.mk (below_b hb); (try clear hb); obtain ⟨hcz38_0, hcz38_1, hfz38_0, hfz38_1⟩ := cf_ BK380; have hnb39 := NB381_382.out; have hnc39 := NB382_381.out; have hnb40 := NB381_387.out; have hnc40 := NB387_381.out; have hnb41 := NB381_388.out; have hnc41 := NB388_381.out; obtain ⟨hcz42_0, hcz42_1, hfz42_0, hfz42_1⟩ := cf_ BK381) | (go_at_call 43; (with_reducible refine (label_Below.calls a0_0 a0_1 a1_0 a1_1 true _ A23.out).mono ?_); rintro e w43 ⟨rfl, hb⟩; replace BK380 := bb_ BK380 hb; replace BK381 := bb_ BK381 hb; replace BK382 := bb_ BK382 hb; replace BK387 := bb_ BK387 hb; replace BK388 := bb_ BK388 hb; replace HB := Aside0.mk (below_b hb); (try clear hb); obtain ⟨hcz44_0, hcz44_1, hfz44_0, hfz44_1⟩ := cf_ BK381; obtain ⟨hcz45_0, hcz45_1, hfz45_0, hfz45_1⟩ := cf_ BK380; have hnb51 := NB382_387.out; have hnc51 := NB387_382.out; have hnb52 := NB382_388.out; have hnc52 := NB388_382.out; obtain ⟨hcz53_0, hcz53_1, hfz53_0, hfz53_1⟩ := cf_ BK382) | (go_at_call 43; (with_reducible refine (label_Below.calls a1_0 a1_1 a0_0 a0_1 true _ A25.out).mono ?_); rintro e w46 ⟨rfl, hb⟩; replace BK380 := bb_ BK380 hb; replace BK381 := bb_ BK381 hb; replace BK382 := bb_ BK382 hb; replace BK387 := bb_ BK387 hb; replace BK388 := bb_ BK388 hb; replace HB := Aside0.mk (below_b hb); (try clear hb); obtain ⟨hcz47_0, hcz47_1, hfz47_0, hfz47_1⟩ := cf_ BK380; obtain ⟨hcz48_0, hcz48_1, hfz48_0, hfz48_1⟩ := cf_ BK381) | (go_at_call 43; (with_reducible refine (label_Below.calls a1_0 a1_1 a2_0 a2_1 true _ A29.out).mono ?_); rintro e w54 ⟨rfl, hb⟩; replace BK380 := bb_ BK380 hb; replace BK381 := bb_ BK381 hb; replace BK382 := bb_ BK382 hb; replace BK387 := bb_ BK387 hb; replace BK388 := bb_ BK388 hb; replace HB := Aside0.mk (below_b hb); (try clear hb); obtain ⟨hcz55_0, hcz55_1, hfz55_0, hfz55_1⟩ := cf_ BK380; obtain ⟨hcz56_0, hcz56_1, hfz56_0, hfz56_1⟩ := cf_ BK382) | (go_at_call 43; (with_reducible refine (label_Below.calls a0_0 a0_1 a2_0 a2_1 t394 _ A31.out).mono ?_); rintro e w57 ⟨rfl, hb⟩; replace BK380 := bb_ BK380 hb; replace BK381 := bb_ BK381 hb; replace BK382 := bb_ BK382 hb; replace BK387 := bb_ BK387 hb; replace BK388 := bb_ BK388 hb; replace HB := Aside0.mk (below_b hb); (try clear hb)))
       go_meet
       case rel => exact ⟨_, (!t394), (by first | rfl | (simp; done) | (simp [*]; done)), H', ⟨by first | omega | exact Nat.le_refl _⟩, ⟨bd_ BK380⟩, ⟨bd_ BK381⟩, ⟨bd_ BK382⟩, ⟨bd_ BK387⟩, ⟨bd_ BK388⟩, ⟨by repeat (first | (with_reducible first | exact HB.out | apply below_alloc | apply pw_below_drewN | apply below_drew1 | refine below_set ?_ GE380.out | refine below_set ?_ GE381.out | refine below_set ?_ GE382.out | refine below_set ?_ GE387.out | refine below_set ?_ GE388.out) | exact HB.out)⟩⟩
      ·replace c30 := Bool.eq_false_iff.mpr c30
       subst c30
       have H1 : (jalousielaw02_LabelLattice.j0 k false a0_0 a0_1 a1_0 a1_1 a2_0 a2_1 t383 t384 t385 t386) = some r := by rw [if_neg (show ¬ (false = true) by decide)] at H; exact H
       clear H; have H := H1; clear H1
       have H' := Aside0.mk H
       clear H
       have hnb58 := NB380_381.out
       have hnc58 := NB381_380.out
       have hnb59 := NB380_382.out
       have hnc59 := NB382_380.out
       have hnb60 := NB380_387.out
       have hnc60 := NB387_380.out
       have hnb61 := NB380_388.out
       have hnc61 := NB388_380.out
       have hcz62_0 : w16.cell? ⟨gb380, 0, none⟩ = some (.int .i64 a0_0) := (blk_cell BK380.out 0).trans rfl
       have hcz62_1 : w16.cell? ⟨gb380, 1, none⟩ = some (.int .u64 a0_1) := (blk_cell BK380.out 1).trans rfl
       have hfz62_0 := blk_frozen BK380.out 0
       have hfz62_1 := blk_frozen BK380.out 1
       go_wp2_with (first | ((with_reducible refine gate_callee (f := 43) rfl ?_); refine goesL_ (some 17) rfl rfl Tryd.func43 (by kernel_rfl) rfl #[.agg #[.int .i64 a0_0, .int .u64 a0_1], .agg #[.int .i64 a0_0, .int .u64 a0_1]] rfl (by (try simp only [List.map_toArray, List.map_cons, List.map_nil]); first | done | rfl | (simp only [List.length_drop, List.length_take]; rfl)) ?_; (with_reducible refine (label_Below.calls a0_0 a0_1 a0_0 a0_1 true _ A21.out).mono ?_); rintro e w63 ⟨rfl, hb⟩; refine ⟨_, rfl, ?_⟩; replace BK380 := bb_ BK380 hb; replace BK381 := bb_ BK381 hb; replace BK382 := bb_ BK382 hb; replace BK387 := Aside0.mk (blk_below (g := gb387) (o := .cells #[.int .i64 t383, .int .u64 t384] 40 (0, 0)) (by (with_reducible repeat (first | refine blk_drewN ?_ _ | refine blk_drew ?_ | refine blk_alloc ?_ _)); refine blk_far ?_ NB387_388.out _; (with_reducible repeat (first | refine blk_drewN ?_ _ | refine blk_drew ?_ | refine blk_alloc ?_ _)); refine blk_far ?_ NB387_388.out _; (with_reducible repeat (first | refine blk_drewN ?_ _ | refine blk_drew ?_ | refine blk_alloc ?_ _)); refine blk_put (cs := #[.int .i64 t383, .int .u64 0]) ?_ 1 _ rfl; (with_reducible repeat (first | refine blk_drewN ?_ _ | refine blk_drew ?_ | refine blk_alloc ?_ _)); refine blk_put (cs := #[.int .i64 0, .int .u64 0]) ?_ 0 _ rfl; (with_reducible repeat (first | refine blk_drewN ?_ _ | refine blk_drew ?_ | refine blk_alloc ?_ _)); exact BK387.out) hb); replace BK388 := Aside0.mk (blk_below (g := gb388) (o := .cells #[.int .i64 t385, .int .u64 t386] 40 (0, 0)) (by (with_reducible repeat (first | refine blk_drewN ?_ _ | refine blk_drew ?_ | refine blk_alloc ?_ _)); refine blk_put (cs := #[.int .i64 t385, .int .u64 0]) ?_ 1 _ rfl; (with_reducible repeat (first | refine blk_drewN ?_ _ | refine blk_drew ?_ | refine blk_alloc ?_ _)); refine blk_put (cs := #[.int .i64 0, .int .u64 0]) ?_ 0 _ rfl; (with_reducible repeat (first | refine blk_drewN ?_ _ | refine blk_drew ?_ | refine blk_alloc ?_ _)); refine blk_far ?_ NB388_387.out _; (with_reducible repeat (first | refine blk_drewN ?_ _ | refine blk_drew ?_ | refine blk_alloc ?_ _)); refine blk_far ?_ NB388_387.out _; (with_reducible repeat (first | refine blk_drewN ?_ _ | refine blk_drew ?_ | refine blk_alloc ?_ _)); exact BK388.out) hb); replace HB := Aside0.mk (below_b hb); (try clear hb); obtain ⟨hcz64_0, hcz64_1, hfz64_0, hfz64_1⟩ := cf_ BK380; have hnb65 := NB381_382.out; have hnc65 := NB382_381.out; have hnb66 := NB381_387.out; have hnc66 := NB387_381.out; have hnb67 := NB381_388.out; have hnc67 := NB388_381.out; obtain ⟨hcz68_0, hcz68_1, hfz68_0, hfz68_1⟩ := cf_ BK381) | (go_at_call 43; (with_reducible refine (label_Below.calls a0_0 a0_1 a1_0 a1_1 true _ A23.out).mono ?_); rintro e w69 ⟨rfl, hb⟩; replace BK380 := bb_ BK380 hb; replace BK381 := bb_ BK381 hb; replace BK382 := bb_ BK382 hb; replace BK387 := bb_ BK387 hb; replace BK388 := bb_ BK388 hb; replace HB := Aside0.mk (below_b hb); (try clear hb); obtain ⟨hcz70_0, hcz70_1, hfz70_0, hfz70_1⟩ := cf_ BK381; obtain ⟨hcz71_0, hcz71_1, hfz71_0, hfz71_1⟩ := cf_ BK380; have hnb77 := NB382_387.out; have hnc77 := NB387_382.out; have hnb78 := NB382_388.out; have hnc78 := NB388_382.out; obtain ⟨hcz79_0, hcz79_1, hfz79_0, hfz79_1⟩ := cf_ BK382) | (go_at_call 43; (with_reducible refine (label_Below.calls a1_0 a1_1 a0_0 a0_1 true _ A25.out).mono ?_); rintro e w72 ⟨rfl, hb⟩; replace BK380 := bb_ BK380 hb; replace BK381 := bb_ BK381 hb; replace BK382 := bb_ BK382 hb; replace BK387 := bb_ BK387 hb; replace BK388 := bb_ BK388 hb; replace HB := Aside0.mk (below_b hb); (try clear hb); obtain ⟨hcz73_0, hcz73_1, hfz73_0, hfz73_1⟩ := cf_ BK380; obtain ⟨hcz74_0, hcz74_1, hfz74_0, hfz74_1⟩ := cf_ BK381) | (go_at_call 43; (with_reducible refine (label_Below.calls a1_0 a1_1 a2_0 a2_1 false _ A29.out).mono ?_); rintro e w80 ⟨rfl, hb⟩; replace BK380 := bb_ BK380 hb; replace BK381 := bb_ BK381 hb; replace BK382 := bb_ BK382 hb; replace BK387 := bb_ BK387 hb; replace BK388 := bb_ BK388 hb; replace HB := Aside0.mk (below_b hb); (try clear hb)))
       go_meet
       case rel => exact ⟨_, (false), (by first | rfl | (simp; done) | (simp [*]; done)), H', ⟨by first | omega | exact Nat.le_refl _⟩, ⟨bd_ BK380⟩, ⟨bd_ BK381⟩, ⟨bd_ BK382⟩, ⟨bd_ BK387⟩, ⟨bd_ BK388⟩, ⟨by repeat (first | (with_reducible first | exact HB.out | apply below_alloc | apply pw_below_drewN | apply below_drew1 | refine below_set ?_ GE380.out | refine below_set ?_ GE381.out | refine below_set ?_ GE382.out | refine below_set ?_ GE387.out | refine below_set ?_ GE388.out) | exact HB.out)⟩⟩
    ·replace c26 := Bool.eq_false_iff.mpr c26
     subst c26
     have H1 : ((label_Below.f a0_0 a0_1 a1_0 a1_1).bind fun t395 => (if t395 = true then ((label_Below.f a1_0 a1_1 a2_0 a2_1).bind fun t396 => (if t396 = true then ((label_Below.f a0_0 a0_1 a2_0 a2_1).bind fun t397 => (jalousielaw02_LabelLattice.j0 k (!t397) a0_0 a0_1 a1_0 a1_1 a2_0 a2_1 t383 t384 t385 t386)) else (jalousielaw02_LabelLattice.j0 k false a0_0 a0_1 a1_0 a1_1 a2_0 a2_1 t383 t384 t385 t386))) else (jalousielaw02_LabelLattice.j0 k false a0_0 a0_1 a1_0 a1_1 a2_0 a2_1 t383 t384 t385 t386))) = some r := by rw [if_neg (show ¬ (false = true) by decide)] at H; exact H
     clear H; have H := H1; clear H1
     replace H := Option.bind_eq_some_iff.mp H
     obtain ⟨t395, B0_, H⟩ := H
     have h_ := Option.some.inj (A23.out.symm.trans B0_)
     subst h_
     clear B0_
     replace H : (if true = true then ((label_Below.f a1_0 a1_1 a2_0 a2_1).bind fun t396 => (if t396 = true then ((label_Below.f a0_0 a0_1 a2_0 a2_1).bind fun t397 => (jalousielaw02_LabelLattice.j0 k (!t397) a0_0 a0_1 a1_0 a1_1 a2_0 a2_1 t383 t384 t385 t386)) else (jalousielaw02_LabelLattice.j0 k false a0_0 a0_1 a1_0 a1_1 a2_0 a2_1 t383 t384 t385 t386))) else (jalousielaw02_LabelLattice.j0 k false a0_0 a0_1 a1_0 a1_1 a2_0 a2_1 t383 t384 t385 t386)) = some r := H
     have H1 : ((label_Below.f a1_0 a1_1 a2_0 a2_1).bind fun t396 => (if t396 = true then ((label_Below.f a0_0 a0_1 a2_0 a2_1).bind fun t397 => (jalousielaw02_LabelLattice.j0 k (!t397) a0_0 a0_1 a1_0 a1_1 a2_0 a2_1 t383 t384 t385 t386)) else (jalousielaw02_LabelLattice.j0 k false a0_0 a0_1 a1_0 a1_1 a2_0 a2_1 t383 t384 t385 t386))) = some r := by rw [if_pos rfl] at H; exact H
     clear H; have H := H1; clear H1
     replace H := Option.bind_eq_some_iff.mp H
     obtain ⟨t396, A1000, H⟩ := H
     replace H : (if t396 = true then ((label_Below.f a0_0 a0_1 a2_0 a2_1).bind fun t397 => (jalousielaw02_LabelLattice.j0 k (!t397) a0_0 a0_1 a1_0 a1_1 a2_0 a2_1 t383 t384 t385 t386)) else (jalousielaw02_LabelLattice.j0 k false a0_0 a0_1 a1_0 a1_1 a2_0 a2_1 t383 t384 t385 t386)) = some r := H
     have A100 := Aside0.mk A1000
     clear A1000
     by_cases c101 : t396 = true
     ·subst c101
      have H1 : ((label_Below.f a0_0 a0_1 a2_0 a2_1).bind fun t397 => (jalousielaw02_LabelLattice.j0 k (!t397) a0_0 a0_1 a1_0 a1_1 a2_0 a2_1 t383 t384 t385 t386)) = some r := by rw [if_pos rfl] at H; exact H
      clear H; have H := H1; clear H1
      replace H := Option.bind_eq_some_iff.mp H
      obtain ⟨t397, A1020, H⟩ := H
      replace H : (jalousielaw02_LabelLattice.j0 k (!t397) a0_0 a0_1 a1_0 a1_1 a2_0 a2_1 t383 t384 t385 t386) = some r := H
      have A102 := Aside0.mk A1020
      clear A1020
      have H' := Aside0.mk H
      clear H
      have hnb103 := NB380_381.out
      have hnc103 := NB381_380.out
      have hnb104 := NB380_382.out
      have hnc104 := NB382_380.out
      have hnb105 := NB380_387.out
      have hnc105 := NB387_380.out
      have hnb106 := NB380_388.out
      have hnc106 := NB388_380.out
      have hcz107_0 : w16.cell? ⟨gb380, 0, none⟩ = some (.int .i64 a0_0) := (blk_cell BK380.out 0).trans rfl
      have hcz107_1 : w16.cell? ⟨gb380, 1, none⟩ = some (.int .u64 a0_1) := (blk_cell BK380.out 1).trans rfl
      have hfz107_0 := blk_frozen BK380.out 0
      have hfz107_1 := blk_frozen BK380.out 1
      go_wp2_with (first | ((with_reducible refine gate_callee (f := 43) rfl ?_); refine goesL_ (some 17) rfl rfl Tryd.func43 (by kernel_rfl) rfl #[.agg #[.int .i64 a0_0, .int .u64 a0_1], .agg #[.int .i64 a0_0, .int .u64 a0_1]] rfl (by (try simp only [List.map_toArray, List.map_cons, List.map_nil]); first | done | rfl | (simp only [List.length_drop, List.length_take]; rfl)) ?_; (with_reducible refine (label_Below.calls a0_0 a0_1 a0_0 a0_1 true _ A21.out).mono ?_); rintro e w108 ⟨rfl, hb⟩; refine ⟨_, rfl, ?_⟩; replace BK380 := bb_ BK380 hb; replace BK381 := bb_ BK381 hb; replace BK382 := bb_ BK382 hb; replace BK387 := Aside0.mk (blk_below (g := gb387) (o := .cells #[.int .i64 t383, .int .u64 t384] 40 (0, 0)) (by (with_reducible repeat (first | refine blk_drewN ?_ _ | refine blk_drew ?_ | refine blk_alloc ?_ _)); refine blk_far ?_ NB387_388.out _; (with_reducible repeat (first | refine blk_drewN ?_ _ | refine blk_drew ?_ | refine blk_alloc ?_ _)); refine blk_far ?_ NB387_388.out _; (with_reducible repeat (first | refine blk_drewN ?_ _ | refine blk_drew ?_ | refine blk_alloc ?_ _)); refine blk_put (cs := #[.int .i64 t383, .int .u64 0]) ?_ 1 _ rfl; (with_reducible repeat (first | refine blk_drewN ?_ _ | refine blk_drew ?_ | refine blk_alloc ?_ _)); refine blk_put (cs := #[.int .i64 0, .int .u64 0]) ?_ 0 _ rfl; (with_reducible repeat (first | refine blk_drewN ?_ _ | refine blk_drew ?_ | refine blk_alloc ?_ _)); exact BK387.out) hb); replace BK388 := Aside0.mk (blk_below (g := gb388) (o := .cells #[.int .i64 t385, .int .u64 t386] 40 (0, 0)) (by (with_reducible repeat (first | refine blk_drewN ?_ _ | refine blk_drew ?_ | refine blk_alloc ?_ _)); refine blk_put (cs := #[.int .i64 t385, .int .u64 0]) ?_ 1 _ rfl; (with_reducible repeat (first | refine blk_drewN ?_ _ | refine blk_drew ?_ | refine blk_alloc ?_ _)); refine blk_put (cs := #[.int .i64 0, .int .u64 0]) ?_ 0 _ rfl; (with_reducible repeat (first | refine blk_drewN ?_ _ | refine blk_drew ?_ | refine blk_alloc ?_ _)); refine blk_far ?_ NB388_387.out _; (with_reducible repeat (first | refine blk_drewN ?_ _ | refine blk_drew ?_ | refine blk_alloc ?_ _)); refine blk_far ?_ NB388_387.out _; (with_reducible repeat (first | refine blk_drewN ?_ _ | refine blk_drew ?_ | refine blk_alloc ?_ _)); exact BK388.out) hb); replace HB := Aside0.mk (below_b hb); (try clear hb); obtain ⟨hcz109_0, hcz109_1, hfz109_0, hfz109_1⟩ := cf_ BK380; have hnb110 := NB381_382.out; have hnc110 := NB382_381.out; have hnb111 := NB381_387.out; have hnc111 := NB387_381.out; have hnb112 := NB381_388.out; have hnc112 := NB388_381.out; obtain ⟨hcz113_0, hcz113_1, hfz113_0, hfz113_1⟩ := cf_ BK381) | (go_at_call 43; (with_reducible refine (label_Below.calls a0_0 a0_1 a1_0 a1_1 true _ A23.out).mono ?_); rintro e w114 ⟨rfl, hb⟩; replace BK380 := bb_ BK380 hb; replace BK381 := bb_ BK381 hb; replace BK382 := bb_ BK382 hb; replace BK387 := bb_ BK387 hb; replace BK388 := bb_ BK388 hb; replace HB := Aside0.mk (below_b hb); (try clear hb); obtain ⟨hcz115_0, hcz115_1, hfz115_0, hfz115_1⟩ := cf_ BK381; obtain ⟨hcz116_0, hcz116_1, hfz116_0, hfz116_1⟩ := cf_ BK380; have hnb122 := NB382_387.out; have hnc122 := NB387_382.out; have hnb123 := NB382_388.out; have hnc123 := NB388_382.out; obtain ⟨hcz124_0, hcz124_1, hfz124_0, hfz124_1⟩ := cf_ BK382) | (go_at_call 43; (with_reducible refine (label_Below.calls a1_0 a1_1 a0_0 a0_1 false _ A25.out).mono ?_); rintro e w117 ⟨rfl, hb⟩; replace BK380 := bb_ BK380 hb; replace BK381 := bb_ BK381 hb; replace BK382 := bb_ BK382 hb; replace BK387 := bb_ BK387 hb; replace BK388 := bb_ BK388 hb; replace HB := Aside0.mk (below_b hb); (try clear hb); obtain ⟨hcz118_0, hcz118_1, hfz118_0, hfz118_1⟩ := cf_ BK380; obtain ⟨hcz119_0, hcz119_1, hfz119_0, hfz119_1⟩ := cf_ BK381) | (go_at_call 43; (with_reducible refine (label_Below.calls a1_0 a1_1 a2_0 a2_1 true _ A100.out).mono ?_); rintro e w125 ⟨rfl, hb⟩; replace BK380 := bb_ BK380 hb; replace BK381 := bb_ BK381 hb; replace BK382 := bb_ BK382 hb; replace BK387 := bb_ BK387 hb; replace BK388 := bb_ BK388 hb; replace HB := Aside0.mk (below_b hb); (try clear hb); obtain ⟨hcz126_0, hcz126_1, hfz126_0, hfz126_1⟩ := cf_ BK380; obtain ⟨hcz127_0, hcz127_1, hfz127_0, hfz127_1⟩ := cf_ BK382) | (go_at_call 43; (with_reducible refine (label_Below.calls a0_0 a0_1 a2_0 a2_1 t397 _ A102.out).mono ?_); rintro e w128 ⟨rfl, hb⟩; replace BK380 := bb_ BK380 hb; replace BK381 := bb_ BK381 hb; replace BK382 := bb_ BK382 hb; replace BK387 := bb_ BK387 hb; replace BK388 := bb_ BK388 hb; replace HB := Aside0.mk (below_b hb); (try clear hb)))
      go_meet
      case rel => exact ⟨_, (!t397), (by first | rfl | (simp; done) | (simp [*]; done)), H', ⟨by first | omega | exact Nat.le_refl _⟩, ⟨bd_ BK380⟩, ⟨bd_ BK381⟩, ⟨bd_ BK382⟩, ⟨bd_ BK387⟩, ⟨bd_ BK388⟩, ⟨by repeat (first | (with_reducible first | exact HB.out | apply below_alloc | apply pw_below_drewN | apply below_drew1 | refine below_set ?_ GE380.out | refine below_set ?_ GE381.out | refine below_set ?_ GE382.out | refine below_set ?_ GE387.out | refine below_set ?_ GE388.out) | exact HB.out)⟩⟩
     ·replace c101 := Bool.eq_false_iff.mpr c101
      subst c101
      have H1 : (jalousielaw02_LabelLattice.j0 k false a0_0 a0_1 a1_0 a1_1 a2_0 a2_1 t383 t384 t385 t386) = some r := by rw [if_neg (show ¬ (false = true) by decide)] at H; exact H
      clear H; have H := H1; clear H1
      have H' := Aside0.mk H
      clear H
      have hnb129 := NB380_381.out
      have hnc129 := NB381_380.out
      have hnb130 := NB380_382.out
      have hnc130 := NB382_380.out
      have hnb131 := NB380_387.out
      have hnc131 := NB387_380.out
      have hnb132 := NB380_388.out
      have hnc132 := NB388_380.out
      have hcz133_0 : w16.cell? ⟨gb380, 0, none⟩ = some (.int .i64 a0_0) := (blk_cell BK380.out 0).trans rfl
      have hcz133_1 : w16.cell? ⟨gb380, 1, none⟩ = some (.int .u64 a0_1) := (blk_cell BK380.out 1).trans rfl
      have hfz133_0 := blk_frozen BK380.out 0
      have hfz133_1 := blk_frozen BK380.out 1
      go_wp2_with (first | ((with_reducible refine gate_callee (f := 43) rfl ?_); refine goesL_ (some 17) rfl rfl Tryd.func43 (by kernel_rfl) rfl #[.agg #[.int .i64 a0_0, .int .u64 a0_1], .agg #[.int .i64 a0_0, .int .u64 a0_1]] rfl (by (try simp only [List.map_toArray, List.map_cons, List.map_nil]); first | done | rfl | (simp only [List.length_drop, List.length_take]; rfl)) ?_; (with_reducible refine (label_Below.calls a0_0 a0_1 a0_0 a0_1 true _ A21.out).mono ?_); rintro e w134 ⟨rfl, hb⟩; refine ⟨_, rfl, ?_⟩; replace BK380 := bb_ BK380 hb; replace BK381 := bb_ BK381 hb; replace BK382 := bb_ BK382 hb; replace BK387 := Aside0.mk (blk_below (g := gb387) (o := .cells #[.int .i64 t383, .int .u64 t384] 40 (0, 0)) (by (with_reducible repeat (first | refine blk_drewN ?_ _ | refine blk_drew ?_ | refine blk_alloc ?_ _)); refine blk_far ?_ NB387_388.out _; (with_reducible repeat (first | refine blk_drewN ?_ _ | refine blk_drew ?_ | refine blk_alloc ?_ _)); refine blk_far ?_ NB387_388.out _; (with_reducible repeat (first | refine blk_drewN ?_ _ | refine blk_drew ?_ | refine blk_alloc ?_ _)); refine blk_put (cs := #[.int .i64 t383, .int .u64 0]) ?_ 1 _ rfl; (with_reducible repeat (first | refine blk_drewN ?_ _ | refine blk_drew ?_ | refine blk_alloc ?_ _)); refine blk_put (cs := #[.int .i64 0, .int .u64 0]) ?_ 0 _ rfl; (with_reducible repeat (first | refine blk_drewN ?_ _ | refine blk_drew ?_ | refine blk_alloc ?_ _)); exact BK387.out) hb); replace BK388 := Aside0.mk (blk_below (g := gb388) (o := .cells #[.int .i64 t385, .int .u64 t386] 40 (0, 0)) (by (with_reducible repeat (first | refine blk_drewN ?_ _ | refine blk_drew ?_ | refine blk_alloc ?_ _)); refine blk_put (cs := #[.int .i64 t385, .int .u64 0]) ?_ 1 _ rfl; (with_reducible repeat (first | refine blk_drewN ?_ _ | refine blk_drew ?_ | refine blk_alloc ?_ _)); refine blk_put (cs := #[.int .i64 0, .int .u64 0]) ?_ 0 _ rfl; (with_reducible repeat (first | refine blk_drewN ?_ _ | refine blk_drew ?_ | refine blk_alloc ?_ _)); refine blk_far ?_ NB388_387.out _; (with_reducible repeat (first | refine blk_drewN ?_ _ | refine blk_drew ?_ | refine blk_alloc ?_ _)); refine blk_far ?_ NB388_387.out _; (with_reducible repeat (first | refine blk_drewN ?_ _ | refine blk_drew ?_ | refine blk_alloc ?_ _)); exact BK388.out) hb); replace HB := Aside0.mk (below_b hb); (try clear hb); obtain ⟨hcz135_0, hcz135_1, hfz135_0, hfz135_1⟩ := cf_ BK380; have hnb136 := NB381_382.out; have hnc136 := NB382_381.out; have hnb137 := NB381_387.out; have hnc137 := NB387_381.out; have hnb138 := NB381_388.out; have hnc138 := NB388_381.out; obtain ⟨hcz139_0, hcz139_1, hfz139_0, hfz139_1⟩ := cf_ BK381) | (go_at_call 43; (with_reducible refine (label_Below.calls a0_0 a0_1 a1_0 a1_1 true _ A23.out).mono ?_); rintro e w140 ⟨rfl, hb⟩; replace BK380 := bb_ BK380 hb; replace BK381 := bb_ BK381 hb; replace BK382 := bb_ BK382 hb; replace BK387 := bb_ BK387 hb; replace BK388 := bb_ BK388 hb; replace HB := Aside0.mk (below_b hb); (try clear hb); obtain ⟨hcz141_0, hcz141_1, hfz141_0, hfz141_1⟩ := cf_ BK381; obtain ⟨hcz142_0, hcz142_1, hfz142_0, hfz142_1⟩ := cf_ BK380; have hnb148 := NB382_387.out; have hnc148 := NB387_382.out; have hnb149 := NB382_388.out; have hnc149 := NB388_382.out; obtain ⟨hcz150_0, hcz150_1, hfz150_0, hfz150_1⟩ := cf_ BK382) | (go_at_call 43; (with_reducible refine (label_Below.calls a1_0 a1_1 a0_0 a0_1 false _ A25.out).mono ?_); rintro e w143 ⟨rfl, hb⟩; replace BK380 := bb_ BK380 hb; replace BK381 := bb_ BK381 hb; replace BK382 := bb_ BK382 hb; replace BK387 := bb_ BK387 hb; replace BK388 := bb_ BK388 hb; replace HB := Aside0.mk (below_b hb); (try clear hb); obtain ⟨hcz144_0, hcz144_1, hfz144_0, hfz144_1⟩ := cf_ BK380; obtain ⟨hcz145_0, hcz145_1, hfz145_0, hfz145_1⟩ := cf_ BK381) | (go_at_call 43; (with_reducible refine (label_Below.calls a1_0 a1_1 a2_0 a2_1 false _ A100.out).mono ?_); rintro e w151 ⟨rfl, hb⟩; replace BK380 := bb_ BK380 hb; replace BK381 := bb_ BK381 hb; replace BK382 := bb_ BK382 hb; replace BK387 := bb_ BK387 hb; replace BK388 := bb_ BK388 hb; replace HB := Aside0.mk (below_b hb); (try clear hb)))
      go_meet
      case rel => exact ⟨_, (false), (by first | rfl | (simp; done) | (simp [*]; done)), H', ⟨by first | omega | exact Nat.le_refl _⟩, ⟨bd_ BK380⟩, ⟨bd_ BK381⟩, ⟨bd_ BK382⟩, ⟨bd_ BK387⟩, ⟨bd_ BK388⟩, ⟨by repeat (first | (with_reducible first | exact HB.out | apply below_alloc | apply pw_below_drewN | apply below_drew1 | refine below_set ?_ GE380.out | refine below_set ?_ GE381.out | refine below_set ?_ GE382.out | refine below_set ?_ GE387.out | refine below_set ?_ GE388.out) | exact HB.out)⟩⟩
   ·replace c24 := Bool.eq_false_iff.mpr c24
    subst c24
    have H1 : ((label_Below.f a0_0 a0_1 a1_0 a1_1).bind fun t398 => (if t398 = true then ((label_Below.f a1_0 a1_1 a2_0 a2_1).bind fun t399 => (if t399 = true then ((label_Below.f a0_0 a0_1 a2_0 a2_1).bind fun t400 => (jalousielaw02_LabelLattice.j0 k (!t400) a0_0 a0_1 a1_0 a1_1 a2_0 a2_1 t383 t384 t385 t386)) else (jalousielaw02_LabelLattice.j0 k false a0_0 a0_1 a1_0 a1_1 a2_0 a2_1 t383 t384 t385 t386))) else (jalousielaw02_LabelLattice.j0 k false a0_0 a0_1 a1_0 a1_1 a2_0 a2_1 t383 t384 t385 t386))) = some r := by rw [if_neg (show ¬ (false = true) by decide)] at H; exact H
    clear H; have H := H1; clear H1
    replace H := Option.bind_eq_some_iff.mp H
    obtain ⟨t398, B0_, H⟩ := H
    have h_ := Option.some.inj (A23.out.symm.trans B0_)
    subst h_
    clear B0_
    replace H : (if false = true then ((label_Below.f a1_0 a1_1 a2_0 a2_1).bind fun t399 => (if t399 = true then ((label_Below.f a0_0 a0_1 a2_0 a2_1).bind fun t400 => (jalousielaw02_LabelLattice.j0 k (!t400) a0_0 a0_1 a1_0 a1_1 a2_0 a2_1 t383 t384 t385 t386)) else (jalousielaw02_LabelLattice.j0 k false a0_0 a0_1 a1_0 a1_1 a2_0 a2_1 t383 t384 t385 t386))) else (jalousielaw02_LabelLattice.j0 k false a0_0 a0_1 a1_0 a1_1 a2_0 a2_1 t383 t384 t385 t386)) = some r := H
    have H1 : (jalousielaw02_LabelLattice.j0 k false a0_0 a0_1 a1_0 a1_1 a2_0 a2_1 t383 t384 t385 t386) = some r := by rw [if_neg (show ¬ (false = true) by decide)] at H; exact H
    clear H; have H := H1; clear H1
    have H' := Aside0.mk H
    clear H
    have hnb197 := NB380_381.out
    have hnc197 := NB381_380.out
    have hnb198 := NB380_382.out
    have hnc198 := NB382_380.out
    have hnb199 := NB380_387.out
    have hnc199 := NB387_380.out
    have hnb200 := NB380_388.out
    have hnc200 := NB388_380.out
    have hcz201_0 : w16.cell? ⟨gb380, 0, none⟩ = some (.int .i64 a0_0) := (blk_cell BK380.out 0).trans rfl
    have hcz201_1 : w16.cell? ⟨gb380, 1, none⟩ = some (.int .u64 a0_1) := (blk_cell BK380.out 1).trans rfl
    have hfz201_0 := blk_frozen BK380.out 0
    have hfz201_1 := blk_frozen BK380.out 1
    go_wp2_with (first | ((with_reducible refine gate_callee (f := 43) rfl ?_); refine goesL_ (some 17) rfl rfl Tryd.func43 (by kernel_rfl) rfl #[.agg #[.int .i64 a0_0, .int .u64 a0_1], .agg #[.int .i64 a0_0, .int .u64 a0_1]] rfl (by (try simp only [List.map_toArray, List.map_cons, List.map_nil]); first | done | rfl | (simp only [List.length_drop, List.length_take]; rfl)) ?_; (with_reducible refine (label_Below.calls a0_0 a0_1 a0_0 a0_1 true _ A21.out).mono ?_); rintro e w202 ⟨rfl, hb⟩; refine ⟨_, rfl, ?_⟩; replace BK380 := bb_ BK380 hb; replace BK381 := bb_ BK381 hb; replace BK382 := bb_ BK382 hb; replace BK387 := Aside0.mk (blk_below (g := gb387) (o := .cells #[.int .i64 t383, .int .u64 t384] 40 (0, 0)) (by (with_reducible repeat (first | refine blk_drewN ?_ _ | refine blk_drew ?_ | refine blk_alloc ?_ _)); refine blk_far ?_ NB387_388.out _; (with_reducible repeat (first | refine blk_drewN ?_ _ | refine blk_drew ?_ | refine blk_alloc ?_ _)); refine blk_far ?_ NB387_388.out _; (with_reducible repeat (first | refine blk_drewN ?_ _ | refine blk_drew ?_ | refine blk_alloc ?_ _)); refine blk_put (cs := #[.int .i64 t383, .int .u64 0]) ?_ 1 _ rfl; (with_reducible repeat (first | refine blk_drewN ?_ _ | refine blk_drew ?_ | refine blk_alloc ?_ _)); refine blk_put (cs := #[.int .i64 0, .int .u64 0]) ?_ 0 _ rfl; (with_reducible repeat (first | refine blk_drewN ?_ _ | refine blk_drew ?_ | refine blk_alloc ?_ _)); exact BK387.out) hb); replace BK388 := Aside0.mk (blk_below (g := gb388) (o := .cells #[.int .i64 t385, .int .u64 t386] 40 (0, 0)) (by (with_reducible repeat (first | refine blk_drewN ?_ _ | refine blk_drew ?_ | refine blk_alloc ?_ _)); refine blk_put (cs := #[.int .i64 t385, .int .u64 0]) ?_ 1 _ rfl; (with_reducible repeat (first | refine blk_drewN ?_ _ | refine blk_drew ?_ | refine blk_alloc ?_ _)); refine blk_put (cs := #[.int .i64 0, .int .u64 0]) ?_ 0 _ rfl; (with_reducible repeat (first | refine blk_drewN ?_ _ | refine blk_drew ?_ | refine blk_alloc ?_ _)); refine blk_far ?_ NB388_387.out _; (with_reducible repeat (first | refine blk_drewN ?_ _ | refine blk_drew ?_ | refine blk_alloc ?_ _)); refine blk_far ?_ NB388_387.out _; (with_reducible repeat (first | refine blk_drewN ?_ _ | refine blk_drew ?_ | refine blk_alloc ?_ _)); exact BK388.out) hb); replace HB := Aside0.mk (below_b hb); (try clear hb); obtain ⟨hcz203_0, hcz203_1, hfz203_0, hfz203_1⟩ := cf_ BK380; have hnb204 := NB381_382.out; have hnc204 := NB382_381.out; have hnb205 := NB381_387.out; have hnc205 := NB387_381.out; have hnb206 := NB381_388.out; have hnc206 := NB388_381.out; obtain ⟨hcz207_0, hcz207_1, hfz207_0, hfz207_1⟩ := cf_ BK381) | (go_at_call 43; (with_reducible refine (label_Below.calls a0_0 a0_1 a1_0 a1_1 false _ A23.out).mono ?_); rintro e w208 ⟨rfl, hb⟩; replace BK380 := bb_ BK380 hb; replace BK381 := bb_ BK381 hb; replace BK382 := bb_ BK382 hb; replace BK387 := bb_ BK387 hb; replace BK388 := bb_ BK388 hb; replace HB := Aside0.mk (below_b hb); (try clear hb); obtain ⟨hcz209_0, hcz209_1, hfz209_0, hfz209_1⟩ := cf_ BK380; obtain ⟨hcz210_0, hcz210_1, hfz210_0, hfz210_1⟩ := cf_ BK381))
    go_meet
    case rel => exact ⟨_, (false), (by first | rfl | (simp; done) | (simp [*]; done)), H', ⟨by first | omega | exact Nat.le_refl _⟩, ⟨bd_ BK380⟩, ⟨bd_ BK381⟩, ⟨bd_ BK382⟩, ⟨bd_ BK387⟩, ⟨bd_ BK388⟩, ⟨by repeat (first | (with_reducible first | exact HB.out | apply below_alloc | apply pw_below_drewN | apply below_drew1 | refine below_set ?_ GE380.out | refine below_set ?_ GE381.out | refine below_set ?_ GE382.out | refine below_set ?_ GE387.out | refine below_set ?_ GE388.out) | exact HB.out)⟩⟩
  ·replace c22 := Bool.eq_false_iff.mpr c22
   subst c22
   have H1 : (jalousielaw02_LabelLattice.j0 k true a0_0 a0_1 a1_0 a1_1 a2_0 a2_1 t383 t384 t385 t386) = some r := by rw [if_neg (show ¬ (false = true) by decide)] at H; exact H
   clear H; have H := H1; clear H1
   have H9_ := H.trans (congrArg some hr_.out)
   clear H
   exfalso
   repeat' (first | (exact jalousielaw02_LabelLattice.no_j0 H9_) | (exact jalousielaw02_LabelLattice.no_j1 H9_) | (exact jalousielaw02_LabelLattice.no_j2 H9_) | (exact absurd H9_ (by decide)) | (exact absurd rfl (by assumption)) | (obtain ⟨_, _, H9_⟩ := Option.bind_eq_some_iff.mp H9_) | (rw [if_pos rfl] at H9_) | split at H9_ | (unfold jalousielaw02_LabelLattice.j0 at H9_; split at H9_))
 case rest =>
  clear HC10
  (try clear c1); (try clear c2); (try clear p2); (try clear c3); (try clear c4); (try clear c5); (try clear c6); (try clear c7); (try clear c8); (try clear c9); (try clear c10); (try clear c11); (try clear c12); (try clear c13); (try clear c14); (try clear c15); (try clear c16); (try clear c17); (try clear c18); (try clear c19); (try clear c20); (try clear c22); (try clear c24); (try clear c26); (try clear c27); (try clear c27b0); (try clear c28); (try clear c30); (try clear c32); (try clear c33); (try clear c34); (try clear c35); (try clear c39); (try clear c40); (try clear c41); (try clear c43); (try clear c51); (try clear c52); (try clear c58); (try clear c59); (try clear c60); (try clear c61); (try clear c65); (try clear c66); (try clear c67); (try clear c77); (try clear c78); (try clear c81); (try clear c82); (try clear c83); (try clear c84); (try clear c88); (try clear c89); (try clear c90); (try clear c99); (try clear c101); (try clear c103); (try clear c104); (try clear c105); (try clear c106); (try clear c110); (try clear c111); (try clear c112); (try clear c122); (try clear c123); (try clear c129); (try clear c130); (try clear c131); (try clear c132); (try clear c136); (try clear c137); (try clear c138); (try clear c148); (try clear c149); (try clear c152); (try clear c153); (try clear c154); (try clear c155); (try clear c159); (try clear c160); (try clear c161); (try clear c170); (try clear c172); (try clear c174); (try clear c175); (try clear c176); (try clear c177); (try clear c181); (try clear c182); (try clear c183); (try clear c190); (try clear c191); (try clear c197); (try clear c198); (try clear c199); (try clear c200); (try clear c204); (try clear c205); (try clear c206); (try clear hcz107_0 hcz107_1 hfz107_0 hfz107_1); (try clear hcz109_0 hcz109_1 hfz109_0 hfz109_1); (try clear hcz113_0 hcz113_1 hfz113_0 hfz113_1); (try clear hcz115_0 hcz115_1 hfz115_0 hfz115_1); (try clear hcz116_0 hcz116_1 hfz116_0 hfz116_1); (try clear hcz118_0 hcz118_1 hfz118_0 hfz118_1); (try clear hcz119_0 hcz119_1 hfz119_0 hfz119_1); (try clear hcz121_0 hcz121_1 hfz121_0 hfz121_1); (try clear hcz124_0 hcz124_1 hfz124_0 hfz124_1); (try clear hcz126_0 hcz126_1 hfz126_0 hfz126_1); (try clear hcz127_0 hcz127_1 hfz127_0 hfz127_1); (try clear hcz133_0 hcz133_1 hfz133_0 hfz133_1); (try clear hcz135_0 hcz135_1 hfz135_0 hfz135_1); (try clear hcz139_0 hcz139_1 hfz139_0 hfz139_1); (try clear hcz141_0 hcz141_1 hfz141_0 hfz141_1); (try clear hcz142_0 hcz142_1 hfz142_0 hfz142_1); (try clear hcz144_0 hcz144_1 hfz144_0 hfz144_1); (try clear hcz145_0 hcz145_1 hfz145_0 hfz145_1); (try clear hcz147_0 hcz147_1 hfz147_0 hfz147_1); (try clear hcz150_0 hcz150_1 hfz150_0 hfz150_1); (try clear hcz156_0 hcz156_1 hfz156_0 hfz156_1); (try clear hcz158_0 hcz158_1 hfz158_0 hfz158_1); (try clear hcz162_0 hcz162_1 hfz162_0 hfz162_1); (try clear hcz164_0 hcz164_1 hfz164_0 hfz164_1); (try clear hcz165_0 hcz165_1 hfz165_0 hfz165_1); (try clear hcz167_0 hcz167_1 hfz167_0 hfz167_1); (try clear hcz168_0 hcz168_1 hfz168_0 hfz168_1); (try clear hcz178_0 hcz178_1 hfz178_0 hfz178_1); (try clear hcz180_0 hcz180_1 hfz180_0 hfz180_1); (try clear hcz184_0 hcz184_1 hfz184_0 hfz184_1); (try clear hcz186_0 hcz186_1 hfz186_0 hfz186_1); (try clear hcz187_0 hcz187_1 hfz187_0 hfz187_1); (try clear hcz189_0 hcz189_1 hfz189_0 hfz189_1); (try clear hcz192_0 hcz192_1 hfz192_0 hfz192_1); (try clear hcz194_0 hcz194_1 hfz194_0 hfz194_1); (try clear hcz195_0 hcz195_1 hfz195_0 hfz195_1); (try clear hcz201_0 hcz201_1 hfz201_0 hfz201_1); (try clear hcz203_0 hcz203_1 hfz203_0 hfz203_1); (try clear hcz207_0 hcz207_1 hfz207_0 hfz207_1); (try clear hcz209_0 hcz209_1 hfz209_0 hfz209_1); (try clear hcz210_0 hcz210_1 hfz210_0 hfz210_1); (try clear hcz36_0 hcz36_1 hfz36_0 hfz36_1); (try clear hcz38_0 hcz38_1 hfz38_0 hfz38_1); (try clear hcz42_0 hcz42_1 hfz42_0 hfz42_1); (try clear hcz44_0 hcz44_1 hfz44_0 hfz44_1); (try clear hcz45_0 hcz45_1 hfz45_0 hfz45_1); (try clear hcz47_0 hcz47_1 hfz47_0 hfz47_1); (try clear hcz48_0 hcz48_1 hfz48_0 hfz48_1); (try clear hcz50_0 hcz50_1 hfz50_0 hfz50_1); (try clear hcz53_0 hcz53_1 hfz53_0 hfz53_1); (try clear hcz55_0 hcz55_1 hfz55_0 hfz55_1); (try clear hcz56_0 hcz56_1 hfz56_0 hfz56_1); (try clear hcz62_0 hcz62_1 hfz62_0 hfz62_1); (try clear hcz64_0 hcz64_1 hfz64_0 hfz64_1); (try clear hcz68_0 hcz68_1 hfz68_0 hfz68_1); (try clear hcz70_0 hcz70_1 hfz70_0 hfz70_1); (try clear hcz71_0 hcz71_1 hfz71_0 hfz71_1); (try clear hcz73_0 hcz73_1 hfz73_0 hfz73_1); (try clear hcz74_0 hcz74_1 hfz74_0 hfz74_1); (try clear hcz76_0 hcz76_1 hfz76_0 hfz76_1); (try clear hcz79_0 hcz79_1 hfz79_0 hfz79_1); (try clear hcz85_0 hcz85_1 hfz85_0 hfz85_1); (try clear hcz87_0 hcz87_1 hfz87_0 hfz87_1); (try clear hcz91_0 hcz91_1 hfz91_0 hfz91_1); (try clear hcz93_0 hcz93_1 hfz93_0 hfz93_1); (try clear hcz94_0 hcz94_1 hfz94_0 hfz94_1); (try clear hcz96_0 hcz96_1 hfz96_0 hfz96_1); (try clear hcz97_0 hcz97_1 hfz97_0 hfz97_1)
  obtain ⟨kq, x49_9, rfl, HA, HJ9, BK380, BK381, BK382, BK387, BK388, HB⟩ := hcut
  cases kq with
  | zero => exact absurd HA.out (by simp [jalousielaw02_LabelLattice.j0])
  | succ kj9 =>
   have H := HA.out
   clear HA
   simp only [jalousielaw02_LabelLattice.j0] at H
   by_cases c212 : x49_9 = true
   ·subst c212
    have H1 : (some false) = some r := by rw [if_pos rfl] at H; exact H
    clear H; have H := H1; clear H1
    have H9_ := H.trans (congrArg some hr_.out)
    clear H
    exfalso
    repeat' (first | (exact jalousielaw02_LabelLattice.no_j0 H9_) | (exact jalousielaw02_LabelLattice.no_j1 H9_) | (exact jalousielaw02_LabelLattice.no_j2 H9_) | (exact absurd H9_ (by decide)) | (exact absurd rfl (by assumption)) | (obtain ⟨_, _, H9_⟩ := Option.bind_eq_some_iff.mp H9_) | (rw [if_pos rfl] at H9_) | split at H9_ | (unfold jalousielaw02_LabelLattice.j0 at H9_; split at H9_))
   ·replace c212 := Bool.eq_false_iff.mpr c212
    subst c212
    have H1 : ((label_Below.f a0_0 a0_1 t383 t384).bind fun t401 => (if t401 = true then ((label_Below.f a1_0 a1_1 t383 t384).bind fun t402 => (if t402 = true then ((label_Below.f a0_0 a0_1 a2_0 a2_1).bind fun t403 => (if t403 = true then ((label_Below.f a1_0 a1_1 a2_0 a2_1).bind fun t404 => (if t404 = true then ((label_Below.f t383 t384 a2_0 a2_1).bind fun t405 => (jalousielaw02_LabelLattice.j1 kj9 (!t405) a0_0 a0_1 a1_0 a1_1 a2_0 a2_1 t385 t386)) else (jalousielaw02_LabelLattice.j1 kj9 false a0_0 a0_1 a1_0 a1_1 a2_0 a2_1 t385 t386))) else (jalousielaw02_LabelLattice.j1 kj9 false a0_0 a0_1 a1_0 a1_1 a2_0 a2_1 t385 t386))) else (jalousielaw02_LabelLattice.j1 kj9 true a0_0 a0_1 a1_0 a1_1 a2_0 a2_1 t385 t386))) else (jalousielaw02_LabelLattice.j1 kj9 true a0_0 a0_1 a1_0 a1_1 a2_0 a2_1 t385 t386))) = some r := by rw [if_neg (show ¬ (false = true) by decide)] at H; exact H
    clear H; have H := H1; clear H1
    have HC213 := Aside0.mk H
    clear H
    go_upto_region 4 with (fail)
    go_cut [75] (fun v75 wc => ∃ (kq : Nat) (x75_212 : Bool), v75 = .bool x75_212 ∧ Aside0 (jalousielaw02_LabelLattice.j1 kq x75_212 a0_0 a0_1 a1_0 a1_1 a2_0 a2_1 t385 t386 = some r) ∧ Aside0 (kq ≤ kj9) ∧ Aside0 (wc.heap[gb380]? = some (.cells #[.int .i64 a0_0, .int .u64 a0_1] 40 (0, 0))) ∧ Aside0 (wc.heap[gb381]? = some (.cells #[.int .i64 a1_0, .int .u64 a1_1] 40 (0, 0))) ∧ Aside0 (wc.heap[gb382]? = some (.cells #[.int .i64 a2_0, .int .u64 a2_1] 40 (0, 0))) ∧ Aside0 (wc.heap[gb387]? = some (.cells #[.int .i64 t383, .int .u64 t384] 40 (0, 0))) ∧ Aside0 (wc.heap[gb388]? = some (.cells #[.int .i64 t385, .int .u64 t386] 40 (0, 0))) ∧ Aside0 (Below w.heap.size w wc))
    case first =>
     have H := HC213.out
     clear HC213
     replace H := Option.bind_eq_some_iff.mp H
     obtain ⟨t401, A2140, H⟩ := H
     replace H : (if t401 = true then ((label_Below.f a1_0 a1_1 t383 t384).bind fun t402 => (if t402 = true then ((label_Below.f a0_0 a0_1 a2_0 a2_1).bind fun t403 => (if t403 = true then ((label_Below.f a1_0 a1_1 a2_0 a2_1).bind fun t404 => (if t404 = true then ((label_Below.f t383 t384 a2_0 a2_1).bind fun t405 => (jalousielaw02_LabelLattice.j1 kj9 (!t405) a0_0 a0_1 a1_0 a1_1 a2_0 a2_1 t385 t386)) else (jalousielaw02_LabelLattice.j1 kj9 false a0_0 a0_1 a1_0 a1_1 a2_0 a2_1 t385 t386))) else (jalousielaw02_LabelLattice.j1 kj9 false a0_0 a0_1 a1_0 a1_1 a2_0 a2_1 t385 t386))) else (jalousielaw02_LabelLattice.j1 kj9 true a0_0 a0_1 a1_0 a1_1 a2_0 a2_1 t385 t386))) else (jalousielaw02_LabelLattice.j1 kj9 true a0_0 a0_1 a1_0 a1_1 a2_0 a2_1 t385 t386)) = some r := H
     have A214 := Aside0.mk A2140
     clear A2140
     by_cases c215 : t401 = true
     ·subst c215
      have H1 : ((label_Below.f a1_0 a1_1 t383 t384).bind fun t402 => (if t402 = true then ((label_Below.f a0_0 a0_1 a2_0 a2_1).bind fun t403 => (if t403 = true then ((label_Below.f a1_0 a1_1 a2_0 a2_1).bind fun t404 => (if t404 = true then ((label_Below.f t383 t384 a2_0 a2_1).bind fun t405 => (jalousielaw02_LabelLattice.j1 kj9 (!t405) a0_0 a0_1 a1_0 a1_1 a2_0 a2_1 t385 t386)) else (jalousielaw02_LabelLattice.j1 kj9 false a0_0 a0_1 a1_0 a1_1 a2_0 a2_1 t385 t386))) else (jalousielaw02_LabelLattice.j1 kj9 false a0_0 a0_1 a1_0 a1_1 a2_0 a2_1 t385 t386))) else (jalousielaw02_LabelLattice.j1 kj9 true a0_0 a0_1 a1_0 a1_1 a2_0 a2_1 t385 t386))) = some r := by rw [if_pos rfl] at H; exact H
      clear H; have H := H1; clear H1
      replace H := Option.bind_eq_some_iff.mp H
      obtain ⟨t402, A2160, H⟩ := H
      replace H : (if t402 = true then ((label_Below.f a0_0 a0_1 a2_0 a2_1).bind fun t403 => (if t403 = true then ((label_Below.f a1_0 a1_1 a2_0 a2_1).bind fun t404 => (if t404 = true then ((label_Below.f t383 t384 a2_0 a2_1).bind fun t405 => (jalousielaw02_LabelLattice.j1 kj9 (!t405) a0_0 a0_1 a1_0 a1_1 a2_0 a2_1 t385 t386)) else (jalousielaw02_LabelLattice.j1 kj9 false a0_0 a0_1 a1_0 a1_1 a2_0 a2_1 t385 t386))) else (jalousielaw02_LabelLattice.j1 kj9 false a0_0 a0_1 a1_0 a1_1 a2_0 a2_1 t385 t386))) else (jalousielaw02_LabelLattice.j1 kj9 true a0_0 a0_1 a1_0 a1_1 a2_0 a2_1 t385 t386)) = some r := H
      have A216 := Aside0.mk A2160
      clear A2160
      by_cases c217 : t402 = true
      ·subst c217
       have H1 : ((label_Below.f a0_0 a0_1 a2_0 a2_1).bind fun t403 => (if t403 = true then ((label_Below.f a1_0 a1_1 a2_0 a2_1).bind fun t404 => (if t404 = true then ((label_Below.f t383 t384 a2_0 a2_1).bind fun t405 => (jalousielaw02_LabelLattice.j1 kj9 (!t405) a0_0 a0_1 a1_0 a1_1 a2_0 a2_1 t385 t386)) else (jalousielaw02_LabelLattice.j1 kj9 false a0_0 a0_1 a1_0 a1_1 a2_0 a2_1 t385 t386))) else (jalousielaw02_LabelLattice.j1 kj9 false a0_0 a0_1 a1_0 a1_1 a2_0 a2_1 t385 t386))) = some r := by rw [if_pos rfl] at H; exact H
       clear H; have H := H1; clear H1
       replace H := Option.bind_eq_some_iff.mp H
       obtain ⟨t403, A2180, H⟩ := H
       replace H : (if t403 = true then ((label_Below.f a1_0 a1_1 a2_0 a2_1).bind fun t404 => (if t404 = true then ((label_Below.f t383 t384 a2_0 a2_1).bind fun t405 => (jalousielaw02_LabelLattice.j1 kj9 (!t405) a0_0 a0_1 a1_0 a1_1 a2_0 a2_1 t385 t386)) else (jalousielaw02_LabelLattice.j1 kj9 false a0_0 a0_1 a1_0 a1_1 a2_0 a2_1 t385 t386))) else (jalousielaw02_LabelLattice.j1 kj9 false a0_0 a0_1 a1_0 a1_1 a2_0 a2_1 t385 t386)) = some r := H
       have A218 := Aside0.mk A2180
       clear A2180
       by_cases c219 : t403 = true
       ·subst c219
        have H1 : ((label_Below.f a1_0 a1_1 a2_0 a2_1).bind fun t404 => (if t404 = true then ((label_Below.f t383 t384 a2_0 a2_1).bind fun t405 => (jalousielaw02_LabelLattice.j1 kj9 (!t405) a0_0 a0_1 a1_0 a1_1 a2_0 a2_1 t385 t386)) else (jalousielaw02_LabelLattice.j1 kj9 false a0_0 a0_1 a1_0 a1_1 a2_0 a2_1 t385 t386))) = some r := by rw [if_pos rfl] at H; exact H
        clear H; have H := H1; clear H1
        replace H := Option.bind_eq_some_iff.mp H
        obtain ⟨t404, A2200, H⟩ := H
        replace H : (if t404 = true then ((label_Below.f t383 t384 a2_0 a2_1).bind fun t405 => (jalousielaw02_LabelLattice.j1 kj9 (!t405) a0_0 a0_1 a1_0 a1_1 a2_0 a2_1 t385 t386)) else (jalousielaw02_LabelLattice.j1 kj9 false a0_0 a0_1 a1_0 a1_1 a2_0 a2_1 t385 t386)) = some r := H
        have A220 := Aside0.mk A2200
        clear A2200
        by_cases c221 : t404 = true
        ·subst c221
         have H1 : ((label_Below.f t383 t384 a2_0 a2_1).bind fun t405 => (jalousielaw02_LabelLattice.j1 kj9 (!t405) a0_0 a0_1 a1_0 a1_1 a2_0 a2_1 t385 t386)) = some r := by rw [if_pos rfl] at H; exact H
         clear H; have H := H1; clear H1
         replace H := Option.bind_eq_some_iff.mp H
         obtain ⟨t405, A2220, H⟩ := H
         replace H : (jalousielaw02_LabelLattice.j1 kj9 (!t405) a0_0 a0_1 a1_0 a1_1 a2_0 a2_1 t385 t386) = some r := H
         have A222 := Aside0.mk A2220
         clear A2220
         have H' := Aside0.mk H
         clear H
         have hnb223 := NB380_381.out
         have hnc223 := NB381_380.out
         have hnb224 := NB380_382.out
         have hnc224 := NB382_380.out
         have hnb225 := NB380_387.out
         have hnc225 := NB387_380.out
         have hnb226 := NB380_388.out
         have hnc226 := NB388_380.out
         have hcz227_0 : wc.cell? ⟨gb380, 0, none⟩ = some (.int .i64 a0_0) := (blk_cell BK380.out 0).trans rfl
         have hcz227_1 : wc.cell? ⟨gb380, 1, none⟩ = some (.int .u64 a0_1) := (blk_cell BK380.out 1).trans rfl
         have hfz227_0 := blk_frozen BK380.out 0
         have hfz227_1 := blk_frozen BK380.out 1
         have hnb228 := NB387_381.out
         have hnc228 := NB381_387.out
         have hnb229 := NB387_382.out
         have hnc229 := NB382_387.out
         have hnb230 := NB387_388.out
         have hnc230 := NB388_387.out
         have hcz231_0 : wc.cell? ⟨gb387, 0, none⟩ = some (.int .i64 t383) := (blk_cell BK387.out 0).trans rfl
         have hcz231_1 : wc.cell? ⟨gb387, 1, none⟩ = some (.int .u64 t384) := (blk_cell BK387.out 1).trans rfl
         have hfz231_0 := blk_frozen BK387.out 0
         have hfz231_1 := blk_frozen BK387.out 1
         go_wp2_with (first | ((with_reducible refine gate_callee (f := 43) rfl ?_); refine goesL_ (some 52) rfl rfl Tryd.func43 (by kernel_rfl) rfl #[.agg #[.int .i64 a0_0, .int .u64 a0_1], .agg #[.int .i64 t383, .int .u64 t384]] rfl (by (try simp only [List.map_toArray, List.map_cons, List.map_nil]); first | done | rfl | (simp only [List.length_drop, List.length_take]; rfl)) ?_; (with_reducible refine (label_Below.calls a0_0 a0_1 t383 t384 true _ A214.out).mono ?_); rintro e w232 ⟨rfl, hb⟩; refine ⟨_, rfl, ?_⟩; replace BK380 := bb_ BK380 hb; replace BK381 := bb_ BK381 hb; replace BK382 := bb_ BK382 hb; replace BK387 := bb_ BK387 hb; replace BK388 := bb_ BK388 hb; replace HB := Aside0.mk (below_b hb); (try clear hb); have hnb233 := NB381_382.out; have hnc233 := NB382_381.out; have hnb234 := NB381_388.out; have hnc234 := NB388_381.out; obtain ⟨hcz235_0, hcz235_1, hfz235_0, hfz235_1⟩ := cf_ BK381; obtain ⟨hcz236_0, hcz236_1, hfz236_0, hfz236_1⟩ := cf_ BK387) | (go_at_call 43; (with_reducible refine (label_Below.calls a1_0 a1_1 t383 t384 true _ A216.out).mono ?_); rintro e w237 ⟨rfl, hb⟩; replace BK380 := bb_ BK380 hb; replace BK381 := bb_ BK381 hb; replace BK382 := bb_ BK382 hb; replace BK387 := bb_ BK387 hb; replace BK388 := bb_ BK388 hb; replace HB := Aside0.mk (below_b hb); (try clear hb); obtain ⟨hcz238_0, hcz238_1, hfz238_0, hfz238_1⟩ := cf_ BK380; have hnb239 := NB382_388.out; have hnc239 := NB388_382.out; obtain ⟨hcz240_0, hcz240_1, hfz240_0, hfz240_1⟩ := cf_ BK382) | (go_at_call 43; (with_reducible refine (label_Below.calls a0_0 a0_1 a2_0 a2_1 true _ A218.out).mono ?_); rintro e w241 ⟨rfl, hb⟩; replace BK380 := bb_ BK380 hb; replace BK381 := bb_ BK381 hb; replace BK382 := bb_ BK382 hb; replace BK387 := bb_ BK387 hb; replace BK388 := bb_ BK388 hb; replace HB := Aside0.mk (below_b hb); (try clear hb); obtain ⟨hcz242_0, hcz242_1, hfz242_0, hfz242_1⟩ := cf_ BK381; obtain ⟨hcz243_0, hcz243_1, hfz243_0, hfz243_1⟩ := cf_ BK382) | (go_at_call 43; (with_reducible refine (label_Below.calls a1_0 a1_1 a2_0 a2_1 true _ A220.out).mono ?_); rintro e w244 ⟨rfl, hb⟩; replace BK380 := bb_ BK380 hb; replace BK381 := bb_ BK381 hb; replace BK382 := bb_ BK382 hb; replace BK387 := bb_ BK387 hb; replace BK388 := bb_ BK388 hb; replace HB := Aside0.mk (below_b hb); (try clear hb); obtain ⟨hcz245_0, hcz245_1, hfz245_0, hfz245_1⟩ := cf_ BK387; obtain ⟨hcz246_0, hcz246_1, hfz246_0, hfz246_1⟩ := cf_ BK382) | (go_at_call 43; (with_reducible refine (label_Below.calls t383 t384 a2_0 a2_1 t405 _ A222.out).mono ?_); rintro e w247 ⟨rfl, hb⟩; replace BK380 := bb_ BK380 hb; replace BK381 := bb_ BK381 hb; replace BK382 := bb_ BK382 hb; replace BK387 := bb_ BK387 hb; replace BK388 := bb_ BK388 hb; replace HB := Aside0.mk (below_b hb); (try clear hb)))
         go_meet
         case rel => exact ⟨_, (!t405), (by first | rfl | (simp; done) | (simp [*]; done)), H', ⟨by have := HJ9.out; first | omega | exact Nat.le_refl _⟩, ⟨bd_ BK380⟩, ⟨bd_ BK381⟩, ⟨bd_ BK382⟩, ⟨bd_ BK387⟩, ⟨bd_ BK388⟩, ⟨by repeat (first | (with_reducible first | exact HB.out | apply below_alloc | apply pw_below_drewN | apply below_drew1 | refine below_set ?_ GE380.out | refine below_set ?_ GE381.out | refine below_set ?_ GE382.out | refine below_set ?_ GE387.out | refine below_set ?_ GE388.out) | exact HB.out)⟩⟩
        ·replace c221 := Bool.eq_false_iff.mpr c221
         subst c221
         have H1 : (jalousielaw02_LabelLattice.j1 kj9 false a0_0 a0_1 a1_0 a1_1 a2_0 a2_1 t385 t386) = some r := by rw [if_neg (show ¬ (false = true) by decide)] at H; exact H
         clear H; have H := H1; clear H1
         have H' := Aside0.mk H
         clear H
         have hnb248 := NB380_381.out
         have hnc248 := NB381_380.out
         have hnb249 := NB380_382.out
         have hnc249 := NB382_380.out
         have hnb250 := NB380_387.out
         have hnc250 := NB387_380.out
         have hnb251 := NB380_388.out
         have hnc251 := NB388_380.out
         have hcz252_0 : wc.cell? ⟨gb380, 0, none⟩ = some (.int .i64 a0_0) := (blk_cell BK380.out 0).trans rfl
         have hcz252_1 : wc.cell? ⟨gb380, 1, none⟩ = some (.int .u64 a0_1) := (blk_cell BK380.out 1).trans rfl
         have hfz252_0 := blk_frozen BK380.out 0
         have hfz252_1 := blk_frozen BK380.out 1
         have hnb253 := NB387_381.out
         have hnc253 := NB381_387.out
         have hnb254 := NB387_382.out
         have hnc254 := NB382_387.out
         have hnb255 := NB387_388.out
         have hnc255 := NB388_387.out
         have hcz256_0 : wc.cell? ⟨gb387, 0, none⟩ = some (.int .i64 t383) := (blk_cell BK387.out 0).trans rfl
         have hcz256_1 : wc.cell? ⟨gb387, 1, none⟩ = some (.int .u64 t384) := (blk_cell BK387.out 1).trans rfl
         have hfz256_0 := blk_frozen BK387.out 0
         have hfz256_1 := blk_frozen BK387.out 1
         go_wp2_with (first | ((with_reducible refine gate_callee (f := 43) rfl ?_); refine goesL_ (some 52) rfl rfl Tryd.func43 (by kernel_rfl) rfl #[.agg #[.int .i64 a0_0, .int .u64 a0_1], .agg #[.int .i64 t383, .int .u64 t384]] rfl (by (try simp only [List.map_toArray, List.map_cons, List.map_nil]); first | done | rfl | (simp only [List.length_drop, List.length_take]; rfl)) ?_; (with_reducible refine (label_Below.calls a0_0 a0_1 t383 t384 true _ A214.out).mono ?_); rintro e w257 ⟨rfl, hb⟩; refine ⟨_, rfl, ?_⟩; replace BK380 := bb_ BK380 hb; replace BK381 := bb_ BK381 hb; replace BK382 := bb_ BK382 hb; replace BK387 := bb_ BK387 hb; replace BK388 := bb_ BK388 hb; replace HB := Aside0.mk (below_b hb); (try clear hb); have hnb258 := NB381_382.out; have hnc258 := NB382_381.out; have hnb259 := NB381_388.out; have hnc259 := NB388_381.out; obtain ⟨hcz260_0, hcz260_1, hfz260_0, hfz260_1⟩ := cf_ BK381; obtain ⟨hcz261_0, hcz261_1, hfz261_0, hfz261_1⟩ := cf_ BK387) | (go_at_call 43; (with_reducible refine (label_Below.calls a1_0 a1_1 t383 t384 true _ A216.out).mono ?_); rintro e w262 ⟨rfl, hb⟩; replace BK380 := bb_ BK380 hb; replace BK381 := bb_ BK381 hb; replace BK382 := bb_ BK382 hb; replace BK387 := bb_ BK387 hb; replace BK388 := bb_ BK388 hb; replace HB := Aside0.mk (below_b hb); (try clear hb); obtain ⟨hcz263_0, hcz263_1, hfz263_0, hfz263_1⟩ := cf_ BK380; have hnb264 := NB382_388.out; have hnc264 := NB388_382.out; obtain ⟨hcz265_0, hcz265_1, hfz265_0, hfz265_1⟩ := cf_ BK382) | (go_at_call 43; (with_reducible refine (label_Below.calls a0_0 a0_1 a2_0 a2_1 true _ A218.out).mono ?_); rintro e w266 ⟨rfl, hb⟩; replace BK380 := bb_ BK380 hb; replace BK381 := bb_ BK381 hb; replace BK382 := bb_ BK382 hb; replace BK387 := bb_ BK387 hb; replace BK388 := bb_ BK388 hb; replace HB := Aside0.mk (below_b hb); (try clear hb); obtain ⟨hcz267_0, hcz267_1, hfz267_0, hfz267_1⟩ := cf_ BK381; obtain ⟨hcz268_0, hcz268_1, hfz268_0, hfz268_1⟩ := cf_ BK382) | (go_at_call 43; (with_reducible refine (label_Below.calls a1_0 a1_1 a2_0 a2_1 false _ A220.out).mono ?_); rintro e w269 ⟨rfl, hb⟩; replace BK380 := bb_ BK380 hb; replace BK381 := bb_ BK381 hb; replace BK382 := bb_ BK382 hb; replace BK387 := bb_ BK387 hb; replace BK388 := bb_ BK388 hb; replace HB := Aside0.mk (below_b hb); (try clear hb)))
         go_meet
         case rel => exact ⟨_, (false), (by first | rfl | (simp; done) | (simp [*]; done)), H', ⟨by have := HJ9.out; first | omega | exact Nat.le_refl _⟩, ⟨bd_ BK380⟩, ⟨bd_ BK381⟩, ⟨bd_ BK382⟩, ⟨bd_ BK387⟩, ⟨bd_ BK388⟩, ⟨by repeat (first | (with_reducible first | exact HB.out | apply below_alloc | apply pw_below_drewN | apply below_drew1 | refine below_set ?_ GE380.out | refine below_set ?_ GE381.out | refine below_set ?_ GE382.out | refine below_set ?_ GE387.out | refine below_set ?_ GE388.out) | exact HB.out)⟩⟩
       ·replace c219 := Bool.eq_false_iff.mpr c219
        subst c219
        have H1 : (jalousielaw02_LabelLattice.j1 kj9 false a0_0 a0_1 a1_0 a1_1 a2_0 a2_1 t385 t386) = some r := by rw [if_neg (show ¬ (false = true) by decide)] at H; exact H
        clear H; have H := H1; clear H1
        have H' := Aside0.mk H
        clear H
        have hnb270 := NB380_381.out
        have hnc270 := NB381_380.out
        have hnb271 := NB380_382.out
        have hnc271 := NB382_380.out
        have hnb272 := NB380_387.out
        have hnc272 := NB387_380.out
        have hnb273 := NB380_388.out
        have hnc273 := NB388_380.out
        have hcz274_0 : wc.cell? ⟨gb380, 0, none⟩ = some (.int .i64 a0_0) := (blk_cell BK380.out 0).trans rfl
        have hcz274_1 : wc.cell? ⟨gb380, 1, none⟩ = some (.int .u64 a0_1) := (blk_cell BK380.out 1).trans rfl
        have hfz274_0 := blk_frozen BK380.out 0
        have hfz274_1 := blk_frozen BK380.out 1
        have hnb275 := NB387_381.out
        have hnc275 := NB381_387.out
        have hnb276 := NB387_382.out
        have hnc276 := NB382_387.out
        have hnb277 := NB387_388.out
        have hnc277 := NB388_387.out
        have hcz278_0 : wc.cell? ⟨gb387, 0, none⟩ = some (.int .i64 t383) := (blk_cell BK387.out 0).trans rfl
        have hcz278_1 : wc.cell? ⟨gb387, 1, none⟩ = some (.int .u64 t384) := (blk_cell BK387.out 1).trans rfl
        have hfz278_0 := blk_frozen BK387.out 0
        have hfz278_1 := blk_frozen BK387.out 1
        go_wp2_with (first | ((with_reducible refine gate_callee (f := 43) rfl ?_); refine goesL_ (some 52) rfl rfl Tryd.func43 (by kernel_rfl) rfl #[.agg #[.int .i64 a0_0, .int .u64 a0_1], .agg #[.int .i64 t383, .int .u64 t384]] rfl (by (try simp only [List.map_toArray, List.map_cons, List.map_nil]); first | done | rfl | (simp only [List.length_drop, List.length_take]; rfl)) ?_; (with_reducible refine (label_Below.calls a0_0 a0_1 t383 t384 true _ A214.out).mono ?_); rintro e w279 ⟨rfl, hb⟩; refine ⟨_, rfl, ?_⟩; replace BK380 := bb_ BK380 hb; replace BK381 := bb_ BK381 hb; replace BK382 := bb_ BK382 hb; replace BK387 := bb_ BK387 hb; replace BK388 := bb_ BK388 hb; replace HB := Aside0.mk (below_b hb); (try clear hb); have hnb280 := NB381_382.out; have hnc280 := NB382_381.out; have hnb281 := NB381_388.out; have hnc281 := NB388_381.out; obtain ⟨hcz282_0, hcz282_1, hfz282_0, hfz282_1⟩ := cf_ BK381; obtain ⟨hcz283_0, hcz283_1, hfz283_0, hfz283_1⟩ := cf_ BK387) | (go_at_call 43; (with_reducible refine (label_Below.calls a1_0 a1_1 t383 t384 true _ A216.out).mono ?_); rintro e w284 ⟨rfl, hb⟩; replace BK380 := bb_ BK380 hb; replace BK381 := bb_ BK381 hb; replace BK382 := bb_ BK382 hb; replace BK387 := bb_ BK387 hb; replace BK388 := bb_ BK388 hb; replace HB := Aside0.mk (below_b hb); (try clear hb); obtain ⟨hcz285_0, hcz285_1, hfz285_0, hfz285_1⟩ := cf_ BK380; have hnb286 := NB382_388.out; have hnc286 := NB388_382.out; obtain ⟨hcz287_0, hcz287_1, hfz287_0, hfz287_1⟩ := cf_ BK382) | (go_at_call 43; (with_reducible refine (label_Below.calls a0_0 a0_1 a2_0 a2_1 false _ A218.out).mono ?_); rintro e w288 ⟨rfl, hb⟩; replace BK380 := bb_ BK380 hb; replace BK381 := bb_ BK381 hb; replace BK382 := bb_ BK382 hb; replace BK387 := bb_ BK387 hb; replace BK388 := bb_ BK388 hb; replace HB := Aside0.mk (below_b hb); (try clear hb)))
        go_meet
        case rel => exact ⟨_, (false), (by first | rfl | (simp; done) | (simp [*]; done)), H', ⟨by have := HJ9.out; first | omega | exact Nat.le_refl _⟩, ⟨bd_ BK380⟩, ⟨bd_ BK381⟩, ⟨bd_ BK382⟩, ⟨bd_ BK387⟩, ⟨bd_ BK388⟩, ⟨by repeat (first | (with_reducible first | exact HB.out | apply below_alloc | apply pw_below_drewN | apply below_drew1 | refine below_set ?_ GE380.out | refine below_set ?_ GE381.out | refine below_set ?_ GE382.out | refine below_set ?_ GE387.out | refine below_set ?_ GE388.out) | exact HB.out)⟩⟩
      ·replace c217 := Bool.eq_false_iff.mpr c217
       subst c217
       have H1 : (jalousielaw02_LabelLattice.j1 kj9 true a0_0 a0_1 a1_0 a1_1 a2_0 a2_1 t385 t386) = some r := by rw [if_neg (show ¬ (false = true) by decide)] at H; exact H
       clear H; have H := H1; clear H1
       have H9_ := H.trans (congrArg some hr_.out)
       clear H
       exfalso
       repeat' (first | (exact jalousielaw02_LabelLattice.no_j0 H9_) | (exact jalousielaw02_LabelLattice.no_j1 H9_) | (exact jalousielaw02_LabelLattice.no_j2 H9_) | (exact absurd H9_ (by decide)) | (exact absurd rfl (by assumption)) | (obtain ⟨_, _, H9_⟩ := Option.bind_eq_some_iff.mp H9_) | (rw [if_pos rfl] at H9_) | split at H9_ | (unfold jalousielaw02_LabelLattice.j0 at H9_; split at H9_) | (unfold jalousielaw02_LabelLattice.j1 at H9_; split at H9_))
     ·replace c215 := Bool.eq_false_iff.mpr c215
      subst c215
      have H1 : (jalousielaw02_LabelLattice.j1 kj9 true a0_0 a0_1 a1_0 a1_1 a2_0 a2_1 t385 t386) = some r := by rw [if_neg (show ¬ (false = true) by decide)] at H; exact H
      clear H; have H := H1; clear H1
      have H9_ := H.trans (congrArg some hr_.out)
      clear H
      exfalso
      repeat' (first | (exact jalousielaw02_LabelLattice.no_j0 H9_) | (exact jalousielaw02_LabelLattice.no_j1 H9_) | (exact jalousielaw02_LabelLattice.no_j2 H9_) | (exact absurd H9_ (by decide)) | (exact absurd rfl (by assumption)) | (obtain ⟨_, _, H9_⟩ := Option.bind_eq_some_iff.mp H9_) | (rw [if_pos rfl] at H9_) | split at H9_ | (unfold jalousielaw02_LabelLattice.j0 at H9_; split at H9_) | (unfold jalousielaw02_LabelLattice.j1 at H9_; split at H9_))
    case rest =>
     clear HC213
     (try clear c1); (try clear c2); (try clear p2 p2); (try clear c3); (try clear c4); (try clear c5); (try clear c6); (try clear c7); (try clear c8); (try clear c9); (try clear c10); (try clear c11); (try clear c12); (try clear c13); (try clear c14); (try clear c15); (try clear c16); (try clear c17); (try clear c18); (try clear c19); (try clear c20); (try clear c21); (try clear c22); (try clear c23); (try clear c24); (try clear c25); (try clear c26); (try clear c27); (try clear c27b0); (try clear c28); (try clear c30); (try clear c32); (try clear c33); (try clear c34); (try clear c35); (try clear c39); (try clear c40); (try clear c41); (try clear c43); (try clear c51); (try clear c52); (try clear c58); (try clear c59); (try clear c60); (try clear c61); (try clear c65); (try clear c66); (try clear c67); (try clear c77); (try clear c78); (try clear c81); (try clear c82); (try clear c83); (try clear c84); (try clear c88); (try clear c89); (try clear c90); (try clear c99); (try clear c101); (try clear c103); (try clear c104); (try clear c105); (try clear c106); (try clear c110); (try clear c111); (try clear c112); (try clear c122); (try clear c123); (try clear c129); (try clear c130); (try clear c131); (try clear c132); (try clear c136); (try clear c137); (try clear c138); (try clear c148); (try clear c149); (try clear c152); (try clear c153); (try clear c154); (try clear c155); (try clear c159); (try clear c160); (try clear c161); (try clear c170); (try clear c172); (try clear c174); (try clear c175); (try clear c176); (try clear c177); (try clear c181); (try clear c182); (try clear c183); (try clear c190); (try clear c191); (try clear c197); (try clear c198); (try clear c199); (try clear c200); (try clear c204); (try clear c205); (try clear c206); (try clear c212); (try clear c215); (try clear c217); (try clear c219); (try clear c221); (try clear c223); (try clear c224); (try clear c225); (try clear c226); (try clear c228); (try clear c229); (try clear c230); (try clear c233); (try clear c234); (try clear c239); (try clear c248); (try clear c249); (try clear c250); (try clear c251); (try clear c253); (try clear c254); (try clear c255); (try clear c258); (try clear c259); (try clear c264); (try clear c270); (try clear c271); (try clear c272); (try clear c273); (try clear c275); (try clear c276); (try clear c277); (try clear c280); (try clear c281); (try clear c286); (try clear hcz107_0 hcz107_1 hfz107_0 hfz107_1); (try clear hcz109_0 hcz109_1 hfz109_0 hfz109_1); (try clear hcz113_0 hcz113_1 hfz113_0 hfz113_1); (try clear hcz115_0 hcz115_1 hfz115_0 hfz115_1); (try clear hcz116_0 hcz116_1 hfz116_0 hfz116_1); (try clear hcz118_0 hcz118_1 hfz118_0 hfz118_1); (try clear hcz119_0 hcz119_1 hfz119_0 hfz119_1); (try clear hcz121_0 hcz121_1 hfz121_0 hfz121_1); (try clear hcz124_0 hcz124_1 hfz124_0 hfz124_1); (try clear hcz126_0 hcz126_1 hfz126_0 hfz126_1); (try clear hcz127_0 hcz127_1 hfz127_0 hfz127_1); (try clear hcz133_0 hcz133_1 hfz133_0 hfz133_1); (try clear hcz135_0 hcz135_1 hfz135_0 hfz135_1); (try clear hcz139_0 hcz139_1 hfz139_0 hfz139_1); (try clear hcz141_0 hcz141_1 hfz141_0 hfz141_1); (try clear hcz142_0 hcz142_1 hfz142_0 hfz142_1); (try clear hcz144_0 hcz144_1 hfz144_0 hfz144_1); (try clear hcz145_0 hcz145_1 hfz145_0 hfz145_1); (try clear hcz147_0 hcz147_1 hfz147_0 hfz147_1); (try clear hcz150_0 hcz150_1 hfz150_0 hfz150_1); (try clear hcz156_0 hcz156_1 hfz156_0 hfz156_1); (try clear hcz158_0 hcz158_1 hfz158_0 hfz158_1); (try clear hcz162_0 hcz162_1 hfz162_0 hfz162_1); (try clear hcz164_0 hcz164_1 hfz164_0 hfz164_1); (try clear hcz165_0 hcz165_1 hfz165_0 hfz165_1); (try clear hcz167_0 hcz167_1 hfz167_0 hfz167_1); (try clear hcz168_0 hcz168_1 hfz168_0 hfz168_1); (try clear hcz178_0 hcz178_1 hfz178_0 hfz178_1); (try clear hcz180_0 hcz180_1 hfz180_0 hfz180_1); (try clear hcz184_0 hcz184_1 hfz184_0 hfz184_1); (try clear hcz186_0 hcz186_1 hfz186_0 hfz186_1); (try clear hcz187_0 hcz187_1 hfz187_0 hfz187_1); (try clear hcz189_0 hcz189_1 hfz189_0 hfz189_1); (try clear hcz192_0 hcz192_1 hfz192_0 hfz192_1); (try clear hcz194_0 hcz194_1 hfz194_0 hfz194_1); (try clear hcz195_0 hcz195_1 hfz195_0 hfz195_1); (try clear hcz201_0 hcz201_1 hfz201_0 hfz201_1); (try clear hcz203_0 hcz203_1 hfz203_0 hfz203_1); (try clear hcz207_0 hcz207_1 hfz207_0 hfz207_1); (try clear hcz209_0 hcz209_1 hfz209_0 hfz209_1); (try clear hcz210_0 hcz210_1 hfz210_0 hfz210_1); (try clear hcz227_0 hcz227_1 hfz227_0 hfz227_1); (try clear hcz231_0 hcz231_1 hfz231_0 hfz231_1); (try clear hcz235_0 hcz235_1 hfz235_0 hfz235_1); (try clear hcz236_0 hcz236_1 hfz236_0 hfz236_1); (try clear hcz238_0 hcz238_1 hfz238_0 hfz238_1); (try clear hcz240_0 hcz240_1 hfz240_0 hfz240_1); (try clear hcz242_0 hcz242_1 hfz242_0 hfz242_1); (try clear hcz243_0 hcz243_1 hfz243_0 hfz243_1); (try clear hcz245_0 hcz245_1 hfz245_0 hfz245_1); (try clear hcz246_0 hcz246_1 hfz246_0 hfz246_1); (try clear hcz252_0 hcz252_1 hfz252_0 hfz252_1); (try clear hcz256_0 hcz256_1 hfz256_0 hfz256_1); (try clear hcz260_0 hcz260_1 hfz260_0 hfz260_1); (try clear hcz261_0 hcz261_1 hfz261_0 hfz261_1); (try clear hcz263_0 hcz263_1 hfz263_0 hfz263_1); (try clear hcz265_0 hcz265_1 hfz265_0 hfz265_1); (try clear hcz267_0 hcz267_1 hfz267_0 hfz267_1); (try clear hcz268_0 hcz268_1 hfz268_0 hfz268_1); (try clear hcz274_0 hcz274_1 hfz274_0 hfz274_1); (try clear hcz278_0 hcz278_1 hfz278_0 hfz278_1); (try clear hcz282_0 hcz282_1 hfz282_0 hfz282_1); (try clear hcz283_0 hcz283_1 hfz283_0 hfz283_1); (try clear hcz285_0 hcz285_1 hfz285_0 hfz285_1); (try clear hcz287_0 hcz287_1 hfz287_0 hfz287_1); (try clear hcz36_0 hcz36_1 hfz36_0 hfz36_1); (try clear hcz38_0 hcz38_1 hfz38_0 hfz38_1); (try clear hcz42_0 hcz42_1 hfz42_0 hfz42_1); (try clear hcz44_0 hcz44_1 hfz44_0 hfz44_1); (try clear hcz45_0 hcz45_1 hfz45_0 hfz45_1); (try clear hcz47_0 hcz47_1 hfz47_0 hfz47_1); (try clear hcz48_0 hcz48_1 hfz48_0 hfz48_1); (try clear hcz50_0 hcz50_1 hfz50_0 hfz50_1); (try clear hcz53_0 hcz53_1 hfz53_0 hfz53_1); (try clear hcz55_0 hcz55_1 hfz55_0 hfz55_1); (try clear hcz56_0 hcz56_1 hfz56_0 hfz56_1); (try clear hcz62_0 hcz62_1 hfz62_0 hfz62_1); (try clear hcz64_0 hcz64_1 hfz64_0 hfz64_1); (try clear hcz68_0 hcz68_1 hfz68_0 hfz68_1); (try clear hcz70_0 hcz70_1 hfz70_0 hfz70_1); (try clear hcz71_0 hcz71_1 hfz71_0 hfz71_1); (try clear hcz73_0 hcz73_1 hfz73_0 hfz73_1); (try clear hcz74_0 hcz74_1 hfz74_0 hfz74_1); (try clear hcz76_0 hcz76_1 hfz76_0 hfz76_1); (try clear hcz79_0 hcz79_1 hfz79_0 hfz79_1); (try clear hcz85_0 hcz85_1 hfz85_0 hfz85_1); (try clear hcz87_0 hcz87_1 hfz87_0 hfz87_1); (try clear hcz91_0 hcz91_1 hfz91_0 hfz91_1); (try clear hcz93_0 hcz93_1 hfz93_0 hfz93_1); (try clear hcz94_0 hcz94_1 hfz94_0 hfz94_1); (try clear hcz96_0 hcz96_1 hfz96_0 hfz96_1); (try clear hcz97_0 hcz97_1 hfz97_0 hfz97_1)
     obtain ⟨kq, x75_212, rfl, HA, HJ212, BK380, BK381, BK382, BK387, BK388, HB⟩ := hcut
     cases kq with
     | zero => exact absurd HA.out (by simp [jalousielaw02_LabelLattice.j1])
     | succ kj212 =>
      have H := HA.out
      clear HA
      simp only [jalousielaw02_LabelLattice.j1] at H
      by_cases c289 : x75_212 = true
      ·subst c289
       have H1 : (some false) = some r := by rw [if_pos rfl] at H; exact H
       clear H; have H := H1; clear H1
       have H9_ := H.trans (congrArg some hr_.out)
       clear H
       exfalso
       repeat' (first | (exact jalousielaw02_LabelLattice.no_j0 H9_) | (exact jalousielaw02_LabelLattice.no_j1 H9_) | (exact jalousielaw02_LabelLattice.no_j2 H9_) | (exact absurd H9_ (by decide)) | (exact absurd rfl (by assumption)) | (obtain ⟨_, _, H9_⟩ := Option.bind_eq_some_iff.mp H9_) | (rw [if_pos rfl] at H9_) | split at H9_ | (unfold jalousielaw02_LabelLattice.j0 at H9_; split at H9_) | (unfold jalousielaw02_LabelLattice.j1 at H9_; split at H9_))
      ·replace c289 := Bool.eq_false_iff.mpr c289
       subst c289
       have H1 : ((label_Below.f t385 t386 a0_0 a0_1).bind fun t406 => (if t406 = true then ((label_Below.f t385 t386 a1_0 a1_1).bind fun t407 => (if t407 = true then ((label_Below.f a2_0 a2_1 a0_0 a0_1).bind fun t408 => (if t408 = true then ((label_Below.f a2_0 a2_1 a1_0 a1_1).bind fun t409 => (if t409 = true then ((label_Below.f a2_0 a2_1 t385 t386).bind fun t410 => (jalousielaw02_LabelLattice.j2 kj212 (!t410) a0_0 a0_1)) else (jalousielaw02_LabelLattice.j2 kj212 false a0_0 a0_1))) else (jalousielaw02_LabelLattice.j2 kj212 false a0_0 a0_1))) else (jalousielaw02_LabelLattice.j2 kj212 true a0_0 a0_1))) else (jalousielaw02_LabelLattice.j2 kj212 true a0_0 a0_1))) = some r := by rw [if_neg (show ¬ (false = true) by decide)] at H; exact H
       clear H; have H := H1; clear H1
       have HC290 := Aside0.mk H
       clear H
       go_upto_region 6 with (fail)
       go_cut [101] (fun v101 wc => ∃ (kq : Nat) (x101_289 : Bool), v101 = .bool x101_289 ∧ Aside0 (jalousielaw02_LabelLattice.j2 kq x101_289 a0_0 a0_1 = some r) ∧ Aside0 (kq ≤ kj212) ∧ Aside0 (wc.heap[gb380]? = some (.cells #[.int .i64 a0_0, .int .u64 a0_1] 40 (0, 0))) ∧ Aside0 (wc.heap[gb381]? = some (.cells #[.int .i64 a1_0, .int .u64 a1_1] 40 (0, 0))) ∧ Aside0 (wc.heap[gb382]? = some (.cells #[.int .i64 a2_0, .int .u64 a2_1] 40 (0, 0))) ∧ Aside0 (wc.heap[gb387]? = some (.cells #[.int .i64 t383, .int .u64 t384] 40 (0, 0))) ∧ Aside0 (wc.heap[gb388]? = some (.cells #[.int .i64 t385, .int .u64 t386] 40 (0, 0))) ∧ Aside0 (Below w.heap.size w wc))
       case first =>
        have H := HC290.out
        clear HC290
        replace H := Option.bind_eq_some_iff.mp H
        obtain ⟨t406, A2910, H⟩ := H
        replace H : (if t406 = true then ((label_Below.f t385 t386 a1_0 a1_1).bind fun t407 => (if t407 = true then ((label_Below.f a2_0 a2_1 a0_0 a0_1).bind fun t408 => (if t408 = true then ((label_Below.f a2_0 a2_1 a1_0 a1_1).bind fun t409 => (if t409 = true then ((label_Below.f a2_0 a2_1 t385 t386).bind fun t410 => (jalousielaw02_LabelLattice.j2 kj212 (!t410) a0_0 a0_1)) else (jalousielaw02_LabelLattice.j2 kj212 false a0_0 a0_1))) else (jalousielaw02_LabelLattice.j2 kj212 false a0_0 a0_1))) else (jalousielaw02_LabelLattice.j2 kj212 true a0_0 a0_1))) else (jalousielaw02_LabelLattice.j2 kj212 true a0_0 a0_1)) = some r := H
        have A291 := Aside0.mk A2910
        clear A2910
        by_cases c292 : t406 = true
        ·subst c292
         have H1 : ((label_Below.f t385 t386 a1_0 a1_1).bind fun t407 => (if t407 = true then ((label_Below.f a2_0 a2_1 a0_0 a0_1).bind fun t408 => (if t408 = true then ((label_Below.f a2_0 a2_1 a1_0 a1_1).bind fun t409 => (if t409 = true then ((label_Below.f a2_0 a2_1 t385 t386).bind fun t410 => (jalousielaw02_LabelLattice.j2 kj212 (!t410) a0_0 a0_1)) else (jalousielaw02_LabelLattice.j2 kj212 false a0_0 a0_1))) else (jalousielaw02_LabelLattice.j2 kj212 false a0_0 a0_1))) else (jalousielaw02_LabelLattice.j2 kj212 true a0_0 a0_1))) = some r := by rw [if_pos rfl] at H; exact H
         clear H; have H := H1; clear H1
         replace H := Option.bind_eq_some_iff.mp H
         obtain ⟨t407, A2930, H⟩ := H
         replace H : (if t407 = true then ((label_Below.f a2_0 a2_1 a0_0 a0_1).bind fun t408 => (if t408 = true then ((label_Below.f a2_0 a2_1 a1_0 a1_1).bind fun t409 => (if t409 = true then ((label_Below.f a2_0 a2_1 t385 t386).bind fun t410 => (jalousielaw02_LabelLattice.j2 kj212 (!t410) a0_0 a0_1)) else (jalousielaw02_LabelLattice.j2 kj212 false a0_0 a0_1))) else (jalousielaw02_LabelLattice.j2 kj212 false a0_0 a0_1))) else (jalousielaw02_LabelLattice.j2 kj212 true a0_0 a0_1)) = some r := H
         have A293 := Aside0.mk A2930
         clear A2930
         by_cases c294 : t407 = true
         ·subst c294
          have H1 : ((label_Below.f a2_0 a2_1 a0_0 a0_1).bind fun t408 => (if t408 = true then ((label_Below.f a2_0 a2_1 a1_0 a1_1).bind fun t409 => (if t409 = true then ((label_Below.f a2_0 a2_1 t385 t386).bind fun t410 => (jalousielaw02_LabelLattice.j2 kj212 (!t410) a0_0 a0_1)) else (jalousielaw02_LabelLattice.j2 kj212 false a0_0 a0_1))) else (jalousielaw02_LabelLattice.j2 kj212 false a0_0 a0_1))) = some r := by rw [if_pos rfl] at H; exact H
          clear H; have H := H1; clear H1
          replace H := Option.bind_eq_some_iff.mp H
          obtain ⟨t408, A2950, H⟩ := H
          replace H : (if t408 = true then ((label_Below.f a2_0 a2_1 a1_0 a1_1).bind fun t409 => (if t409 = true then ((label_Below.f a2_0 a2_1 t385 t386).bind fun t410 => (jalousielaw02_LabelLattice.j2 kj212 (!t410) a0_0 a0_1)) else (jalousielaw02_LabelLattice.j2 kj212 false a0_0 a0_1))) else (jalousielaw02_LabelLattice.j2 kj212 false a0_0 a0_1)) = some r := H
          have A295 := Aside0.mk A2950
          clear A2950
          by_cases c296 : t408 = true
          ·subst c296
           have H1 : ((label_Below.f a2_0 a2_1 a1_0 a1_1).bind fun t409 => (if t409 = true then ((label_Below.f a2_0 a2_1 t385 t386).bind fun t410 => (jalousielaw02_LabelLattice.j2 kj212 (!t410) a0_0 a0_1)) else (jalousielaw02_LabelLattice.j2 kj212 false a0_0 a0_1))) = some r := by rw [if_pos rfl] at H; exact H
           clear H; have H := H1; clear H1
           replace H := Option.bind_eq_some_iff.mp H
           obtain ⟨t409, A2970, H⟩ := H
           replace H : (if t409 = true then ((label_Below.f a2_0 a2_1 t385 t386).bind fun t410 => (jalousielaw02_LabelLattice.j2 kj212 (!t410) a0_0 a0_1)) else (jalousielaw02_LabelLattice.j2 kj212 false a0_0 a0_1)) = some r := H
           have A297 := Aside0.mk A2970
           clear A2970
           by_cases c298 : t409 = true
           ·subst c298
            have H1 : ((label_Below.f a2_0 a2_1 t385 t386).bind fun t410 => (jalousielaw02_LabelLattice.j2 kj212 (!t410) a0_0 a0_1)) = some r := by rw [if_pos rfl] at H; exact H
            clear H; have H := H1; clear H1
            replace H := Option.bind_eq_some_iff.mp H
            obtain ⟨t410, A2990, H⟩ := H
            replace H : (jalousielaw02_LabelLattice.j2 kj212 (!t410) a0_0 a0_1) = some r := H
            have A299 := Aside0.mk A2990
            clear A2990
            have H' := Aside0.mk H
            clear H
            have hnb300 := NB388_380.out
            have hnc300 := NB380_388.out
            have hnb301 := NB388_381.out
            have hnc301 := NB381_388.out
            have hnb302 := NB388_382.out
            have hnc302 := NB382_388.out
            have hnb303 := NB388_387.out
            have hnc303 := NB387_388.out
            have hcz304_0 : wc.cell? ⟨gb388, 0, none⟩ = some (.int .i64 t385) := (blk_cell BK388.out 0).trans rfl
            have hcz304_1 : wc.cell? ⟨gb388, 1, none⟩ = some (.int .u64 t386) := (blk_cell BK388.out 1).trans rfl
            have hfz304_0 := blk_frozen BK388.out 0
            have hfz304_1 := blk_frozen BK388.out 1
            have hnb305 := NB380_381.out
            have hnc305 := NB381_380.out
            have hnb306 := NB380_382.out
            have hnc306 := NB382_380.out
            have hnb307 := NB380_387.out
            have hnc307 := NB387_380.out
            have hcz308_0 : wc.cell? ⟨gb380, 0, none⟩ = some (.int .i64 a0_0) := (blk_cell BK380.out 0).trans rfl
            have hcz308_1 : wc.cell? ⟨gb380, 1, none⟩ = some (.int .u64 a0_1) := (blk_cell BK380.out 1).trans rfl
            have hfz308_0 := blk_frozen BK380.out 0
            have hfz308_1 := blk_frozen BK380.out 1
            go_wp2_with (first | ((with_reducible refine gate_callee (f := 43) rfl ?_); refine goesL_ (some 78) rfl rfl Tryd.func43 (by kernel_rfl) rfl #[.agg #[.int .i64 t385, .int .u64 t386], .agg #[.int .i64 a0_0, .int .u64 a0_1]] rfl (by (try simp only [List.map_toArray, List.map_cons, List.map_nil]); first | done | rfl | (simp only [List.length_drop, List.length_take]; rfl)) ?_; (with_reducible refine (label_Below.calls t385 t386 a0_0 a0_1 true _ A291.out).mono ?_); rintro e w309 ⟨rfl, hb⟩; refine ⟨_, rfl, ?_⟩; replace BK380 := bb_ BK380 hb; replace BK381 := bb_ BK381 hb; replace BK382 := bb_ BK382 hb; replace BK387 := bb_ BK387 hb; replace BK388 := bb_ BK388 hb; replace HB := Aside0.mk (below_b hb); (try clear hb); obtain ⟨hcz310_0, hcz310_1, hfz310_0, hfz310_1⟩ := cf_ BK388; have hnb311 := NB381_382.out; have hnc311 := NB382_381.out; have hnb312 := NB381_387.out; have hnc312 := NB387_381.out; obtain ⟨hcz313_0, hcz313_1, hfz313_0, hfz313_1⟩ := cf_ BK381) | (go_at_call 43; (with_reducible refine (label_Below.calls t385 t386 a1_0 a1_1 true _ A293.out).mono ?_); rintro e w314 ⟨rfl, hb⟩; replace BK380 := bb_ BK380 hb; replace BK381 := bb_ BK381 hb; replace BK382 := bb_ BK382 hb; replace BK387 := bb_ BK387 hb; replace BK388 := bb_ BK388 hb; replace HB := Aside0.mk (below_b hb); (try clear hb); have hnb315 := NB382_387.out; have hnc315 := NB387_382.out; obtain ⟨hcz316_0, hcz316_1, hfz316_0, hfz316_1⟩ := cf_ BK382; obtain ⟨hcz317_0, hcz317_1, hfz317_0, hfz317_1⟩ := cf_ BK380) | (go_at_call 43; (with_reducible refine (label_Below.calls a2_0 a2_1 a0_0 a0_1 true _ A295.out).mono ?_); rintro e w318 ⟨rfl, hb⟩; replace BK380 := bb_ BK380 hb; replace BK381 := bb_ BK381 hb; replace BK382 := bb_ BK382 hb; replace BK387 := bb_ BK387 hb; replace BK388 := bb_ BK388 hb; replace HB := Aside0.mk (below_b hb); (try clear hb); obtain ⟨hcz319_0, hcz319_1, hfz319_0, hfz319_1⟩ := cf_ BK382; obtain ⟨hcz320_0, hcz320_1, hfz320_0, hfz320_1⟩ := cf_ BK381) | (go_at_call 43; (with_reducible refine (label_Below.calls a2_0 a2_1 a1_0 a1_1 true _ A297.out).mono ?_); rintro e w321 ⟨rfl, hb⟩; replace BK380 := bb_ BK380 hb; replace BK381 := bb_ BK381 hb; replace BK382 := bb_ BK382 hb; replace BK387 := bb_ BK387 hb; replace BK388 := bb_ BK388 hb; replace HB := Aside0.mk (below_b hb); (try clear hb); obtain ⟨hcz322_0, hcz322_1, hfz322_0, hfz322_1⟩ := cf_ BK382; obtain ⟨hcz323_0, hcz323_1, hfz323_0, hfz323_1⟩ := cf_ BK388) | (go_at_call 43; (with_reducible refine (label_Below.calls a2_0 a2_1 t385 t386 t410 _ A299.out).mono ?_); rintro e w324 ⟨rfl, hb⟩; replace BK380 := bb_ BK380 hb; replace BK381 := bb_ BK381 hb; replace BK382 := bb_ BK382 hb; replace BK387 := bb_ BK387 hb; replace BK388 := bb_ BK388 hb; replace HB := Aside0.mk (below_b hb); (try clear hb)))
            go_meet
            case rel => exact ⟨_, (!t410), (by first | rfl | (simp; done) | (simp [*]; done)), H', ⟨by have := HJ9.out; have := HJ212.out; first | omega | exact Nat.le_refl _⟩, ⟨bd_ BK380⟩, ⟨bd_ BK381⟩, ⟨bd_ BK382⟩, ⟨bd_ BK387⟩, ⟨bd_ BK388⟩, ⟨by repeat (first | (with_reducible first | exact HB.out | apply below_alloc | apply pw_below_drewN | apply below_drew1 | refine below_set ?_ GE380.out | refine below_set ?_ GE381.out | refine below_set ?_ GE382.out | refine below_set ?_ GE387.out | refine below_set ?_ GE388.out) | exact HB.out)⟩⟩
           ·replace c298 := Bool.eq_false_iff.mpr c298
            subst c298
            have H1 : (jalousielaw02_LabelLattice.j2 kj212 false a0_0 a0_1) = some r := by rw [if_neg (show ¬ (false = true) by decide)] at H; exact H
            clear H; have H := H1; clear H1
            have H' := Aside0.mk H
            clear H
            have hnb325 := NB388_380.out
            have hnc325 := NB380_388.out
            have hnb326 := NB388_381.out
            have hnc326 := NB381_388.out
            have hnb327 := NB388_382.out
            have hnc327 := NB382_388.out
            have hnb328 := NB388_387.out
            have hnc328 := NB387_388.out
            have hcz329_0 : wc.cell? ⟨gb388, 0, none⟩ = some (.int .i64 t385) := (blk_cell BK388.out 0).trans rfl
            have hcz329_1 : wc.cell? ⟨gb388, 1, none⟩ = some (.int .u64 t386) := (blk_cell BK388.out 1).trans rfl
            have hfz329_0 := blk_frozen BK388.out 0
            have hfz329_1 := blk_frozen BK388.out 1
            have hnb330 := NB380_381.out
            have hnc330 := NB381_380.out
            have hnb331 := NB380_382.out
            have hnc331 := NB382_380.out
            have hnb332 := NB380_387.out
            have hnc332 := NB387_380.out
            have hcz333_0 : wc.cell? ⟨gb380, 0, none⟩ = some (.int .i64 a0_0) := (blk_cell BK380.out 0).trans rfl
            have hcz333_1 : wc.cell? ⟨gb380, 1, none⟩ = some (.int .u64 a0_1) := (blk_cell BK380.out 1).trans rfl
            have hfz333_0 := blk_frozen BK380.out 0
            have hfz333_1 := blk_frozen BK380.out 1
            go_wp2_with (first | ((with_reducible refine gate_callee (f := 43) rfl ?_); refine goesL_ (some 78) rfl rfl Tryd.func43 (by kernel_rfl) rfl #[.agg #[.int .i64 t385, .int .u64 t386], .agg #[.int .i64 a0_0, .int .u64 a0_1]] rfl (by (try simp only [List.map_toArray, List.map_cons, List.map_nil]); first | done | rfl | (simp only [List.length_drop, List.length_take]; rfl)) ?_; (with_reducible refine (label_Below.calls t385 t386 a0_0 a0_1 true _ A291.out).mono ?_); rintro e w334 ⟨rfl, hb⟩; refine ⟨_, rfl, ?_⟩; replace BK380 := bb_ BK380 hb; replace BK381 := bb_ BK381 hb; replace BK382 := bb_ BK382 hb; replace BK387 := bb_ BK387 hb; replace BK388 := bb_ BK388 hb; replace HB := Aside0.mk (below_b hb); (try clear hb); obtain ⟨hcz335_0, hcz335_1, hfz335_0, hfz335_1⟩ := cf_ BK388; have hnb336 := NB381_382.out; have hnc336 := NB382_381.out; have hnb337 := NB381_387.out; have hnc337 := NB387_381.out; obtain ⟨hcz338_0, hcz338_1, hfz338_0, hfz338_1⟩ := cf_ BK381) | (go_at_call 43; (with_reducible refine (label_Below.calls t385 t386 a1_0 a1_1 true _ A293.out).mono ?_); rintro e w339 ⟨rfl, hb⟩; replace BK380 := bb_ BK380 hb; replace BK381 := bb_ BK381 hb; replace BK382 := bb_ BK382 hb; replace BK387 := bb_ BK387 hb; replace BK388 := bb_ BK388 hb; replace HB := Aside0.mk (below_b hb); (try clear hb); have hnb340 := NB382_387.out; have hnc340 := NB387_382.out; obtain ⟨hcz341_0, hcz341_1, hfz341_0, hfz341_1⟩ := cf_ BK382; obtain ⟨hcz342_0, hcz342_1, hfz342_0, hfz342_1⟩ := cf_ BK380) | (go_at_call 43; (with_reducible refine (label_Below.calls a2_0 a2_1 a0_0 a0_1 true _ A295.out).mono ?_); rintro e w343 ⟨rfl, hb⟩; replace BK380 := bb_ BK380 hb; replace BK381 := bb_ BK381 hb; replace BK382 := bb_ BK382 hb; replace BK387 := bb_ BK387 hb; replace BK388 := bb_ BK388 hb; replace HB := Aside0.mk (below_b hb); (try clear hb); obtain ⟨hcz344_0, hcz344_1, hfz344_0, hfz344_1⟩ := cf_ BK382; obtain ⟨hcz345_0, hcz345_1, hfz345_0, hfz345_1⟩ := cf_ BK381) | (go_at_call 43; (with_reducible refine (label_Below.calls a2_0 a2_1 a1_0 a1_1 false _ A297.out).mono ?_); rintro e w346 ⟨rfl, hb⟩; replace BK380 := bb_ BK380 hb; replace BK381 := bb_ BK381 hb; replace BK382 := bb_ BK382 hb; replace BK387 := bb_ BK387 hb; replace BK388 := bb_ BK388 hb; replace HB := Aside0.mk (below_b hb); (try clear hb)))
            go_meet
            case rel => exact ⟨_, (false), (by first | rfl | (simp; done) | (simp [*]; done)), H', ⟨by have := HJ9.out; have := HJ212.out; first | omega | exact Nat.le_refl _⟩, ⟨bd_ BK380⟩, ⟨bd_ BK381⟩, ⟨bd_ BK382⟩, ⟨bd_ BK387⟩, ⟨bd_ BK388⟩, ⟨by repeat (first | (with_reducible first | exact HB.out | apply below_alloc | apply pw_below_drewN | apply below_drew1 | refine below_set ?_ GE380.out | refine below_set ?_ GE381.out | refine below_set ?_ GE382.out | refine below_set ?_ GE387.out | refine below_set ?_ GE388.out) | exact HB.out)⟩⟩
          ·replace c296 := Bool.eq_false_iff.mpr c296
           subst c296
           have H1 : (jalousielaw02_LabelLattice.j2 kj212 false a0_0 a0_1) = some r := by rw [if_neg (show ¬ (false = true) by decide)] at H; exact H
           clear H; have H := H1; clear H1
           have H' := Aside0.mk H
           clear H
           have hnb347 := NB388_380.out
           have hnc347 := NB380_388.out
           have hnb348 := NB388_381.out
           have hnc348 := NB381_388.out
           have hnb349 := NB388_382.out
           have hnc349 := NB382_388.out
           have hnb350 := NB388_387.out
           have hnc350 := NB387_388.out
           have hcz351_0 : wc.cell? ⟨gb388, 0, none⟩ = some (.int .i64 t385) := (blk_cell BK388.out 0).trans rfl
           have hcz351_1 : wc.cell? ⟨gb388, 1, none⟩ = some (.int .u64 t386) := (blk_cell BK388.out 1).trans rfl
           have hfz351_0 := blk_frozen BK388.out 0
           have hfz351_1 := blk_frozen BK388.out 1
           have hnb352 := NB380_381.out
           have hnc352 := NB381_380.out
           have hnb353 := NB380_382.out
           have hnc353 := NB382_380.out
           have hnb354 := NB380_387.out
           have hnc354 := NB387_380.out
           have hcz355_0 : wc.cell? ⟨gb380, 0, none⟩ = some (.int .i64 a0_0) := (blk_cell BK380.out 0).trans rfl
           have hcz355_1 : wc.cell? ⟨gb380, 1, none⟩ = some (.int .u64 a0_1) := (blk_cell BK380.out 1).trans rfl
           have hfz355_0 := blk_frozen BK380.out 0
           have hfz355_1 := blk_frozen BK380.out 1
           go_wp2_with (first | ((with_reducible refine gate_callee (f := 43) rfl ?_); refine goesL_ (some 78) rfl rfl Tryd.func43 (by kernel_rfl) rfl #[.agg #[.int .i64 t385, .int .u64 t386], .agg #[.int .i64 a0_0, .int .u64 a0_1]] rfl (by (try simp only [List.map_toArray, List.map_cons, List.map_nil]); first | done | rfl | (simp only [List.length_drop, List.length_take]; rfl)) ?_; (with_reducible refine (label_Below.calls t385 t386 a0_0 a0_1 true _ A291.out).mono ?_); rintro e w356 ⟨rfl, hb⟩; refine ⟨_, rfl, ?_⟩; replace BK380 := bb_ BK380 hb; replace BK381 := bb_ BK381 hb; replace BK382 := bb_ BK382 hb; replace BK387 := bb_ BK387 hb; replace BK388 := bb_ BK388 hb; replace HB := Aside0.mk (below_b hb); (try clear hb); obtain ⟨hcz357_0, hcz357_1, hfz357_0, hfz357_1⟩ := cf_ BK388; have hnb358 := NB381_382.out; have hnc358 := NB382_381.out; have hnb359 := NB381_387.out; have hnc359 := NB387_381.out; obtain ⟨hcz360_0, hcz360_1, hfz360_0, hfz360_1⟩ := cf_ BK381) | (go_at_call 43; (with_reducible refine (label_Below.calls t385 t386 a1_0 a1_1 true _ A293.out).mono ?_); rintro e w361 ⟨rfl, hb⟩; replace BK380 := bb_ BK380 hb; replace BK381 := bb_ BK381 hb; replace BK382 := bb_ BK382 hb; replace BK387 := bb_ BK387 hb; replace BK388 := bb_ BK388 hb; replace HB := Aside0.mk (below_b hb); (try clear hb); have hnb362 := NB382_387.out; have hnc362 := NB387_382.out; obtain ⟨hcz363_0, hcz363_1, hfz363_0, hfz363_1⟩ := cf_ BK382; obtain ⟨hcz364_0, hcz364_1, hfz364_0, hfz364_1⟩ := cf_ BK380) | (go_at_call 43; (with_reducible refine (label_Below.calls a2_0 a2_1 a0_0 a0_1 false _ A295.out).mono ?_); rintro e w365 ⟨rfl, hb⟩; replace BK380 := bb_ BK380 hb; replace BK381 := bb_ BK381 hb; replace BK382 := bb_ BK382 hb; replace BK387 := bb_ BK387 hb; replace BK388 := bb_ BK388 hb; replace HB := Aside0.mk (below_b hb); (try clear hb)))
           go_meet
           case rel => exact ⟨_, (false), (by first | rfl | (simp; done) | (simp [*]; done)), H', ⟨by have := HJ9.out; have := HJ212.out; first | omega | exact Nat.le_refl _⟩, ⟨bd_ BK380⟩, ⟨bd_ BK381⟩, ⟨bd_ BK382⟩, ⟨bd_ BK387⟩, ⟨bd_ BK388⟩, ⟨by repeat (first | (with_reducible first | exact HB.out | apply below_alloc | apply pw_below_drewN | apply below_drew1 | refine below_set ?_ GE380.out | refine below_set ?_ GE381.out | refine below_set ?_ GE382.out | refine below_set ?_ GE387.out | refine below_set ?_ GE388.out) | exact HB.out)⟩⟩
         ·replace c294 := Bool.eq_false_iff.mpr c294
          subst c294
          have H1 : (jalousielaw02_LabelLattice.j2 kj212 true a0_0 a0_1) = some r := by rw [if_neg (show ¬ (false = true) by decide)] at H; exact H
          clear H; have H := H1; clear H1
          have H9_ := H.trans (congrArg some hr_.out)
          clear H
          exfalso
          repeat' (first | (exact jalousielaw02_LabelLattice.no_j0 H9_) | (exact jalousielaw02_LabelLattice.no_j1 H9_) | (exact jalousielaw02_LabelLattice.no_j2 H9_) | (exact absurd H9_ (by decide)) | (exact absurd rfl (by assumption)) | (obtain ⟨_, _, H9_⟩ := Option.bind_eq_some_iff.mp H9_) | (rw [if_pos rfl] at H9_) | split at H9_ | (unfold jalousielaw02_LabelLattice.j0 at H9_; split at H9_) | (unfold jalousielaw02_LabelLattice.j1 at H9_; split at H9_) | (unfold jalousielaw02_LabelLattice.j2 at H9_; split at H9_))
        ·replace c292 := Bool.eq_false_iff.mpr c292
         subst c292
         have H1 : (jalousielaw02_LabelLattice.j2 kj212 true a0_0 a0_1) = some r := by rw [if_neg (show ¬ (false = true) by decide)] at H; exact H
         clear H; have H := H1; clear H1
         have H9_ := H.trans (congrArg some hr_.out)
         clear H
         exfalso
         repeat' (first | (exact jalousielaw02_LabelLattice.no_j0 H9_) | (exact jalousielaw02_LabelLattice.no_j1 H9_) | (exact jalousielaw02_LabelLattice.no_j2 H9_) | (exact absurd H9_ (by decide)) | (exact absurd rfl (by assumption)) | (obtain ⟨_, _, H9_⟩ := Option.bind_eq_some_iff.mp H9_) | (rw [if_pos rfl] at H9_) | split at H9_ | (unfold jalousielaw02_LabelLattice.j0 at H9_; split at H9_) | (unfold jalousielaw02_LabelLattice.j1 at H9_; split at H9_) | (unfold jalousielaw02_LabelLattice.j2 at H9_; split at H9_))
       case rest =>
        clear HC290
        (try clear c2); (try clear p2 p2); (try clear c3); (try clear c4); (try clear c20); (try clear c21); (try clear c22); (try clear c23); (try clear c24); (try clear c25); (try clear c26); (try clear c27); (try clear c28); (try clear c29); (try clear c30); (try clear c31); (try clear c32); (try clear c33); (try clear c34); (try clear c35); (try clear c36); (try clear c43); (try clear c205); (try clear c206); (try clear c212); (try clear c215); (try clear c217); (try clear c219); (try clear c221); (try clear c223); (try clear c224); (try clear c225); (try clear c226); (try clear c228); (try clear c229); (try clear c230); (try clear c233); (try clear c234); (try clear c239); (try clear c248); (try clear c249); (try clear c250); (try clear c251); (try clear c253); (try clear c254); (try clear c255); (try clear c258); (try clear c259); (try clear c264); (try clear c270); (try clear c271); (try clear c272); (try clear c273); (try clear c275); (try clear c276); (try clear c277); (try clear c280); (try clear c281); (try clear c286); (try clear c289); (try clear c292); (try clear c294); (try clear c296); (try clear c298); (try clear c300); (try clear c301); (try clear c302); (try clear c303); (try clear c305); (try clear c306); (try clear c307); (try clear c311); (try clear c312); (try clear c315); (try clear c325); (try clear c326); (try clear c327); (try clear c328); (try clear c330); (try clear c331); (try clear c332); (try clear c336); (try clear c337); (try clear c340); (try clear c347); (try clear c348); (try clear c349); (try clear c350); (try clear c352); (try clear c353); (try clear c354); (try clear c358); (try clear c359); (try clear c362); (try clear hcz107_0 hcz107_1 hfz107_0 hfz107_1); (try clear hcz109_0 hcz109_1 hfz109_0 hfz109_1); (try clear hcz113_0 hcz113_1 hfz113_0 hfz113_1); (try clear hcz115_0 hcz115_1 hfz115_0 hfz115_1); (try clear hcz116_0 hcz116_1 hfz116_0 hfz116_1); (try clear hcz118_0 hcz118_1 hfz118_0 hfz118_1); (try clear hcz119_0 hcz119_1 hfz119_0 hfz119_1); (try clear hcz121_0 hcz121_1 hfz121_0 hfz121_1); (try clear hcz124_0 hcz124_1 hfz124_0 hfz124_1); (try clear hcz126_0 hcz126_1 hfz126_0 hfz126_1); (try clear hcz127_0 hcz127_1 hfz127_0 hfz127_1); (try clear hcz133_0 hcz133_1 hfz133_0 hfz133_1); (try clear hcz135_0 hcz135_1 hfz135_0 hfz135_1); (try clear hcz139_0 hcz139_1 hfz139_0 hfz139_1); (try clear hcz141_0 hcz141_1 hfz141_0 hfz141_1); (try clear hcz142_0 hcz142_1 hfz142_0 hfz142_1); (try clear hcz144_0 hcz144_1 hfz144_0 hfz144_1); (try clear hcz145_0 hcz145_1 hfz145_0 hfz145_1); (try clear hcz147_0 hcz147_1 hfz147_0 hfz147_1); (try clear hcz150_0 hcz150_1 hfz150_0 hfz150_1); (try clear hcz156_0 hcz156_1 hfz156_0 hfz156_1); (try clear hcz158_0 hcz158_1 hfz158_0 hfz158_1); (try clear hcz162_0 hcz162_1 hfz162_0 hfz162_1); (try clear hcz164_0 hcz164_1 hfz164_0 hfz164_1); (try clear hcz165_0 hcz165_1 hfz165_0 hfz165_1); (try clear hcz167_0 hcz167_1 hfz167_0 hfz167_1); (try clear hcz168_0 hcz168_1 hfz168_0 hfz168_1); (try clear hcz178_0 hcz178_1 hfz178_0 hfz178_1); (try clear hcz180_0 hcz180_1 hfz180_0 hfz180_1); (try clear hcz184_0 hcz184_1 hfz184_0 hfz184_1); (try clear hcz186_0 hcz186_1 hfz186_0 hfz186_1); (try clear hcz187_0 hcz187_1 hfz187_0 hfz187_1); (try clear hcz189_0 hcz189_1 hfz189_0 hfz189_1); (try clear hcz192_0 hcz192_1 hfz192_0 hfz192_1); (try clear hcz194_0 hcz194_1 hfz194_0 hfz194_1); (try clear hcz195_0 hcz195_1 hfz195_0 hfz195_1); (try clear hcz201_0 hcz201_1 hfz201_0 hfz201_1); (try clear hcz203_0 hcz203_1 hfz203_0 hfz203_1); (try clear hcz207_0 hcz207_1 hfz207_0 hfz207_1); (try clear hcz209_0 hcz209_1 hfz209_0 hfz209_1); (try clear hcz210_0 hcz210_1 hfz210_0 hfz210_1); (try clear hcz227_0 hcz227_1 hfz227_0 hfz227_1); (try clear hcz231_0 hcz231_1 hfz231_0 hfz231_1); (try clear hcz235_0 hcz235_1 hfz235_0 hfz235_1); (try clear hcz236_0 hcz236_1 hfz236_0 hfz236_1); (try clear hcz238_0 hcz238_1 hfz238_0 hfz238_1); (try clear hcz240_0 hcz240_1 hfz240_0 hfz240_1); (try clear hcz242_0 hcz242_1 hfz242_0 hfz242_1); (try clear hcz243_0 hcz243_1 hfz243_0 hfz243_1); (try clear hcz245_0 hcz245_1 hfz245_0 hfz245_1); (try clear hcz246_0 hcz246_1 hfz246_0 hfz246_1); (try clear hcz252_0 hcz252_1 hfz252_0 hfz252_1); (try clear hcz256_0 hcz256_1 hfz256_0 hfz256_1); (try clear hcz260_0 hcz260_1 hfz260_0 hfz260_1); (try clear hcz261_0 hcz261_1 hfz261_0 hfz261_1); (try clear hcz263_0 hcz263_1 hfz263_0 hfz263_1); (try clear hcz265_0 hcz265_1 hfz265_0 hfz265_1); (try clear hcz267_0 hcz267_1 hfz267_0 hfz267_1); (try clear hcz268_0 hcz268_1 hfz268_0 hfz268_1); (try clear hcz274_0 hcz274_1 hfz274_0 hfz274_1); (try clear hcz278_0 hcz278_1 hfz278_0 hfz278_1); (try clear hcz282_0 hcz282_1 hfz282_0 hfz282_1); (try clear hcz283_0 hcz283_1 hfz283_0 hfz283_1); (try clear hcz285_0 hcz285_1 hfz285_0 hfz285_1); (try clear hcz287_0 hcz287_1 hfz287_0 hfz287_1); (try clear hcz304_0 hcz304_1 hfz304_0 hfz304_1); (try clear hcz308_0 hcz308_1 hfz308_0 hfz308_1); (try clear hcz310_0 hcz310_1 hfz310_0 hfz310_1); (try clear hcz313_0 hcz313_1 hfz313_0 hfz313_1); (try clear hcz316_0 hcz316_1 hfz316_0 hfz316_1); (try clear hcz317_0 hcz317_1 hfz317_0 hfz317_1); (try clear hcz319_0 hcz319_1 hfz319_0 hfz319_1); (try clear hcz320_0 hcz320_1 hfz320_0 hfz320_1); (try clear hcz322_0 hcz322_1 hfz322_0 hfz322_1); (try clear hcz323_0 hcz323_1 hfz323_0 hfz323_1); (try clear hcz329_0 hcz329_1 hfz329_0 hfz329_1); (try clear hcz333_0 hcz333_1 hfz333_0 hfz333_1); (try clear hcz335_0 hcz335_1 hfz335_0 hfz335_1); (try clear hcz338_0 hcz338_1 hfz338_0 hfz338_1); (try clear hcz341_0 hcz341_1 hfz341_0 hfz341_1); (try clear hcz342_0 hcz342_1 hfz342_0 hfz342_1); (try clear hcz344_0 hcz344_1 hfz344_0 hfz344_1); (try clear hcz345_0 hcz345_1 hfz345_0 hfz345_1); (try clear hcz351_0 hcz351_1 hfz351_0 hfz351_1); (try clear hcz355_0 hcz355_1 hfz355_0 hfz355_1); (try clear hcz357_0 hcz357_1 hfz357_0 hfz357_1); (try clear hcz360_0 hcz360_1 hfz360_0 hfz360_1); (try clear hcz363_0 hcz363_1 hfz363_0 hfz363_1); (try clear hcz364_0 hcz364_1 hfz364_0 hfz364_1); (try clear hcz36_0 hcz36_1 hfz36_0 hfz36_1); (try clear hcz38_0 hcz38_1 hfz38_0 hfz38_1); (try clear hcz42_0 hcz42_1 hfz42_0 hfz42_1); (try clear hcz44_0 hcz44_1 hfz44_0 hfz44_1); (try clear hcz45_0 hcz45_1 hfz45_0 hfz45_1); (try clear hcz47_0 hcz47_1 hfz47_0 hfz47_1); (try clear hcz48_0 hcz48_1 hfz48_0 hfz48_1); (try clear hcz50_0 hcz50_1 hfz50_0 hfz50_1); (try clear hcz53_0 hcz53_1 hfz53_0 hfz53_1); (try clear hcz55_0 hcz55_1 hfz55_0 hfz55_1); (try clear hcz56_0 hcz56_1 hfz56_0 hfz56_1); (try clear hcz62_0 hcz62_1 hfz62_0 hfz62_1); (try clear hcz64_0 hcz64_1 hfz64_0 hfz64_1); (try clear hcz68_0 hcz68_1 hfz68_0 hfz68_1); (try clear hcz70_0 hcz70_1 hfz70_0 hfz70_1); (try clear hcz71_0 hcz71_1 hfz71_0 hfz71_1); (try clear hcz73_0 hcz73_1 hfz73_0 hfz73_1); (try clear hcz74_0 hcz74_1 hfz74_0 hfz74_1); (try clear hcz76_0 hcz76_1 hfz76_0 hfz76_1); (try clear hcz79_0 hcz79_1 hfz79_0 hfz79_1); (try clear hcz85_0 hcz85_1 hfz85_0 hfz85_1); (try clear hcz87_0 hcz87_1 hfz87_0 hfz87_1); (try clear hcz91_0 hcz91_1 hfz91_0 hfz91_1); (try clear hcz93_0 hcz93_1 hfz93_0 hfz93_1); (try clear hcz94_0 hcz94_1 hfz94_0 hfz94_1); (try clear hcz96_0 hcz96_1 hfz96_0 hfz96_1); (try clear hcz97_0 hcz97_1 hfz97_0 hfz97_1)
        obtain ⟨kq, x101_289, rfl, HA, HJ289, BK380, BK381, BK382, BK387, BK388, HB⟩ := hcut
        cases kq with
        | zero => exact absurd HA.out (by simp [jalousielaw02_LabelLattice.j2])
        | succ kj289 =>
         have H := HA.out
         clear HA
         simp only [jalousielaw02_LabelLattice.j2] at H
         by_cases c366 : x101_289 = true
         ·subst c366
          have H1 : (some false) = some r := by rw [if_pos rfl] at H; exact H
          clear H; have H := H1; clear H1
          have H9_ := H.trans (congrArg some hr_.out)
          clear H
          exfalso
          repeat' (first | (exact jalousielaw02_LabelLattice.no_j0 H9_) | (exact jalousielaw02_LabelLattice.no_j1 H9_) | (exact jalousielaw02_LabelLattice.no_j2 H9_) | (exact absurd H9_ (by decide)) | (exact absurd rfl (by assumption)) | (obtain ⟨_, _, H9_⟩ := Option.bind_eq_some_iff.mp H9_) | (rw [if_pos rfl] at H9_) | split at H9_ | (unfold jalousielaw02_LabelLattice.j0 at H9_; split at H9_) | (unfold jalousielaw02_LabelLattice.j1 at H9_; split at H9_) | (unfold jalousielaw02_LabelLattice.j2 at H9_; split at H9_))
         ·replace c366 := Bool.eq_false_iff.mpr c366
          subst c366
          have H1 : ((jalousielaw02_live.f).bind fun t411 => (if t411 = true then ((label_Right.f a0_0 a0_1).bind fun t412 => (if t412 = true then ((label_Below.f 0 0 a0_0 a0_1).bind fun t413 => (if t413 = true then ((label_Top.f).bind fun bt414 => ((label_Below.f a0_0 a0_1 bt414.1 bt414.2).bind fun t416 => (some t416))) else (some false))) else (some true))) else (some false))) = some r := by rw [if_neg (show ¬ (false = true) by decide)] at H; exact H
          clear H; have H := H1; clear H1
          replace H := Option.bind_eq_some_iff.mp H
          obtain ⟨t411, A3670, H⟩ := H
          replace H : (if t411 = true then ((label_Right.f a0_0 a0_1).bind fun t412 => (if t412 = true then ((label_Below.f 0 0 a0_0 a0_1).bind fun t413 => (if t413 = true then ((label_Top.f).bind fun bt414 => ((label_Below.f a0_0 a0_1 bt414.1 bt414.2).bind fun t416 => (some t416))) else (some false))) else (some true))) else (some false)) = some r := H
          have A367 := Aside0.mk A3670
          clear A3670
          by_cases c368 : t411 = true
          ·subst c368
           have H1 : ((label_Right.f a0_0 a0_1).bind fun t412 => (if t412 = true then ((label_Below.f 0 0 a0_0 a0_1).bind fun t413 => (if t413 = true then ((label_Top.f).bind fun bt414 => ((label_Below.f a0_0 a0_1 bt414.1 bt414.2).bind fun t416 => (some t416))) else (some false))) else (some true))) = some r := by rw [if_pos rfl] at H; exact H
           clear H; have H := H1; clear H1
           replace H := Option.bind_eq_some_iff.mp H
           obtain ⟨t412, A3690, H⟩ := H
           replace H : (if t412 = true then ((label_Below.f 0 0 a0_0 a0_1).bind fun t413 => (if t413 = true then ((label_Top.f).bind fun bt414 => ((label_Below.f a0_0 a0_1 bt414.1 bt414.2).bind fun t416 => (some t416))) else (some false))) else (some true)) = some r := H
           have A369 := Aside0.mk A3690
           clear A3690
           by_cases c370 : t412 = true
           ·subst c370
            have H1 : ((label_Below.f 0 0 a0_0 a0_1).bind fun t413 => (if t413 = true then ((label_Top.f).bind fun bt414 => ((label_Below.f a0_0 a0_1 bt414.1 bt414.2).bind fun t416 => (some t416))) else (some false))) = some r := by rw [if_pos rfl] at H; exact H
            clear H; have H := H1; clear H1
            replace H := Option.bind_eq_some_iff.mp H
            obtain ⟨t413, A3710, H⟩ := H
            replace H : (if t413 = true then ((label_Top.f).bind fun bt414 => ((label_Below.f a0_0 a0_1 bt414.1 bt414.2).bind fun t416 => (some t416))) else (some false)) = some r := H
            have A371 := Aside0.mk A3710
            clear A3710
            by_cases c372 : t413 = true
            ·subst c372
             have H1 : ((label_Top.f).bind fun bt414 => ((label_Below.f a0_0 a0_1 bt414.1 bt414.2).bind fun t416 => (some t416))) = some r := by rw [if_pos rfl] at H; exact H
             clear H; have H := H1; clear H1
             replace H := Option.bind_eq_some_iff.mp H
             obtain ⟨⟨t414, t415⟩, A3730, H⟩ := H
             replace H : ((label_Below.f a0_0 a0_1 t414 t415).bind fun t416 => (some t416)) = some r := H
             have A373 := Aside0.mk A3730
             clear A3730
             replace H := Option.bind_eq_some_iff.mp H
             obtain ⟨t416, A3740, H⟩ := H
             replace H : (some t416) = some r := H
             have A374 := Aside0.mk A3740
             clear A3740
             obtain rfl := Option.some.inj H
             try go_wp2
             replace BK380 := Aside0.mk (blk_drew BK380.out); replace BK381 := Aside0.mk (blk_drew BK381.out); replace BK382 := Aside0.mk (blk_drew BK382.out); replace BK387 := Aside0.mk (blk_drew BK387.out); replace BK388 := Aside0.mk (blk_drew BK388.out); replace HB := Aside0.mk (below_drew1 HB.out)
             refine start_ (n := 17) (S := fun w' => w'.cell? ⟨gb380, 0, none⟩ = some (.int .i64 a0_0) ∧ w'.cell? ⟨gb380, 1, none⟩ = some (.int .u64 a0_1)) (ds := []) (bm 17 0) (by kernel_rfl) rfl rfl ⟨(blk_cell BK380.out 0).trans rfl, (blk_cell BK380.out 1).trans rfl⟩ (fun hHeld => ?_); refine with_tabW jalousielaw02_LabelLattice.tab8 jalousielaw02_LabelLattice.bits8 (fun HT_ HW_ => ?_)
             generalize wc.drew = w375 at BK380 BK381 BK382 BK387 BK388 HB hHeld ⊢
             refine one_ (i := 0) (N := some 102) (bm 17 1) rfl rfl (one_of HT_.out (by kernel_rfl)) (by decide) (fun K hK => ?_)
             refine goes_ Tryd.func36 (by kernel_rfl) rfl #[] (by rfl) rfl rfl (by (try simp only [List.map_toArray, List.map_cons, List.map_nil]); first | done | rfl | (simp only [List.length_drop, List.length_take]; rfl)) ?_
             with_reducible refine (jalousielaw02_live.calls  true _ ?side1 A367.out).mono ?_
             (case side1 => exact Tabs.below hT (by repeat (first | (with_reducible first | exact HB.out | apply below_alloc | apply pw_below_drewN | apply below_drew1 | refine below_set ?_ GE380.out | refine below_set ?_ GE381.out | refine below_set ?_ GE382.out | refine below_set ?_ GE387.out | refine below_set ?_ GE388.out) | exact HB.out)))
             rintro e w376 ⟨rfl, hb⟩
             refine ⟨_, rfl, ?_⟩
             replace BK380 := bb_ BK380 hb; replace BK381 := bb_ BK381 hb; replace BK382 := bb_ BK382 hb; replace BK387 := bb_ BK387 hb; replace BK388 := bb_ BK388 hb; replace HB := Aside0.mk (below_b hb)
             (try clear hb)
             refine hK.out _ _ ⟨(blk_cell BK380.out 0).trans rfl, (blk_cell BK380.out 1).trans rfl⟩ (fun hHeld => ?_)
             clear hK K
             refine norm_ (a' := ?_) ?_ ?_
             rotate_left
             ·show Act.put _ (some 102) _ = _
              simp only [Act.put, List.setIfInBounds_toArray, List.set_cons_zero, List.set_cons_succ, i64_w, i32_w]
              rfl
             refine pure_ (i := 1) (N := some 103) (v := ?_) (a' := ?_) (bm 17 3) rfl rfl (any_of HT_.out (by kernel_rfl)) (fun _ _ _ h => h) (Or.inl ⟨by rfl, ?_⟩) ?_ ?_; rotate_left; (intro w'; go_simp; with_reducible rfl); rotate_left; (simp only [Act.put, List.setIfInBounds_toArray, List.set_cons_zero, List.set_cons_succ, i64_w, i32_w]; rfl)
             refine take_ (i := 2) (N := some 104) (v := ?_) (a' := ?_) (bm 17 7) rfl rfl (take_ofW HT_.out HW_.out (by kernel_rfl)) (fun _ _ _ h => h) (Or.inl ⟨by rfl, ?_⟩) hHeld ?_ ?_; rotate_left; (rintro w' ⟨s0, s1⟩; go_simp; with_reducible rfl); rotate_left; (simp only [Act.put, List.setIfInBounds_toArray, List.set_cons_zero, List.set_cons_succ, i64_w, i32_w]; rfl)
             refine one_ (i := 3) (N := some 105) (bm 17 15) rfl rfl (one_of HT_.out (by kernel_rfl)) (by decide) (fun K hK => ?_)
             refine goes_ Tryd.func41 (by kernel_rfl) rfl #[.agg #[.int .i64 a0_0, .int .u64 a0_1]] (by rfl) rfl rfl (by (try simp only [List.map_toArray, List.map_cons, List.map_nil]); first | done | rfl | (simp only [List.length_drop, List.length_take]; rfl)) ?_
             with_reducible refine (label_Right.calls a0_0 a0_1 true _ A369.out).mono ?_
             rintro e w377 ⟨rfl, hb⟩
             refine ⟨_, rfl, ?_⟩
             replace BK380 := bb_ BK380 hb; replace BK381 := bb_ BK381 hb; replace BK382 := bb_ BK382 hb; replace BK387 := bb_ BK387 hb; replace BK388 := bb_ BK388 hb; replace HB := Aside0.mk (below_b hb)
             (try clear hb)
             refine hK.out _ _ ⟨(blk_cell BK380.out 0).trans rfl, (blk_cell BK380.out 1).trans rfl⟩ (fun hHeld => ?_)
             clear hK K
             refine norm_ (a' := ?_) ?_ ?_
             rotate_left
             ·show Act.put _ (some 105) _ = _
              simp only [Act.put, List.setIfInBounds_toArray, List.set_cons_zero, List.set_cons_succ, i64_w, i32_w]
              rfl
             refine pure_ (i := 4) (N := some 106) (v := ?_) (a' := ?_) (bm 17 31) rfl rfl (any_of HT_.out (by kernel_rfl)) (fun _ _ _ h => h) (Or.inl ⟨by rfl, ?_⟩) ?_ ?_; rotate_left; (intro w'; go_simp; with_reducible rfl); rotate_left; (simp only [Act.put, List.setIfInBounds_toArray, List.set_cons_zero, List.set_cons_succ, i64_w, i32_w]; rfl)
             refine pure_ (i := 5) (N := some 107) (v := ?_) (a' := ?_) (bm 17 63) rfl rfl (any_of HT_.out (by kernel_rfl)) (fun _ _ _ h => h) (Or.inl ⟨by rfl, ?_⟩) ?_ ?_; rotate_left; (intro w'; go_simp; with_reducible rfl); rotate_left; (simp only [Act.put, List.setIfInBounds_toArray, List.set_cons_zero, List.set_cons_succ, i64_w, i32_w]; rfl)
             refine pure_ (i := 6) (N := some 108) (v := ?_) (a' := ?_) (bm 17 127) rfl rfl (any_of HT_.out (by kernel_rfl)) (fun _ _ _ h => h) (Or.inl ⟨by rfl, ?_⟩) ?_ ?_; rotate_left; (intro w'; go_simp; with_reducible rfl); rotate_left; (simp only [Act.put, List.setIfInBounds_toArray, List.set_cons_zero, List.set_cons_succ, i64_w, i32_w]; rfl)
             refine take_ (i := 7) (N := some 109) (v := ?_) (a' := ?_) (bm 17 255) rfl rfl (take_ofW HT_.out HW_.out (by kernel_rfl)) (fun _ _ _ h => h) (Or.inl ⟨by rfl, ?_⟩) hHeld ?_ ?_; rotate_left; (rintro w' ⟨s0, s1⟩; go_simp; with_reducible rfl); rotate_left; (simp only [Act.put, List.setIfInBounds_toArray, List.set_cons_zero, List.set_cons_succ, i64_w, i32_w]; rfl)
             refine one_ (i := 8) (N := some 110) (bm 17 511) rfl rfl (one_of HT_.out (by kernel_rfl)) (by decide) (fun K hK => ?_)
             refine goes_ Tryd.func43 (by kernel_rfl) rfl #[.agg #[.int .i64 0, .int .u64 0], .agg #[.int .i64 a0_0, .int .u64 a0_1]] (by rfl) rfl rfl (by (try simp only [List.map_toArray, List.map_cons, List.map_nil]); first | done | rfl | (simp only [List.length_drop, List.length_take]; rfl)) ?_
             with_reducible refine (label_Below.calls 0 0 a0_0 a0_1 true _ A371.out).mono ?_
             rintro e w378 ⟨rfl, hb⟩
             refine ⟨_, rfl, ?_⟩
             replace BK380 := bb_ BK380 hb; replace BK381 := bb_ BK381 hb; replace BK382 := bb_ BK382 hb; replace BK387 := bb_ BK387 hb; replace BK388 := bb_ BK388 hb; replace HB := Aside0.mk (below_b hb)
             (try clear hb)
             refine hK.out _ _ ⟨(blk_cell BK380.out 0).trans rfl, (blk_cell BK380.out 1).trans rfl⟩ (fun hHeld => ?_)
             clear hK K
             refine norm_ (a' := ?_) ?_ ?_
             rotate_left
             ·show Act.put _ (some 110) _ = _
              simp only [Act.put, List.setIfInBounds_toArray, List.set_cons_zero, List.set_cons_succ, i64_w, i32_w]
              rfl
             refine pure_ (i := 9) (N := some 111) (v := ?_) (a' := ?_) (bm 17 1023) rfl rfl (any_of HT_.out (by kernel_rfl)) (fun _ _ _ h => h) (Or.inl ⟨by rfl, ?_⟩) ?_ ?_; rotate_left; (intro w'; go_simp; with_reducible rfl); rotate_left; (simp only [Act.put, List.setIfInBounds_toArray, List.set_cons_zero, List.set_cons_succ, i64_w, i32_w]; rfl)
             refine take_ (i := 10) (N := some 112) (v := ?_) (a' := ?_) (bm 17 2047) rfl rfl (take_ofW HT_.out HW_.out (by kernel_rfl)) (fun _ _ _ h => h) (Or.inl ⟨by rfl, ?_⟩) hHeld ?_ ?_; rotate_left; (rintro w' ⟨s0, s1⟩; go_simp; with_reducible rfl); rotate_left; (simp only [Act.put, List.setIfInBounds_toArray, List.set_cons_zero, List.set_cons_succ, i64_w, i32_w]; rfl)
             refine one_ (i := 11) (N := some 113) (bm 17 4095) rfl rfl (one_of HT_.out (by kernel_rfl)) (by decide) (fun K hK => ?_)
             refine goes_ Tryd.func49 (by kernel_rfl) rfl #[] (by rfl) rfl rfl (by (try simp only [List.map_toArray, List.map_cons, List.map_nil]); first | done | rfl | (simp only [List.length_drop, List.length_take]; rfl)) ?_
             with_reducible refine (label_Top.calls  t414 t415 _ A373.out).mono ?_
             rintro e w379 ⟨rfl, hb⟩
             refine ⟨_, rfl, ?_⟩
             replace BK380 := bb_ BK380 hb; replace BK381 := bb_ BK381 hb; replace BK382 := bb_ BK382 hb; replace BK387 := bb_ BK387 hb; replace BK388 := bb_ BK388 hb; replace HB := Aside0.mk (below_b hb)
             (try clear hb)
             refine hK.out _ _ ⟨(blk_cell BK380.out 0).trans rfl, (blk_cell BK380.out 1).trans rfl⟩ (fun hHeld => ?_)
             clear hK K
             refine norm_ (a' := ?_) ?_ ?_
             rotate_left
             ·show Act.put _ (some 113) _ = _
              simp only [Act.put, List.setIfInBounds_toArray, List.set_cons_zero, List.set_cons_succ, i64_w, i32_w]
              rfl
             refine one_ (i := 12) (N := some 114) (bm 17 8191) rfl rfl (one_of HT_.out (by kernel_rfl)) (by decide) (fun K hK => ?_)
             refine goes_ Tryd.func43 (by kernel_rfl) rfl #[.agg #[.int .i64 a0_0, .int .u64 a0_1], .agg #[.int .i64 t414, .int .u64 t415]] (by rfl) rfl rfl (by (try simp only [List.map_toArray, List.map_cons, List.map_nil]); first | done | rfl | (simp only [List.length_drop, List.length_take]; rfl)) ?_
             with_reducible refine (label_Below.calls a0_0 a0_1 t414 t415 t416 _ A374.out).mono ?_
             rintro e w380 ⟨rfl, hb⟩
             refine ⟨_, rfl, ?_⟩
             replace BK380 := bb_ BK380 hb; replace BK381 := bb_ BK381 hb; replace BK382 := bb_ BK382 hb; replace BK387 := bb_ BK387 hb; replace BK388 := bb_ BK388 hb; replace HB := Aside0.mk (below_b hb)
             (try clear hb)
             refine hK.out _ _ ⟨(blk_cell BK380.out 0).trans rfl, (blk_cell BK380.out 1).trans rfl⟩ (fun hHeld => ?_)
             clear hK K
             refine norm_ (a' := ?_) ?_ ?_
             rotate_left
             ·show Act.put _ (some 114) _ = _
              simp only [Act.put, List.setIfInBounds_toArray, List.set_cons_zero, List.set_cons_succ, i64_w, i32_w]
              rfl
             refine pure_ (i := 13) (N := some 115) (v := ?_) (a' := ?_) (bm 17 16383) rfl rfl (any_of HT_.out (by kernel_rfl)) (fun _ _ _ h => h) (Or.inl ⟨by rfl, ?_⟩) ?_ ?_; rotate_left; (intro w'; go_simp; with_reducible rfl); rotate_left; (simp only [Act.put, List.setIfInBounds_toArray, List.set_cons_zero, List.set_cons_succ, i64_w, i32_w]; rfl)
             refine pure_ (i := 14) (N := some 116) (v := ?_) (a' := ?_) (bm 17 32767) rfl rfl (any_of HT_.out (by kernel_rfl)) (fun _ _ _ h => h) (Or.inl ⟨by rfl, ?_⟩) ?_ ?_; rotate_left; (intro w'; go_simp; with_reducible rfl); rotate_left; (simp only [Act.put, List.setIfInBounds_toArray, List.set_cons_zero, List.set_cons_succ, i64_w, i32_w]; rfl)
             refine pure_ (i := 15) (N := some 117) (v := ?_) (a' := ?_) (bm 17 65535) rfl rfl (any_of HT_.out (by kernel_rfl)) (fun _ _ _ h => h) (Or.inl ⟨by rfl, ?_⟩) ?_ ?_; rotate_left; (intro w'; go_simp; with_reducible rfl); rotate_left; (simp only [Act.put, List.setIfInBounds_toArray, List.set_cons_zero, List.set_cons_succ, i64_w, i32_w]; rfl)
             refine pure_ (i := 16) (N := some 6) (v := ?_) (a' := ?_) (bm 17 131071) rfl rfl (any_of HT_.out (by kernel_rfl)) (fun _ _ _ h => h) (Or.inl ⟨by rfl, ?_⟩) ?_ ?_; rotate_left; (intro w'; go_simp; with_reducible rfl); rotate_left; (simp only [Act.put, List.setIfInBounds_toArray, List.set_cons_zero, List.set_cons_succ, i64_w, i32_w]; rfl)
             refine done_ (done_of HT_.out (by kernel_rfl)) ?_
             try go_wp2
             go_ret
             exact ⟨by first | rfl | (simp [errW_none, errW_some] <;> rfl) | (simp [*, errW_none, errW_some] <;> rfl), by repeat (first | (with_reducible first | exact HB.out | apply below_alloc | apply pw_below_drewN | apply below_drew1 | refine below_set ?_ GE380.out | refine below_set ?_ GE381.out | refine below_set ?_ GE382.out | refine below_set ?_ GE387.out | refine below_set ?_ GE388.out) | exact HB.out)⟩
            ·replace c372 := Bool.eq_false_iff.mpr c372
             subst c372
             have H1 : (some false) = some r := by rw [if_neg (show ¬ (false = true) by decide)] at H; exact H
             clear H; have H := H1; clear H1
             have H9_ := H.trans (congrArg some hr_.out)
             clear H
             exfalso
             repeat' (first | (exact jalousielaw02_LabelLattice.no_j0 H9_) | (exact jalousielaw02_LabelLattice.no_j1 H9_) | (exact jalousielaw02_LabelLattice.no_j2 H9_) | (exact absurd H9_ (by decide)) | (exact absurd rfl (by assumption)) | (obtain ⟨_, _, H9_⟩ := Option.bind_eq_some_iff.mp H9_) | (rw [if_pos rfl] at H9_) | split at H9_ | (unfold jalousielaw02_LabelLattice.j0 at H9_; split at H9_) | (unfold jalousielaw02_LabelLattice.j1 at H9_; split at H9_) | (unfold jalousielaw02_LabelLattice.j2 at H9_; split at H9_))
           ·replace c370 := Bool.eq_false_iff.mpr c370
            subst c370
            have H1 : (some true) = some r := by rw [if_neg (show ¬ (false = true) by decide)] at H; exact H
            clear H; have H := H1; clear H1
            obtain rfl := Option.some.inj H
            try go_wp2
            replace BK380 := Aside0.mk (blk_drew BK380.out); replace BK381 := Aside0.mk (blk_drew BK381.out); replace BK382 := Aside0.mk (blk_drew BK382.out); replace BK387 := Aside0.mk (blk_drew BK387.out); replace BK388 := Aside0.mk (blk_drew BK388.out); replace HB := Aside0.mk (below_drew1 HB.out)
            refine start_ (n := 17) (S := fun w' => w'.cell? ⟨gb380, 0, none⟩ = some (.int .i64 a0_0) ∧ w'.cell? ⟨gb380, 1, none⟩ = some (.int .u64 a0_1)) (ds := []) (bm 17 0) (by kernel_rfl) rfl rfl ⟨(blk_cell BK380.out 0).trans rfl, (blk_cell BK380.out 1).trans rfl⟩ (fun hHeld => ?_); refine with_tabW jalousielaw02_LabelLattice.tab8 jalousielaw02_LabelLattice.bits8 (fun HT_ HW_ => ?_)
            generalize wc.drew = w381 at BK380 BK381 BK382 BK387 BK388 HB hHeld ⊢
            refine one_ (i := 0) (N := some 102) (bm 17 1) rfl rfl (one_of HT_.out (by kernel_rfl)) (by decide) (fun K hK => ?_)
            refine goes_ Tryd.func36 (by kernel_rfl) rfl #[] (by rfl) rfl rfl (by (try simp only [List.map_toArray, List.map_cons, List.map_nil]); first | done | rfl | (simp only [List.length_drop, List.length_take]; rfl)) ?_
            with_reducible refine (jalousielaw02_live.calls  true _ ?side1 A367.out).mono ?_
            (case side1 => exact Tabs.below hT (by repeat (first | (with_reducible first | exact HB.out | apply below_alloc | apply pw_below_drewN | apply below_drew1 | refine below_set ?_ GE380.out | refine below_set ?_ GE381.out | refine below_set ?_ GE382.out | refine below_set ?_ GE387.out | refine below_set ?_ GE388.out) | exact HB.out)))
            rintro e w382 ⟨rfl, hb⟩
            refine ⟨_, rfl, ?_⟩
            replace BK380 := bb_ BK380 hb; replace BK381 := bb_ BK381 hb; replace BK382 := bb_ BK382 hb; replace BK387 := bb_ BK387 hb; replace BK388 := bb_ BK388 hb; replace HB := Aside0.mk (below_b hb)
            (try clear hb)
            refine hK.out _ _ ⟨(blk_cell BK380.out 0).trans rfl, (blk_cell BK380.out 1).trans rfl⟩ (fun hHeld => ?_)
            clear hK K
            refine norm_ (a' := ?_) ?_ ?_
            rotate_left
            ·show Act.put _ (some 102) _ = _
             simp only [Act.put, List.setIfInBounds_toArray, List.set_cons_zero, List.set_cons_succ, i64_w, i32_w]
             rfl
            refine pure_ (i := 1) (N := some 103) (v := ?_) (a' := ?_) (bm 17 3) rfl rfl (any_of HT_.out (by kernel_rfl)) (fun _ _ _ h => h) (Or.inl ⟨by rfl, ?_⟩) ?_ ?_; rotate_left; (intro w'; go_simp; with_reducible rfl); rotate_left; (simp only [Act.put, List.setIfInBounds_toArray, List.set_cons_zero, List.set_cons_succ, i64_w, i32_w]; rfl)
            refine take_ (i := 2) (N := some 104) (v := ?_) (a' := ?_) (bm 17 7) rfl rfl (take_ofW HT_.out HW_.out (by kernel_rfl)) (fun _ _ _ h => h) (Or.inl ⟨by rfl, ?_⟩) hHeld ?_ ?_; rotate_left; (rintro w' ⟨s0, s1⟩; go_simp; with_reducible rfl); rotate_left; (simp only [Act.put, List.setIfInBounds_toArray, List.set_cons_zero, List.set_cons_succ, i64_w, i32_w]; rfl)
            refine one_ (i := 3) (N := some 105) (bm 17 15) rfl rfl (one_of HT_.out (by kernel_rfl)) (by decide) (fun K hK => ?_)
            refine goes_ Tryd.func41 (by kernel_rfl) rfl #[.agg #[.int .i64 a0_0, .int .u64 a0_1]] (by rfl) rfl rfl (by (try simp only [List.map_toArray, List.map_cons, List.map_nil]); first | done | rfl | (simp only [List.length_drop, List.length_take]; rfl)) ?_
            with_reducible refine (label_Right.calls a0_0 a0_1 false _ A369.out).mono ?_
            rintro e w383 ⟨rfl, hb⟩
            refine ⟨_, rfl, ?_⟩
            replace BK380 := bb_ BK380 hb; replace BK381 := bb_ BK381 hb; replace BK382 := bb_ BK382 hb; replace BK387 := bb_ BK387 hb; replace BK388 := bb_ BK388 hb; replace HB := Aside0.mk (below_b hb)
            (try clear hb)
            refine hK.out _ _ ⟨(blk_cell BK380.out 0).trans rfl, (blk_cell BK380.out 1).trans rfl⟩ (fun hHeld => ?_)
            clear hK K
            refine norm_ (a' := ?_) ?_ ?_
            rotate_left
            ·show Act.put _ (some 105) _ = _
             simp only [Act.put, List.setIfInBounds_toArray, List.set_cons_zero, List.set_cons_succ, i64_w, i32_w]
             rfl
            refine pure_ (i := 4) (N := some 106) (v := ?_) (a' := ?_) (bm 17 31) rfl rfl (any_of HT_.out (by kernel_rfl)) (fun _ _ _ h => h) (Or.inl ⟨by rfl, ?_⟩) ?_ ?_; rotate_left; (intro w'; go_simp; with_reducible rfl); rotate_left; (simp only [Act.put, List.setIfInBounds_toArray, List.set_cons_zero, List.set_cons_succ, i64_w, i32_w]; rfl)
            refine pure_ (i := 5) (N := some 107) (v := ?_) (a' := ?_) (bm 17 63) rfl rfl (any_of HT_.out (by kernel_rfl)) (fun _ _ _ h => h) (Or.inl ⟨by rfl, ?_⟩) ?_ ?_; rotate_left; (intro w'; go_simp; with_reducible rfl); rotate_left; (simp only [Act.put, List.setIfInBounds_toArray, List.set_cons_zero, List.set_cons_succ, i64_w, i32_w]; rfl)
            refine pure_ (i := 6) (N := some 108) (v := undef) (a' := ?_) (bm 17 127) rfl rfl (any_of HT_.out (by kernel_rfl)) (fun _ _ _ h => h) (Or.inr ⟨by rfl, rfl⟩) ?_ ?_
            rotate_left
            ·simp only [Act.put, List.setIfInBounds_toArray, List.set_cons_zero, List.set_cons_succ, i64_w, i32_w]
             rfl
            refine pure_ (i := 7) (N := some 109) (v := undef) (a' := ?_) (bm 17 255) rfl rfl (any_of HT_.out (by kernel_rfl)) (fun _ _ _ h => h) (Or.inr ⟨by rfl, rfl⟩) ?_ ?_
            rotate_left
            ·simp only [Act.put, List.setIfInBounds_toArray, List.set_cons_zero, List.set_cons_succ, i64_w, i32_w]
             rfl
            refine pure_ (i := 8) (N := some 110) (v := undef) (a' := ?_) (bm 17 511) rfl rfl (any_of HT_.out (by kernel_rfl)) (fun _ _ _ h => h) (Or.inr ⟨by rfl, rfl⟩) ?_ ?_
            rotate_left
            ·simp only [Act.put, List.setIfInBounds_toArray, List.set_cons_zero, List.set_cons_succ, i64_w, i32_w]
             rfl
            refine pure_ (i := 9) (N := some 111) (v := undef) (a' := ?_) (bm 17 1023) rfl rfl (any_of HT_.out (by kernel_rfl)) (fun _ _ _ h => h) (Or.inr ⟨by rfl, rfl⟩) ?_ ?_
            rotate_left
            ·simp only [Act.put, List.setIfInBounds_toArray, List.set_cons_zero, List.set_cons_succ, i64_w, i32_w]
             rfl
            refine pure_ (i := 10) (N := some 112) (v := undef) (a' := ?_) (bm 17 2047) rfl rfl (any_of HT_.out (by kernel_rfl)) (fun _ _ _ h => h) (Or.inr ⟨by rfl, rfl⟩) ?_ ?_
            rotate_left
            ·simp only [Act.put, List.setIfInBounds_toArray, List.set_cons_zero, List.set_cons_succ, i64_w, i32_w]
             rfl
            refine pure_ (i := 11) (N := some 113) (v := undef) (a' := ?_) (bm 17 4095) rfl rfl (any_of HT_.out (by kernel_rfl)) (fun _ _ _ h => h) (Or.inr ⟨by rfl, rfl⟩) ?_ ?_
            rotate_left
            ·simp only [Act.put, List.setIfInBounds_toArray, List.set_cons_zero, List.set_cons_succ, i64_w, i32_w]
             rfl
            refine pure_ (i := 12) (N := some 114) (v := undef) (a' := ?_) (bm 17 8191) rfl rfl (any_of HT_.out (by kernel_rfl)) (fun _ _ _ h => h) (Or.inr ⟨by rfl, rfl⟩) ?_ ?_
            rotate_left
            ·simp only [Act.put, List.setIfInBounds_toArray, List.set_cons_zero, List.set_cons_succ, i64_w, i32_w]
             rfl
            refine pure_ (i := 13) (N := some 115) (v := undef) (a' := ?_) (bm 17 16383) rfl rfl (any_of HT_.out (by kernel_rfl)) (fun _ _ _ h => h) (Or.inr ⟨by rfl, rfl⟩) ?_ ?_
            rotate_left
            ·simp only [Act.put, List.setIfInBounds_toArray, List.set_cons_zero, List.set_cons_succ, i64_w, i32_w]
             rfl
            refine pure_ (i := 14) (N := some 116) (v := ?_) (a' := ?_) (bm 17 32767) rfl rfl (any_of HT_.out (by kernel_rfl)) (fun _ _ _ h => h) (Or.inl ⟨by rfl, ?_⟩) ?_ ?_; rotate_left; (intro w'; go_simp; with_reducible rfl); rotate_left; (simp only [Act.put, List.setIfInBounds_toArray, List.set_cons_zero, List.set_cons_succ, i64_w, i32_w]; rfl)
            refine pure_ (i := 15) (N := some 117) (v := ?_) (a' := ?_) (bm 17 65535) rfl rfl (any_of HT_.out (by kernel_rfl)) (fun _ _ _ h => h) (Or.inl ⟨by rfl, ?_⟩) ?_ ?_; rotate_left; (intro w'; go_simp; with_reducible rfl); rotate_left; (simp only [Act.put, List.setIfInBounds_toArray, List.set_cons_zero, List.set_cons_succ, i64_w, i32_w]; rfl)
            refine pure_ (i := 16) (N := some 6) (v := ?_) (a' := ?_) (bm 17 131071) rfl rfl (any_of HT_.out (by kernel_rfl)) (fun _ _ _ h => h) (Or.inl ⟨by rfl, ?_⟩) ?_ ?_; rotate_left; (intro w'; go_simp; with_reducible rfl); rotate_left; (simp only [Act.put, List.setIfInBounds_toArray, List.set_cons_zero, List.set_cons_succ, i64_w, i32_w]; rfl)
            refine done_ (done_of HT_.out (by kernel_rfl)) ?_
            try go_wp2
            go_ret
            exact ⟨by first | rfl | (simp [errW_none, errW_some] <;> rfl) | (simp [*, errW_none, errW_some] <;> rfl), by repeat (first | (with_reducible first | exact HB.out | apply below_alloc | apply pw_below_drewN | apply below_drew1 | refine below_set ?_ GE380.out | refine below_set ?_ GE381.out | refine below_set ?_ GE382.out | refine below_set ?_ GE387.out | refine below_set ?_ GE388.out) | exact HB.out)⟩
          ·replace c368 := Bool.eq_false_iff.mpr c368
           subst c368
           have H1 : (some false) = some r := by rw [if_neg (show ¬ (false = true) by decide)] at H; exact H
           clear H; have H := H1; clear H1
           have H9_ := H.trans (congrArg some hr_.out)
           clear H
           exfalso
           repeat' (first | (exact jalousielaw02_LabelLattice.no_j0 H9_) | (exact jalousielaw02_LabelLattice.no_j1 H9_) | (exact jalousielaw02_LabelLattice.no_j2 H9_) | (exact absurd H9_ (by decide)) | (exact absurd rfl (by assumption)) | (obtain ⟨_, _, H9_⟩ := Option.bind_eq_some_iff.mp H9_) | (rw [if_pos rfl] at H9_) | split at H9_ | (unfold jalousielaw02_LabelLattice.j0 at H9_; split at H9_) | (unfold jalousielaw02_LabelLattice.j1 at H9_; split at H9_) | (unfold jalousielaw02_LabelLattice.j2 at H9_; split at H9_))
end Go.Proofs.YtlhodalfbmdnnaaDoor.P

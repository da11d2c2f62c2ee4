/- what this claim needs of the words and the printed functions; conditions: as each statement says -/
import Derived.Test.YthppicgolkpbaaaDoorDeltaPrintsHDMakeGo
import Derived.Test.YthppicgolkpbaaaDoorDeltaPrintsHDWrong
import Derived.Test.YthppicgolkpbaaaDoorDeltaPrintsPx0
import Derived.Test.YthppicgolkpbaaaDoorDeltaPrintsPxEq37
import Derived.Test.YthppicgolkpbaaaDoorDeltaPrintsPxJalousieref15
import Derived.Test.YthppicgolkpbaaaDoorDeltaPrintsHTabs
import Derived.Test.YthppicgolkpbaaaDoorDeltaPrintsPxDelta
import Derived.Test.YthppicgolkpbaaaDoorDeltaPrintsPxJalousieref02
import Derived.Lib.Hide
namespace Go.Proofs.YthppicgolkpbaaaDoor.P
open Go.RowKit Go.Proofs.YthppicgolkpbaaaDoorW.PrintWords Go.Proofs.YthppicgolkpbaaaDoorW.PrintLast Go.Proofs.YthppicgolkpbaaaDoorW.PrintMore
set_option linter.unusedVariables false
set_option linter.unusedSimpArgs false
theorem wrap_at {i : Nat} (h : i ≤ 4000000000000) : wrap64 ((i : Int) + 1) = ((i + 1 : Nat) : Int) := by
  unfold wrap64
  omega
def partInv (s : Int) (ps : List S27) (n : Nat) : Prop := partsFit ps n ∧ (s = 1 → ∃ qs q, ps = qs ++ [q] ∧ q.f2 = []) ∧ (s = 3 → ∃ qs q, ps = qs ++ [q] ∧ q.f0 = 0 ∧ q.f1 = 0)
theorem partInv.last {s : Int} {ps : List S27} {n : Nat} (h : partInv s ps n) : lastFit s ps := by
  rintro (e | e)
  · obtain ⟨qs, q, rfl, _⟩ := h.2.1 e; simp
  · obtain ⟨qs, q, rfl, _⟩ := h.2.2 e; simp
end Go.Proofs.YthppicgolkpbaaaDoor.P
namespace Go.Proofs.YthppicgolkpbaaaDoor.P
open Go.RowKit Go.Proofs.YthppicgolkpbaaaDoorW.PrintWords Go.Proofs.YthppicgolkpbaaaDoorW.PrintLast Go.Proofs.YthppicgolkpbaaaDoorW.PrintMore
set_option linter.unusedVariables false
set_option linter.unusedSimpArgs false
theorem part_at (l : List S27) (i : Nat) (h : i < l.length) : l[i]? = some (rd_T27 l (i : Int)) := by
  unfold rd_T27
  rw [Int.toNat_natCast, List.getD_eq_getElem?_getD, List.getElem?_eq_getElem h]
  rfl
theorem part_drop (l : List S27) (i : Nat) (h : i < l.length) : l.drop i = rd_T27 l (i : Int) :: l.drop (i + 1) := by
  rw [List.drop_eq_getElem_cons h]
  have := part_at l i h
  rw [List.getElem?_eq_getElem h] at this
  rw [Option.some.inj this]
/-! ### the same twice -/
/-! ### how many items of its own -/
/-! ### the sizes of a delta -/
end Go.Proofs.YthppicgolkpbaaaDoor.P
namespace Go.Proofs.YthppicgolkpbaaaDoor.P
open Go.RowKit Go.Proofs.YthppicgolkpbaaaDoorW.PrintWords Go.Proofs.YthppicgolkpbaaaDoorW.PrintLast Go.Proofs.YthppicgolkpbaaaDoorW.PrintMore
set_option linter.unusedVariables false
set_option linter.unusedSimpArgs false
def hasN (cats : Int) (c : Nat) : Bool := Int.tmod (shr .u64 cats c) 2 == 1
theorem has_f (l cats : Int) (c : Nat) (h : c ≤ 63) : jalousieref02_Has.f l cats (c : Int) = some (hasN cats c) := by
  unfold jalousieref02_Has.f
  rw [if_pos (by omega), if_pos (by omega), if_pos (by omega)]
  rfl
/-- the two labels in memory -/
structure PickMem (w W : World) (g g' : Nat) (a0_0 a0_1 a1_0 a1_1 : Int) : Prop where
  bk : W.heap[g]? = some (.cells #[.int .i64 a0_0, .int .u64 a0_1] 37 (0, 0))
  bk' : W.heap[g']? = some (.cells #[.int .i64 a1_0, .int .u64 a1_1] 37 (0, 0))
  below : Below w.heap.size w W
theorem PickMem.step {w W W' : World} {g g' : Nat} {a b c d : Int} (h : PickMem w W g g' a b c d) (hb : Below W.heap.size W W') : PickMem w W' g g' a b c d :=
  ⟨blk_below h.bk hb, blk_below h.bk' hb, below_step h.below hb⟩
theorem PickMem.cells {w W : World} {g g' : Nat} {a b c d : Int} (h : PickMem w W g g' a b c d) :
    (W.cell? ⟨g, 0, none⟩ = some (.int .i64 a) ∧ W.cell? ⟨g, 1, none⟩ = some (.int .u64 b)) ∧ W.cell? ⟨g', 0, none⟩ = some (.int .i64 c) ∧ W.cell? ⟨g', 1, none⟩ = some (.int .u64 d) :=
  ⟨⟨(blk_cell h.bk 0).trans rfl, (blk_cell h.bk 1).trans rfl⟩, (blk_cell h.bk' 0).trans rfl, (blk_cell h.bk' 1).trans rfl⟩
end Go.Proofs.YthppicgolkpbaaaDoor.P

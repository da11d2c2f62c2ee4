/- jalousieref02.pick, by hand; condition: none. -/
import Derived.Test.YthppicgolkpbaaaDoorDeltaAppliesPx0
import Derived.Test.YthppicgolkpbaaaDoorDeltaAppliesHTabs
import Derived.Lib.Hide
namespace Go.Proofs.YthppicgolkpbaaaDoor.P
open Go.RowKit Go.Proofs.YthppicgolkpbaaaDoorW.PrintWords Go.Proofs.YthppicgolkpbaaaDoorW.PrintLast Go.Proofs.YthppicgolkpbaaaDoorW.PrintMore
set_option linter.unusedVariables false
set_option linter.unusedSimpArgs false
/-- the two labels in memory -/
structure PickMem (w W : World) (g g' : Nat) (a0_0 a0_1 a1_0 a1_1 : Int) : Prop where
  bk : W.heap[g]? = some (.cells #[.int .i64 a0_0, .int .u64 a0_1] 37 (0, 0))
  bk' : W.heap[g']? = some (.cells #[.int .i64 a1_0, .int .u64 a1_1] 37 (0, 0))
  below : Below w.heap.size w W
theorem PickMem.step {w W W' : World} {g g' : Nat} {a b c d : Int} (h : PickMem w W g g' a b c d) (hb : Below W.heap.size W W') : PickMem w W' g g' a b c d :=
  ⟨blk_below h.bk hb, blk_below h.bk' hb, below_step h.below hb⟩
theorem PickMem.cells {w W : World} {g g' : Nat} {a b c d : Int} (h : PickMem w W g g' a b c d) :
    (W.cell? ⟨g, 0, none⟩ = some (.int .i64 a) ∧ W.cell? ⟨g, 1, none⟩ = some (.int .u64 b)) ∧ W.cell? ⟨g', 0, none⟩ = some (.int .i64 c) ∧ W.cell? ⟨g', 1, none⟩ = some (.int .u64 d) :=
  ⟨⟨(blk_cell h.bk 0).trans rfl, (blk_cell h.bk 1).trans rfl⟩, (blk_cell h.bk' 0).trans rfl, (blk_cell h.bk' 1).trans rfl⟩
end Go.Proofs.YthppicgolkpbaaaDoor.P

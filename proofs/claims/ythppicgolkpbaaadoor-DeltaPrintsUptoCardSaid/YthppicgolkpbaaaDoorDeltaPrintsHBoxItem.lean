/- an item's copy in a box of the call's own, cell by cell -/
import Derived.Test.YthppicgolkpbaaaDoorDeltaPrintsPx0
import Derived.Lib.Hide
namespace Go.Proofs.YthppicgolkpbaaaDoor.P
open Go.RowKit Go.Proofs.YthppicgolkpbaaaDoorW.PrintWords Go.Proofs.YthppicgolkpbaaaDoorW.PrintLast Go.Proofs.YthppicgolkpbaaaDoorW.PrintMore
set_option linter.unusedVariables false
set_option linter.unusedSimpArgs false
def putItem (W : World) (g : Nat) (x : S41) : World := (((((W.setCell ⟨g, 0, none⟩ (.int .i64 x.f0)).setCell ⟨g, 1, none⟩ (.int .i64 x.f1.f0)).setCell ⟨g, 2, none⟩ (.int .u64 x.f1.f1)).setCell ⟨g, 3, none⟩ (.bool x.f2)).setCell ⟨g, 4, none⟩ (.string x.f3.f0)).setCell ⟨g, 5, none⟩ (.bool x.f3.f1)
def itemCells (x : S41) : Array Value := #[.int .i64 x.f0, .int .i64 x.f1.f0, .int .u64 x.f1.f1, .bool x.f2, .string x.f3.f0, .bool x.f3.f1]
theorem six_set (a b c d e f a' b' c' d' e' f' : Value) : (((((#[a, b, c, d, e, f].setIfInBounds 0 a').setIfInBounds 1 b').setIfInBounds 2 c').setIfInBounds 3 d').setIfInBounds 4 e').setIfInBounds 5 f' = #[a', b', c', d', e', f'] := by simp
theorem putItem_blk {W : World} {g : Nat} {a b c d e f : Value} (x : S41) (h : W.heap[g]? = some (.cells #[a, b, c, d, e, f] 41 (0, 0))) : (putItem W g x).heap[g]? = some (.cells (itemCells x) 41 (0, 0)) := by
  unfold putItem
  have h5 := blk_set (blk_set (blk_set (blk_set (blk_set (blk_set h 0 (.int .i64 x.f0)) 1 (.int .i64 x.f1.f0)) 2 (.int .u64 x.f1.f1)) 3 (.bool x.f2)) 4 (.string x.f3.f0)) 5 (.bool x.f3.f1)
  rw [six_set] at h5
  exact h5
theorem putItem_below {w W : World} {g : Nat} (x : S41) (hb : Below w.heap.size w W) (hg : w.heap.size ≤ g) : Below w.heap.size w (putItem W g x) := by
  unfold putItem
  exact ((((((hb.setCell (p := ⟨g, 0, none⟩) hg _).setCell (p := ⟨g, 1, none⟩) hg _).setCell (p := ⟨g, 2, none⟩) hg _).setCell (p := ⟨g, 3, none⟩) hg _).setCell (p := ⟨g, 4, none⟩) hg _).setCell (p := ⟨g, 5, none⟩) hg _)
theorem itemCells_at {W : World} {g : Nat} {x : S41} (h : W.heap[g]? = some (.cells (itemCells x) 41 (0, 0))) :
    W.cell? ⟨g, 0, none⟩ = some (.int .i64 x.f0) ∧ W.cell? ⟨g, 1, none⟩ = some (.int .i64 x.f1.f0) ∧ W.cell? ⟨g, 2, none⟩ = some (.int .u64 x.f1.f1) ∧ W.cell? ⟨g, 3, none⟩ = some (.bool x.f2) ∧ W.cell? ⟨g, 4, none⟩ = some (.string x.f3.f0) ∧ W.cell? ⟨g, 5, none⟩ = some (.bool x.f3.f1) :=
  ⟨(blk_cell h 0).trans rfl, (blk_cell h 1).trans rfl, (blk_cell h 2).trans rfl, (blk_cell h 3).trans rfl, (blk_cell h 4).trans rfl, (blk_cell h 5).trans rfl⟩
def zeroItemCells : Array Value := #[.int .i64 0, .int .i64 0, .int .u64 0, .bool false, .string ⟨#[]⟩, .bool false]
theorem zeroCells_at {W : World} {g : Nat} (h : W.heap[g]? = some (.cells zeroItemCells 41 (0, 0))) :
    (W.cell? ⟨g, 0, none⟩ = some (.int .i64 0) ∧ W.cell? ⟨g, 1, none⟩ = some (.int .i64 0) ∧ W.cell? ⟨g, 2, none⟩ = some (.int .u64 0) ∧ W.cell? ⟨g, 3, none⟩ = some (.bool false) ∧ W.cell? ⟨g, 4, none⟩ = some (.string ⟨#[]⟩) ∧ W.cell? ⟨g, 5, none⟩ = some (.bool false)) ∧
    (W.frozen? ⟨g, 0, none⟩ = false ∧ W.frozen? ⟨g, 1, none⟩ = false ∧ W.frozen? ⟨g, 2, none⟩ = false ∧ W.frozen? ⟨g, 3, none⟩ = false ∧ W.frozen? ⟨g, 4, none⟩ = false ∧ W.frozen? ⟨g, 5, none⟩ = false) :=
  ⟨⟨(blk_cell h 0).trans rfl, (blk_cell h 1).trans rfl, (blk_cell h 2).trans rfl, (blk_cell h 3).trans rfl, (blk_cell h 4).trans rfl, (blk_cell h 5).trans rfl⟩, ⟨blk_frozen h 0, blk_frozen h 1, blk_frozen h 2, blk_frozen h 3, blk_frozen h 4, blk_frozen h 5⟩⟩
end Go.Proofs.YthppicgolkpbaaaDoor.P

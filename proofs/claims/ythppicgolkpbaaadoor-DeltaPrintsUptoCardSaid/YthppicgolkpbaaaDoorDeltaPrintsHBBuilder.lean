/- strings.Builder's WriteString and String, at a builder that the call itself made, out of the shelf's; condition: what is held takes at most 2^47 bytes. -/
import Derived.Test.YthppicgolkpbaaaDoorDeltaPrintsHBJoin
import Derived.Shelf.Strings.BuilderF
namespace Go.Proofs.YthppicgolkpbaaaDoor.P
open Go.RowKit Go.Proofs.YthppicgolkpbaaaDoorW.PrintWords Go.Proofs.YthppicgolkpbaaaDoorW.PrintLast Go.Proofs.YthppicgolkpbaaaDoorW.PrintMore
set_option linter.unusedVariables false
set_option linter.unusedSimpArgs false
/-- block b holds a builder that has l -/
def Bld (w : World) (B b : Nat) (l : List UInt8) : Prop := Lib.IsBuilderF 80 5 B b (Lib.byteCells l) w
theorem Bld.below {w W : World} {B b : Nat} {l : List UInt8} (h : Bld w B b l) (hb : Below w.heap.size w W) : Bld W B b l := by
  have one : ∀ {p : Value}, Lib.BuilderAtF 80 5 B b p (Lib.byteCells l) w → Lib.BuilderAtF 80 5 B b p (Lib.byteCells l) W := by
    intro p h
    have hlt := h.lt
    obtain ⟨hB, v, hv, hown, hne⟩ := h
    exact ⟨hB, v, (hb.block b hlt).trans hv, hown.kept (row := none) ⟨hb.os, hb.tape, hb.output, hb.size, fun k hk _ => hb.block k hk⟩ (Classical.em _), hne⟩
  exact h.elim (fun x => .inl (one x)) (fun x => .inr (one x))
theorem Bld.new (w : World) : Bld (w.alloc (.cells #[.pointer none, .slice none 0 0] 80 (0, 0))) w.heap.size w.heap.size [] := Lib.IsBuilderF.of (Lib.fresh_isBuilder 80 5 w)
theorem bld_cells (l : List UInt8) (s : ByteArray) : Lib.byteCells l ++ Lib.strCells s = Lib.byteCells (l ++ s.data.toList) := by
  unfold Lib.byteCells Lib.strCells
  simp
theorem bld_write (B b : Nat) (l : List UInt8) (s : ByteArray) (w : World) (h : Bld w B b l) (hlen : l.length + s.size ≤ 140737488355328) (hBw : B ≤ w.heap.size) :
    Calls Tryd.prog 41 #[.pointer (some ⟨b, 0, none⟩), .string s] w fun e w' => e = .returned (.tuple #[.int .i64 s.size, .nilIface]) ∧ Bld w' B b (l ++ s.data.toList) ∧ Below B w w' := by
  have := Any.Builder_WriteString_f { Tryd.lays156 with } join_X B b (Lib.byteCells l) s w h (by rw [Lib.byteCells_length]; exact hlen) hBw
  refine Calls.mono this fun e w' ⟨he, hb, hB⟩ => ⟨he, ?_, hB⟩
  unfold Bld
  rw [← bld_cells]
  exact .inr hb
theorem bld_string (B b : Nat) (l : List UInt8) (w : World) (h : Bld w B b l) (hBw : B ≤ w.heap.size) :
    Calls Tryd.prog 44 #[.pointer (some ⟨b, 0, none⟩)] w fun e w' => e = .returned (.string ⟨l.toArray⟩) ∧ Bld w' B b l ∧ Below B w w' :=
  Any.Builder_String_any_f { Tryd.lays156 with } join_X B b l w h hBw
end Go.Proofs.YthppicgolkpbaaaDoor.P

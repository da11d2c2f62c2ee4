/- an iterator over a string, at whatever world it stands -/
import Derived.Laws.RangeString
import Derived.Below
import Derived.WalkKit
import Derived.Test.YthaimkdnddmokaaDoorWireParsesGHTabs
namespace Go.Proofs.YthaimkdnddmokaaDoor.P
open Go.RowKit Go.Proofs.YthaimkdnddmokaaDoorW.PrintWords Go.Proofs.YthaimkdnddmokaaDoorW.PrintLast Go.Proofs.YthaimkdnddmokaaDoorW.PrintMore
set_option linter.unusedVariables false
set_option linter.unusedSimpArgs false
/-- the iterator of block g stands at p -/
def seti (w : World) (g : Nat) (s : ByteArray) (p : Nat) : World := { w with heap := w.heap.setIfInBounds g (.stringIter s p) }
theorem seti_size (w : World) (g : Nat) (s : ByteArray) (p : Nat) : (seti w g s p).heap.size = w.heap.size := by simp [seti]
theorem seti_at {w : World} {g : Nat} (h : g < w.heap.size) (s : ByteArray) (p : Nat) : (seti w g s p).heap[g]? = some (.stringIter s p) := by
  simp [seti, h]
theorem seti_blk (w : World) {g b : Nat} (h : b ≠ g) (s : ByteArray) (p : Nat) : (seti w g s p).heap[b]? = w.heap[b]? := by
  simp [seti, Array.getElem?_setIfInBounds, h.symm]
theorem seti_below {B : Nat} {a w : World} (h : Below B a w) {g : Nat} (hg : B ≤ g) (s : ByteArray) (p : Nat) : Below B a (seti w g s p) :=
  ⟨h.os, h.tape, h.output, (by rw [seti_size]; exact h.size), fun k hk => (seti_blk w (by omega) s p).trans (h.block k hk)⟩
theorem next_at {P : Program} (w : World) {g : Nat} {s : ByteArray} {pos : Nat} (ty : TypeId) (hg : w.heap[g]? = some (.stringIter s pos)) (h : pos < s.size) (ha : (s[pos]'h).toNat < 128) :
    (Instr.next (.pointer (some ⟨g, 0, none⟩)) true ty).run P w = .ok (.tuple #[.bool true, .int .i64 pos, .int .i32 (s[pos]'h).toNat]) (seti w g s (pos + 1)) := by
  simp [Instr.next, getObj, setObj, Sem.run_bind, Sem.run, hg, Result.andThen, h, decode_ascii s pos h ha, seti, goInt]
theorem next_over {P : Program} (w : World) {g : Nat} {s : ByteArray} {pos : Nat} (ty : TypeId) (hg : w.heap[g]? = some (.stringIter s pos)) (h : ¬ pos < s.size) :
    (Instr.next (.pointer (some ⟨g, 0, none⟩)) true ty).run P w = .ok (.tuple #[.bool false]) w := by
  simp [Instr.next, getObj, Sem.run, hg, h]
end Go.Proofs.YthaimkdnddmokaaDoor.P

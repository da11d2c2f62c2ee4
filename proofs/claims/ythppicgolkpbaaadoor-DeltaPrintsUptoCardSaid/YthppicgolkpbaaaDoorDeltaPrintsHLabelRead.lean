/- plain laws of a label's text: labRead of labOf is the label, and what labRead takes is a label's text -/
import Derived.Test.YthppicgolkpbaaaDoorDeltaPrintsHLabelText
namespace Go.Proofs.YthppicgolkpbaaaDoor.P
open Go.RowKit Go.Proofs.YthppicgolkpbaaaDoorW.PrintWords Go.Proofs.YthppicgolkpbaaaDoorW.PrintLast Go.Proofs.YthppicgolkpbaaaDoorW.PrintMore
set_option linter.unusedVariables false
set_option linter.unusedSimpArgs false
/-! ### the program's Parse -/
theorem decL_len (n : Int) : (decL n).length ≤ 10 := by
  have := dec_size n
  unfold decL
  rw [data_length]; exact this
theorem printTail_len : ∀ (cs : List Int) (g : UInt8), (printTail g cs).length ≤ 11 * cs.length
  | [], g => by simp [printTail]
  | c :: cs, g => by
    have h1 := decL_len c
    have h2 := printTail_len cs 44
    simp only [printTail, List.length_cons, List.length_append]
    omega
theorem lab_size (a : Int) (A : Nat) : (labOf a A).size ≤ 714 := by
  unfold labOf labL
  rw [ba_size, List.length_append]
  have h1 := decL_len a
  have h2 := printTail_len (catsFrom A 0) 58
  have h3 := catsFrom_le A 0
  omega
end Go.Proofs.YthppicgolkpbaaaDoor.P

/- jalousieref01.Words, by hand: it tells just what strings.Split at a blank tells; condition: fewer than 2^32 - 15 bytes. -/
import Derived.Test.YthaimkdnddmokaaDoorWireCodesGHTabs
import Derived.Test.YthaimkdnddmokaaDoorWireCodesHStrings
import Derived.Test.YthaimkdnddmokaaDoorWireCodesGHBase
import Derived.Lib.Hide
import Derived.IntWalk
namespace Go.Proofs.YthaimkdnddmokaaDoor.P
open Go.RowKit Go.Proofs.YthaimkdnddmokaaDoorW.PrintWords Go.Proofs.YthaimkdnddmokaaDoorW.PrintLast Go.Proofs.YthaimkdnddmokaaDoorW.PrintMore
set_option linter.unusedVariables false
set_option linter.unusedSimpArgs false
theorem splitC_ne (c : UInt8) (l : List UInt8) : splitC c l ≠ [] := by
  cases l with
  | nil => simp [splitC]
  | cons b l =>
    unfold splitC
    split
    · simp
    · split <;> simp
end Go.Proofs.YthaimkdnddmokaaDoor.P

/- jalousieref21.Cut: what is ahead of the first byte 10, and behind it; condition: fewer than 2^47 bytes. -/
import Derived.Test.YthaimkdnddmokaaDoorWireRequestsHWirePlain
import Derived.Test.YthaimkdnddmokaaDoorWireRequestsGHWBytes
namespace Go.Proofs.YthaimkdnddmokaaDoor.P
open Go.RowKit Go.Proofs.YthaimkdnddmokaaDoorW.PrintWords Go.Proofs.YthaimkdnddmokaaDoorW.PrintLast Go.Proofs.YthaimkdnddmokaaDoorW.PrintMore
set_option linter.unusedVariables false
set_option linter.unusedSimpArgs false
def refcut5.T : Bool × List (List Nat × List Nat) := (true, [([], []), ([], []), ([0, 1], [0, 1]), ([2], [2]), ([], []), ([], []), ([], []), ([6], [6]), ([5, 7], [5, 7]), ([4, 8], [4, 8]), ([3, 9, 0, 1, 2, 3], [3]), ([9, 10, 0, 1, 2, 3, 4, 5, 6, 7, 8, 9, 10], [9]), ([11, 0, 1, 2, 3, 4, 5, 6, 7, 8, 9, 10, 11], [])])
def refcut5.B : List Nat := [0, 0, 3, 7, 0, 0, 0, 64, 224, 496, 1023, 2047, 4095]
theorem refcut5.tab : rtab .any (opsOf Tryd.f28 5) = refcut5.T := by kernel_rfl
theorem refcut5.bits : waitsOk refcut5.T.2 refcut5.B = true := by kernel_rfl
end Go.Proofs.YthaimkdnddmokaaDoor.P

/- plain laws of labels: join, meet, and below, as numbers' bits -/
-- no module for label_Join
-- no module for label_Meet
-- no module for label_Below
import Derived.Test.YthaimkdnddmokaaDoorWireRequestsGHWBytes
import Derived.Laws.Bits64b
import Derived.Laws.BitsAllLaws
import Derived.Test.YthaimkdnddmokaaDoorWireRequestsPxLabel
namespace Go.Proofs.YthaimkdnddmokaaDoor.P
open Go.RowKit Go.Proofs.YthaimkdnddmokaaDoorW.PrintWords Go.Proofs.YthaimkdnddmokaaDoorW.PrintLast Go.Proofs.YthaimkdnddmokaaDoorW.PrintMore
set_option linter.unusedVariables false
set_option linter.unusedSimpArgs false
theorem or_lt (A B : Nat) (hA : A < 18446744073709551616) (hB : B < 18446744073709551616) : A ||| B < 18446744073709551616 := Nat.or_lt_two_pow (n := 64) (by omega) (by omega)
end Go.Proofs.YthaimkdnddmokaaDoor.P

/- plain laws of labels: join, meet, and below, as numbers' bits -/
import Derived.Test.YtlhodalfbmdnnaaDoorLabelBackPx0
import Derived.Laws.Bits64b
import Derived.Laws.BitsAllLaws
import Derived.Test.YtlhodalfbmdnnaaDoorLabelBackPxLabel
namespace Go.Proofs.YtlhodalfbmdnnaaDoor.P
open Go.RowKit Go.Proofs.YtlhodalfbmdnnaaDoorW.PrintWords Go.Proofs.YtlhodalfbmdnnaaDoorW.PrintLast Go.Proofs.YtlhodalfbmdnnaaDoorW.PrintMore
set_option linter.unusedVariables false
set_option linter.unusedSimpArgs false
theorem or_lt (A B : Nat) (hA : A < 18446744073709551616) (hB : B < 18446744073709551616) : A ||| B < 18446744073709551616 := Nat.or_lt_two_pow (n := 64) (by omega) (by omega)
end Go.Proofs.YtlhodalfbmdnnaaDoor.P

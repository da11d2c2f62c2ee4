/- plain laws of a label's categories: both programs tell the places of its bits, in order; the reference's join, meet and order are those of the bits -/
import Derived.Test.YtlhodalfbmdnnaaDoorLabelLatticeHLabelLaws
import Derived.Test.YtlhodalfbmdnnaaDoorLabelLatticeHPick
import Derived.Test.YtlhodalfbmdnnaaDoorLabelLatticeHBits
import Derived.Test.YtlhodalfbmdnnaaDoorLabelLatticeHBase
import Derived.Test.YtlhodalfbmdnnaaDoorLabelLatticePxLabel
import Derived.Test.YtlhodalfbmdnnaaDoorLabelLatticePx0
import Derived.Test.YtlhodalfbmdnnaaDoorLabelLatticeHTabs
namespace Go.Proofs.YtlhodalfbmdnnaaDoor.P
open Go.RowKit Go.Proofs.YtlhodalfbmdnnaaDoorW.PrintWords Go.Proofs.YtlhodalfbmdnnaaDoorW.PrintLast Go.Proofs.YtlhodalfbmdnnaaDoorW.PrintMore
set_option linter.unusedVariables false
set_option linter.unusedSimpArgs false
theorem right_tells (a : Int) (A : Int) : label_Right.f a A = some (decide (0 ≤ a) && decide (a ≤ 15)) := by
  unfold label_Right.f
  by_cases h : a ≥ 0
  · rw [if_pos h]; simp [h]
  · rw [if_neg h]; simp; omega
end Go.Proofs.YtlhodalfbmdnnaaDoor.P

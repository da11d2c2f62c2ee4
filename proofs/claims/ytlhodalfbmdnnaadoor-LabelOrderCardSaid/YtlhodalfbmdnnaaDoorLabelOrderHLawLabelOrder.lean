/- jalousielaw02.LabelOrder: the printed function answers true; no condition but the numbers' own bounds. -/
import Derived.Test.YtlhodalfbmdnnaaDoorLabelOrderPx0
import Derived.Test.YtlhodalfbmdnnaaDoorLabelOrderHLabelCats
import Derived.Test.YtlhodalfbmdnnaaDoorLabelOrderHLive02
import Derived.Test.YtlhodalfbmdnnaaDoorLabelOrderPxLLabelOrder
namespace Go.Proofs.YtlhodalfbmdnnaaDoor.P
open Go.RowKit Go.Proofs.YtlhodalfbmdnnaaDoorW.PrintWords Go.Proofs.YtlhodalfbmdnnaaDoorW.PrintLast Go.Proofs.YtlhodalfbmdnnaaDoorW.PrintMore
set_option linter.unusedVariables false
set_option linter.unusedSimpArgs false
theorem LabelOrder_true (a : Int) (A : Nat) (b : Int) (B : Nat) (hA : A < 18446744073709551616) (hB : B < 18446744073709551616) : jalousielaw02_LabelOrder.f 100 a (A : Int) b (B : Int) = some true := by
  unfold jalousielaw02_LabelOrder.f jalousielaw02_live.f
  rw [right_tells, ref_right_tells, label_Below_tells a b A B hA hB, ref_Below_label_tells a b A B 100 hA (by omega), label_Join_tells a b A B hA hB, ref_Join_label_tells a b A B hA hB, label_Meet_tells a b A B hA hB, ref_Meet_label_tells a b A B hA hB]
  simp
theorem LabelOrder.walk (a : Int) (A : Nat) (b : Int) (B : Nat) (w : World) (hT : Tabs w) (hA : A < 18446744073709551616) (hB : B < 18446744073709551616) :
    Calls Tryd.prog 12 #[.agg #[.int .i64 a, .int .u64 (A : Int)], .agg #[.int .i64 b, .int .u64 (B : Int)]] w fun e w' => e = .returned (.bool true) ∧ Below w.heap.size w w' :=
  jalousielaw02_LabelOrder.calls 100 a A b B true w hT (LabelOrder_true a A b B hA hB)
end Go.Proofs.YtlhodalfbmdnnaaDoor.P

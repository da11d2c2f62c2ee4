/- jalousielaw02.LabelTexts: the printed function answers true; conditions: the numbers' own bounds, and fewer than 2^32 - 15 bytes. -/
import Derived.Test.YtlhodalfbmdnnaaDoorLabelTextsHLabelRead
import Derived.Test.YtlhodalfbmdnnaaDoorLabelTextsHLive02
import Derived.Test.YtlhodalfbmdnnaaDoorLabelTextsPxLLabelTexts
namespace Go.Proofs.YtlhodalfbmdnnaaDoor.P
open Go.RowKit Go.Proofs.YtlhodalfbmdnnaaDoorW.PrintWords Go.Proofs.YtlhodalfbmdnnaaDoorW.PrintLast Go.Proofs.YtlhodalfbmdnnaaDoorW.PrintMore
set_option linter.unusedVariables false
set_option linter.unusedSimpArgs false
theorem LabelTexts_true (a : Int) (A : Nat) (s : ByteArray) (hA : A < 18446744073709551616) (hs : s.size < 4294967281) : jalousielaw02_LabelTexts.f (3 * s.size + 120) a (A : Int) s = some true := by
  unfold jalousielaw02_LabelTexts.f jalousielaw02_live.f
  rw [label_Parse_tells s hs, ref_Parse_label_tells s (by omega) _ (by omega), text_Print_tells a A _ hA (by omega), ref_Print_label_tells a A _ (by omega)]
  simp
theorem LabelTexts.walk (a : Int) (A : Nat) (s : ByteArray) (w : World) (hT : Tabs w) (hA : A < 18446744073709551616) (hs : s.size < 4294967281) :
    Calls Tryd.prog 10 #[.agg #[.int .i64 a, .int .u64 (A : Int)], .string s] w fun e w' => e = .returned (.bool true) ∧ Below w.heap.size w w' :=
  jalousielaw02_LabelTexts.calls (3 * s.size + 120) a A s true w hT (LabelTexts_true a A s hA hs)
end Go.Proofs.YtlhodalfbmdnnaaDoor.P

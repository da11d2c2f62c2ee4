/- plain laws of lines: sizes, and the ways back -/
import Derived.Test.YtlhodalfbmdnnaaDoorTextOwnPx0
import Derived.Test.YtlhodalfbmdnnaaDoorTextOwnHLines
import Derived.Test.YtlhodalfbmdnnaaDoorTextOwnHRefLines
import Derived.Test.YtlhodalfbmdnnaaDoorTextOwnHJoin
namespace Go.Proofs.YtlhodalfbmdnnaaDoor.P
open Go.RowKit Go.Proofs.YtlhodalfbmdnnaaDoorW.PrintWords Go.Proofs.YtlhodalfbmdnnaaDoorW.PrintLast Go.Proofs.YtlhodalfbmdnnaaDoorW.PrintMore
set_option linter.unusedVariables false
set_option linter.unusedSimpArgs false
theorem linesAcc_le : ∀ (ys cur : List Int), (linesAcc cur ys).length ≤ ys.length + 1
  | [], cur => by unfold linesAcc; split <;> simp
  | c :: l, cur => by
    unfold linesAcc
    split
    · have := linesAcc_le l []; simp only [List.length_cons]; omega
    · have := linesAcc_le l (cur ++ [c]); simp only [List.length_cons]; omega
theorem linesOf_le (l : List Int) : (linesOf l).length ≤ l.length + 1 := linesAcc_le l []
theorem str_of_bytes (s : ByteArray) : strOfNums (bytesOf s) = s := by
  apply ByteArray.ext
  apply Array.toList_inj.1
  simp [strOfNums, bytesOf, Function.comp_def]
theorem str_join : ∀ (ys cur : List Int), strOfNums (joinOf (linesAcc cur ys)) = strOfNums (cur ++ ys)
  | [], cur => by
    unfold linesAcc
    split
    · rename_i h; subst h; rfl
    · simp [joinOf, nlOf, str_of_bytes]
  | c :: l, cur => by
    unfold linesAcc
    split
    · rename_i h
      subst h
      simp only [joinOf, nlOf, if_neg (show ¬ (false = true) by decide)]
      rw [← strOfNums_snoc, ← strOfNums_snoc, str_of_bytes, str_join l [], strOfNums_snoc, strOfNums_snoc]
      simp
    · rw [str_join l (cur ++ [c])]; simp
theorem back_join (l : List Int) : strOfNums (joinOf (linesOf l)) = strOfNums l := str_join l []
end Go.Proofs.YtlhodalfbmdnnaaDoor.P

/- jalousieref01.Words, by hand: it tells just what strings.Split at a blank tells; condition: fewer than 2^32 - 15 bytes. -/
import Derived.Test.YtlhodalfbmdnnaaDoorLabelTextsPx0
import Derived.Test.YtlhodalfbmdnnaaDoorLabelTextsHStrings
import Derived.Test.YtlhodalfbmdnnaaDoorLabelTextsHTabs
import Derived.Test.YtlhodalfbmdnnaaDoorLabelTextsHBase
import Derived.Lib.Hide
import Derived.IntWalk
namespace Go.Proofs.YtlhodalfbmdnnaaDoor.P
open Go.RowKit Go.Proofs.YtlhodalfbmdnnaaDoorW.PrintWords Go.Proofs.YtlhodalfbmdnnaaDoorW.PrintLast Go.Proofs.YtlhodalfbmdnnaaDoorW.PrintMore
set_option linter.unusedVariables false
set_option linter.unusedSimpArgs false
theorem extract_one (s : ByteArray) (i : Nat) (h : i < s.size) (cur : List UInt8) : baOf cur ++ s.extract i (i + 1) = baOf (cur ++ [s.data.toList[i]'(by rw [data_length]; exact h)]) := by
  apply ByteArray.ext
  apply Array.toList_inj.1
  have hl : i < s.data.toList.length := by rw [data_length]; exact h
  simp only [ByteArray.data_append, Array.toList_append, baOf_data, ByteArray.data_extract, Array.toList_extract]
  rw [List.extract_eq_take_drop, show i + 1 - i = 1 by omega, List.drop_eq_getElem_cons hl]
  rfl
end Go.Proofs.YtlhodalfbmdnnaaDoor.P

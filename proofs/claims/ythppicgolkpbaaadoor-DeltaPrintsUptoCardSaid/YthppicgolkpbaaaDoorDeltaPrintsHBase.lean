/- small lemmas on bytes -/
import Derived.Test.YthppicgolkpbaaaDoorDeltaPrintsPx0
import Derived.Lib.Hide
namespace Go.Proofs.YthppicgolkpbaaaDoor.P
open Go.RowKit Go.Proofs.YthppicgolkpbaaaDoorW.PrintWords Go.Proofs.YthppicgolkpbaaaDoorW.PrintLast Go.Proofs.YthppicgolkpbaaaDoorW.PrintMore
set_option linter.unusedVariables false
set_option linter.unusedSimpArgs false
theorem bt_data (s : ByteArray) (i : Nat) (h : i < s.size) : bt s (i : Int) = ((s.data.toList[i]'(by rw [data_length]; exact h)).toNat : Int) := by
  unfold bt
  rw [dif_pos (by simpa using h)]
  rfl
theorem byte_is (s : ByteArray) (i : Nat) (h : i < s.size) (c : UInt8) : (s.data.toList[i]'(by rw [data_length]; exact h)) = c ↔ bt s (i : Int) = (c.toNat : Int) := by
  rw [bt_data s i h]
  constructor
  · intro e; rw [e]
  · intro e; apply UInt8.toNat_inj.1; omega
theorem w64 (n : Int) (h0 : -9223372036854775808 ≤ n) (h1 : n ≤ 9223372036854775807) : wrap64 n = n := by unfold wrap64; omega
theorem toList_data (s : ByteArray) : s.toList = s.data.toList := by
  exact ByteArray.toList_eq s
end Go.Proofs.YthppicgolkpbaaaDoor.P

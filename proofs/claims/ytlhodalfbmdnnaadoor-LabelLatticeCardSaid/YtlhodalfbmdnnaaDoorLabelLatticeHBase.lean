/- small lemmas on bytes -/
import Derived.Test.YtlhodalfbmdnnaaDoorLabelLatticePx0
import Derived.Lib.Hide
namespace Go.Proofs.YtlhodalfbmdnnaaDoor.P
open Go.RowKit Go.Proofs.YtlhodalfbmdnnaaDoorW.PrintWords Go.Proofs.YtlhodalfbmdnnaaDoorW.PrintLast Go.Proofs.YtlhodalfbmdnnaaDoorW.PrintMore
set_option linter.unusedVariables false
set_option linter.unusedSimpArgs false
theorem bt_data (s : ByteArray) (i : Nat) (h : i < s.size) : bt s (i : Int) = ((s.data.toList[i]'(by rw [data_length]; exact h)).toNat : Int) := by
  unfold bt
  rw [dif_pos (by simpa using h)]
  rfl
theorem drop_bt (s : ByteArray) (i : Nat) (h : i < s.size) : ∃ b : UInt8, s.data.toList.drop i = b :: s.data.toList.drop (i + 1) ∧ (b.toNat : Int) = bt s (i : Int) := by
  refine ⟨_, List.drop_eq_getElem_cons (by rw [data_length]; exact h), (bt_data s i h).symm⟩
theorem w64 (n : Int) (h0 : -9223372036854775808 ≤ n) (h1 : n ≤ 9223372036854775807) : wrap64 n = n := by unfold wrap64; omega
theorem toList_data (s : ByteArray) : s.toList = s.data.toList := by
  exact ByteArray.toList_eq s
theorem pow_le9 (i : Nat) (h : i ≤ 9) : (10 : Int) ^ i ≤ 1000000000 := by
  have h1 := Nat.pow_le_pow_right (n := 10) (by omega) h
  have h2 : ((10 : Int) ^ i) = ((10 ^ i : Nat) : Int) := by simp
  rw [h2]; omega
theorem toList_nil (s : ByteArray) : s.toList = [] ↔ s.size = 0 := by
  rw [toList_data, ← data_length, List.length_eq_zero_iff]
end Go.Proofs.YtlhodalfbmdnnaaDoor.P

/- what this claim needs of the words and the printed functions; conditions: as each statement says -/
import Derived.Test.YthaimkdnddmokaaDoorWireParsesGHTabs
import Derived.Laws.Bits64b
import Derived.Laws.BitsAllLaws
import Derived.Test.YthaimkdnddmokaaDoorWireParsesPxLabel
import Derived.Lib.Hide
namespace Go.Proofs.YthaimkdnddmokaaDoor.P
open Go.RowKit Go.Proofs.YthaimkdnddmokaaDoorW.PrintWords Go.Proofs.YthaimkdnddmokaaDoorW.PrintLast Go.Proofs.YthaimkdnddmokaaDoorW.PrintMore
set_option linter.unusedVariables false
set_option linter.unusedSimpArgs false
theorem or_lt (A B : Nat) (hA : A < 18446744073709551616) (hB : B < 18446744073709551616) : A ||| B < 18446744073709551616 := Nat.or_lt_two_pow (n := 64) (by omega) (by omega)
end Go.Proofs.YthaimkdnddmokaaDoor.P
namespace Go.Proofs.YthaimkdnddmokaaDoor.P
open Go.RowKit Go.Proofs.YthaimkdnddmokaaDoorW.PrintWords Go.Proofs.YthaimkdnddmokaaDoorW.PrintLast Go.Proofs.YthaimkdnddmokaaDoorW.PrintMore
set_option linter.unusedVariables false
set_option linter.unusedSimpArgs false
/-- the two labels in memory -/
structure PickMem (w W : World) (g g' : Nat) (a0_0 a0_1 a1_0 a1_1 : Int) : Prop where
  bk : W.heap[g]? = some (.cells #[.int .i64 a0_0, .int .u64 a0_1] 26 (0, 0))
  bk' : W.heap[g']? = some (.cells #[.int .i64 a1_0, .int .u64 a1_1] 26 (0, 0))
  below : Below w.heap.size w W
theorem PickMem.step {w W W' : World} {g g' : Nat} {a b c d : Int} (h : PickMem w W g g' a b c d) (hb : Below W.heap.size W W') : PickMem w W' g g' a b c d :=
  ⟨blk_below h.bk hb, blk_below h.bk' hb, below_step h.below hb⟩
theorem PickMem.cells {w W : World} {g g' : Nat} {a b c d : Int} (h : PickMem w W g g' a b c d) :
    (W.cell? ⟨g, 0, none⟩ = some (.int .i64 a) ∧ W.cell? ⟨g, 1, none⟩ = some (.int .u64 b)) ∧ W.cell? ⟨g', 0, none⟩ = some (.int .i64 c) ∧ W.cell? ⟨g', 1, none⟩ = some (.int .u64 d) :=
  ⟨⟨(blk_cell h.bk 0).trans rfl, (blk_cell h.bk 1).trans rfl⟩, (blk_cell h.bk' 0).trans rfl, (blk_cell h.bk' 1).trans rfl⟩
end Go.Proofs.YthaimkdnddmokaaDoor.P
namespace Go.Proofs.YthaimkdnddmokaaDoor.P
open Go.RowKit Go.Proofs.YthaimkdnddmokaaDoorW.PrintWords Go.Proofs.YthaimkdnddmokaaDoorW.PrintLast Go.Proofs.YthaimkdnddmokaaDoorW.PrintMore
set_option linter.unusedVariables false
set_option linter.unusedSimpArgs false
theorem bt_data (s : ByteArray) (i : Nat) (h : i < s.size) : bt s (i : Int) = ((s.data.toList[i]'(by rw [data_length]; exact h)).toNat : Int) := by
  unfold bt
  rw [dif_pos (by simpa using h)]
  rfl
theorem byte_is (s : ByteArray) (i : Nat) (h : i < s.size) (c : UInt8) : (s.data.toList[i]'(by rw [data_length]; exact h)) = c ↔ bt s (i : Int) = (c.toNat : Int) := by
  rw [bt_data s i h]
  constructor
  · intro e; rw [e]
  · intro e; apply UInt8.toNat_inj.1; omega
theorem drop_bt (s : ByteArray) (i : Nat) (h : i < s.size) : ∃ b : UInt8, s.data.toList.drop i = b :: s.data.toList.drop (i + 1) ∧ (b.toNat : Int) = bt s (i : Int) := by
  refine ⟨_, List.drop_eq_getElem_cons (by rw [data_length]; exact h), (bt_data s i h).symm⟩
theorem w64 (n : Int) (h0 : -9223372036854775808 ≤ n) (h1 : n ≤ 9223372036854775807) : wrap64 n = n := by unfold wrap64; omega
theorem toList_data (s : ByteArray) : s.toList = s.data.toList := by
  exact ByteArray.toList_eq s
theorem pow_le9 (i : Nat) (h : i ≤ 9) : (10 : Int) ^ i ≤ 1000000000 := by
  have h1 := Nat.pow_le_pow_right (n := 10) (by omega) h
  have h2 : ((10 : Int) ^ i) = ((10 ^ i : Nat) : Int) := by simp
  rw [h2]; omega
theorem toList_nil (s : ByteArray) : s.toList = [] ↔ s.size = 0 := by
  rw [toList_data, ← data_length, List.length_eq_zero_iff]
end Go.Proofs.YthaimkdnddmokaaDoor.P

/- what this claim needs of the words and the printed functions; conditions: as each statement says -/
import Derived.Test.YthaimkdnddmokaaDoorWireBackGHTabs
import Derived.Test.YthaimkdnddmokaaDoorWireBackGHBase
import Derived.Test.YthaimkdnddmokaaDoorWireBackPxText
import Derived.Lib.Hide
import Derived.WalkMore
import Derived.Test.YthaimkdnddmokaaDoorWireBackHStrings
namespace Go.Proofs.YthaimkdnddmokaaDoor.P
open Go.RowKit Go.Proofs.YthaimkdnddmokaaDoorW.PrintWords Go.Proofs.YthaimkdnddmokaaDoorW.PrintLast Go.Proofs.YthaimkdnddmokaaDoorW.PrintMore
set_option linter.unusedVariables false
set_option linter.unusedSimpArgs false
def nameB (b : UInt8) : Bool := decide (33 ≤ (b.toNat : Int)) && decide ((b.toNat : Int) ≤ 126)
def nameOf (s : ByteArray) : Bool := s.data.toList.all nameB && (decide (1 ≤ s.size) && decide (s.size ≤ 64))
theorem text_name_l (s : ByteArray) (hs : s.size ≤ 140737488355328) (d : Nat) : ∀ (i k : Nat), i + d = s.size → d < k → text_Name.l0 k s (s.size : Int) (i : Int) = some ((s.data.toList.drop i).all nameB && (decide (1 ≤ s.size) && decide (s.size ≤ 64))) := by
  induction d with
  | zero =>
    intro i k hi hk
    obtain ⟨k, rfl⟩ : ∃ m, k = m + 1 := ⟨k - 1, by omega⟩
    rw [List.drop_eq_nil_of_le (by rw [data_length]; omega)]
    simp only [text_Name.l0]
    rw [if_neg (by omega)]
    simp only [toList_nil, List.all_nil, Bool.true_and]
    by_cases h0 : s.size = 0
    · rw [if_pos h0, h0]; rfl
    · rw [if_neg h0]
      have e : decide (1 ≤ s.size) = true := decide_eq_true (by omega)
      rw [e, Bool.true_and]
      congr 1
      by_cases h1 : s.size ≤ 64
      · rw [decide_eq_true h1, decide_eq_true (by omega)]
      · rw [decide_eq_false h1, decide_eq_false (by omega)]
  | succ d ih =>
    intro i k hi hk
    obtain ⟨k, rfl⟩ : ∃ m, k = m + 1 := ⟨k - 1, by omega⟩
    obtain ⟨b, hb, hbt⟩ := drop_bt s i (by omega)
    simp only [text_Name.l0]
    rw [if_pos (by omega), if_pos (by omega), if_pos (by omega), hb, List.all_cons]
    unfold nameB
    rw [hbt]
    by_cases h1 : bt s (i : Int) ≤ 32
    · rw [if_pos h1, decide_eq_false (show ¬ 33 ≤ bt s (i : Int) by omega)]; rfl
    · rw [if_neg h1, decide_eq_true (show 33 ≤ bt s (i : Int) by omega)]
      by_cases h2 : bt s (i : Int) > 126
      · rw [if_pos h2, decide_eq_false (show ¬ bt s (i : Int) ≤ 126 by omega)]; rfl
      · rw [if_neg h2, decide_eq_true (show bt s (i : Int) ≤ 126 by omega), w64 _ (by omega) (by omega)]
        exact ih (i + 1) k (by omega) (by omega)
theorem text_Name_tells (s : ByteArray) (hs : s.size ≤ 140737488355328) : text_Name.f (s.size + 1) s = some (nameOf s) := text_name_l s hs s.size 0 (s.size + 1) (by omega) (by omega)
end Go.Proofs.YthaimkdnddmokaaDoor.P
namespace Go.Proofs.YthaimkdnddmokaaDoor.P
open Go.RowKit Go.Proofs.YthaimkdnddmokaaDoorW.PrintWords Go.Proofs.YthaimkdnddmokaaDoorW.PrintLast Go.Proofs.YthaimkdnddmokaaDoorW.PrintMore
set_option linter.unusedVariables false
set_option linter.unusedSimpArgs false
theorem str_of_bytes (s : ByteArray) : strOfNums (bytesOf s) = s := by
  apply ByteArray.ext
  apply Array.toList_inj.1
  simp [strOfNums, bytesOf, Function.comp_def]
end Go.Proofs.YthaimkdnddmokaaDoor.P

/- what text.Name and the reference's Name tell -/
import Derived.Test.YthaimkdnddmokaaDoorWireParsesGHTabs
import Derived.Test.YthaimkdnddmokaaDoorWireParsesGHBase
import Derived.Test.YthaimkdnddmokaaDoorWireParsesPxText
import Derived.Test.YthaimkdnddmokaaDoorWireParsesPxJalousieref01
namespace Go.Proofs.YthaimkdnddmokaaDoor.P
open Go.RowKit Go.Proofs.YthaimkdnddmokaaDoorW.PrintWords Go.Proofs.YthaimkdnddmokaaDoorW.PrintLast Go.Proofs.YthaimkdnddmokaaDoorW.PrintMore
set_option linter.unusedVariables false
set_option linter.unusedSimpArgs false
def nameB (b : UInt8) : Bool := decide (33 ≤ (b.toNat : Int)) && decide ((b.toNat : Int) ≤ 126)
def nameOf (s : ByteArray) : Bool := s.data.toList.all nameB && (decide (1 ≤ s.size) && decide (s.size ≤ 64))
theorem text_name_l (s : ByteArray) (hs : s.size ≤ 140737488355328) (d : Nat) : ∀ (i k : Nat), i + d = s.size → d < k → text_Name.l0 k s (s.size : Int) (i : Int) = some ((s.data.toList.drop i).all nameB && (decide (1 ≤ s.size) && decide (s.size ≤ 64))) := by
  induction d with
  | zero =>
    intro i k hi hk
    obtain ⟨k, rfl⟩ : ∃ m, k = m + 1 := ⟨k - 1, by omega⟩
    rw [List.drop_eq_nil_of_le (by rw [data_length]; omega)]
    simp only [text_Name.l0]
    rw [if_neg (by omega)]
    simp only [toList_nil, List.all_nil, Bool.true_and]
    by_cases h0 : s.size = 0
    · rw [if_pos h0, h0]; rfl
    · rw [if_neg h0]
      have e : decide (1 ≤ s.size) = true := decide_eq_true (by omega)
      rw [e, Bool.true_and]
      congr 1
      by_cases h1 : s.size ≤ 64
      · rw [decide_eq_true h1, decide_eq_true (by omega)]
      · rw [decide_eq_false h1, decide_eq_false (by omega)]
  | succ d ih =>
    intro i k hi hk
    obtain ⟨k, rfl⟩ : ∃ m, k = m + 1 := ⟨k - 1, by omega⟩
    obtain ⟨b, hb, hbt⟩ := drop_bt s i (by omega)
    simp only [text_Name.l0]
    rw [if_pos (by omega), if_pos (by omega), if_pos (by omega), hb, List.all_cons]
    unfold nameB
    rw [hbt]
    by_cases h1 : bt s (i : Int) ≤ 32
    · rw [if_pos h1, decide_eq_false (show ¬ 33 ≤ bt s (i : Int) by omega)]; rfl
    · rw [if_neg h1, decide_eq_true (show 33 ≤ bt s (i : Int) by omega)]
      by_cases h2 : bt s (i : Int) > 126
      · rw [if_pos h2, decide_eq_false (show ¬ bt s (i : Int) ≤ 126 by omega)]; rfl
      · rw [if_neg h2, decide_eq_true (show bt s (i : Int) ≤ 126 by omega), w64 _ (by omega) (by omega)]
        exact ih (i + 1) k (by omega) (by omega)
theorem ref_name_l (s : ByteArray) (hs : s.size ≤ 140737488355328) (d : Nat) : ∀ (i k : Nat), i + d = s.size → d < k → jalousieref01_Name.l0 k s (i : Int) = some ((s.data.toList.drop i).all nameB) := by
  induction d with
  | zero =>
    intro i k hi hk
    obtain ⟨k, rfl⟩ : ∃ m, k = m + 1 := ⟨k - 1, by omega⟩
    rw [List.drop_eq_nil_of_le (by rw [data_length]; omega)]
    simp only [jalousieref01_Name.l0]
    rw [if_neg (by omega)]; rfl
  | succ d ih =>
    intro i k hi hk
    obtain ⟨k, rfl⟩ : ∃ m, k = m + 1 := ⟨k - 1, by omega⟩
    obtain ⟨b, hb, hbt⟩ := drop_bt s i (by omega)
    simp only [jalousieref01_Name.l0]
    rw [if_pos (by omega), if_pos (by omega), hb, List.all_cons]
    unfold nameB
    rw [hbt]
    by_cases h1 : bt s (i : Int) < 33
    · rw [if_pos h1, decide_eq_false (show ¬ 33 ≤ bt s (i : Int) by omega)]; rfl
    · rw [if_neg h1, decide_eq_true (show 33 ≤ bt s (i : Int) by omega)]
      by_cases h2 : bt s (i : Int) > 126
      · rw [if_pos h2, decide_eq_false (show ¬ bt s (i : Int) ≤ 126 by omega)]; rfl
      · rw [if_neg h2, decide_eq_true (show bt s (i : Int) ≤ 126 by omega), w64 _ (by omega) (by omega)]
        exact ih (i + 1) k (by omega) (by omega)
theorem text_Name_tells (s : ByteArray) (hs : s.size ≤ 140737488355328) : text_Name.f (s.size + 1) s = some (nameOf s) := text_name_l s hs s.size 0 (s.size + 1) (by omega) (by omega)
theorem ref_Name_tells (s : ByteArray) (hs : s.size ≤ 140737488355328) : jalousieref01_Name.f (s.size + 2) s = some (nameOf s) := by
  unfold jalousieref01_Name.f nameOf
  have hl := ref_name_l s hs s.size 0 (s.size + 1) (by omega) (by omega)
  by_cases h0 : (s.size : Int) < 1
  · rw [if_pos h0, decide_eq_false (show ¬ 1 ≤ s.size by omega)]
    simp [jalousieref01_Name.j0]
  · rw [if_neg h0, decide_eq_true (show 1 ≤ s.size by omega)]
    by_cases h1 : (s.size : Int) > 64
    · rw [decide_eq_true h1, decide_eq_false (show ¬ s.size ≤ 64 by omega)]
      simp [jalousieref01_Name.j0]
    · rw [decide_eq_false h1, decide_eq_true (show s.size ≤ 64 by omega)]
      simp only [jalousieref01_Name.j0, Bool.and_true]
      rw [if_neg (by decide)]
      exact hl
end Go.Proofs.YthaimkdnddmokaaDoor.P

/- what this claim needs of the words and the printed functions; conditions: as each statement says -/
import Derived.Test.YthppicgolkpbaaaDoorDeltaTextsPx0
import Derived.Test.YthppicgolkpbaaaDoorDeltaTextsGHLines
import Derived.Lib.Hide
import Derived.Test.YthppicgolkpbaaaDoorDeltaTextsGHBBuilder
namespace Go.Proofs.YthppicgolkpbaaaDoor.P
open Go.RowKit Go.Proofs.YthppicgolkpbaaaDoorW.PrintWords Go.Proofs.YthppicgolkpbaaaDoorW.PrintLast Go.Proofs.YthppicgolkpbaaaDoorW.PrintMore
set_option linter.unusedVariables false
set_option linter.unusedSimpArgs false
theorem strOfNums_snoc (a b : List Int) : strOfNums a ++ strOfNums b = strOfNums (a ++ b) := by
  unfold strOfNums
  apply ByteArray.ext
  simp
end Go.Proofs.YthppicgolkpbaaaDoor.P
namespace Go.Proofs.YthppicgolkpbaaaDoor.P
open Go.RowKit Go.Proofs.YthppicgolkpbaaaDoorW.PrintWords Go.Proofs.YthppicgolkpbaaaDoorW.PrintLast Go.Proofs.YthppicgolkpbaaaDoorW.PrintMore
set_option linter.unusedVariables false
set_option linter.unusedSimpArgs false
theorem indexByte_mem (c : UInt8) (l : List UInt8) : 0 ≤ Lib.indexByte l c ↔ c ∈ l := by
  constructor
  · intro h
    obtain ⟨i, hi⟩ := Int.eq_ofNat_of_zero_le h
    exact List.mem_of_getElem? (Lib.indexByte_some hi).1
  · intro h
    rcases indexByte_cases c l with ⟨h1, _⟩ | ⟨i, h1, _⟩
    · exfalso
      obtain ⟨k, hk⟩ := List.getElem?_of_mem h
      exact Lib.indexByte_none h1 k hk
    · omega
end Go.Proofs.YthppicgolkpbaaaDoor.P
namespace Go.Proofs.YthppicgolkpbaaaDoor.P
open Go.RowKit Go.Proofs.YthppicgolkpbaaaDoorW.PrintWords Go.Proofs.YthppicgolkpbaaaDoorW.PrintLast Go.Proofs.YthppicgolkpbaaaDoorW.PrintMore
set_option linter.unusedVariables false
set_option linter.unusedSimpArgs false
theorem linesAcc_le : ∀ (ys cur : List Int), (linesAcc cur ys).length ≤ ys.length + 1
  | [], cur => by unfold linesAcc; split <;> simp
  | c :: l, cur => by
    unfold linesAcc
    split
    · have := linesAcc_le l []; simp only [List.length_cons]; omega
    · have := linesAcc_le l (cur ++ [c]); simp only [List.length_cons]; omega
theorem linesOf_le (l : List Int) : (linesOf l).length ≤ l.length + 1 := linesAcc_le l []
theorem str_of_bytes (s : ByteArray) : strOfNums (bytesOf s) = s := by
  apply ByteArray.ext
  apply Array.toList_inj.1
  simp [strOfNums, bytesOf, Function.comp_def]
theorem str_join : ∀ (ys cur : List Int), strOfNums (joinOf (linesAcc cur ys)) = strOfNums (cur ++ ys)
  | [], cur => by
    unfold linesAcc
    split
    · rename_i h; subst h; rfl
    · simp [joinOf, nlOf, str_of_bytes]
  | c :: l, cur => by
    unfold linesAcc
    split
    · rename_i h
      subst h
      simp only [joinOf, nlOf, if_neg (show ¬ (false = true) by decide)]
      rw [← strOfNums_snoc, ← strOfNums_snoc, str_of_bytes, str_join l [], strOfNums_snoc, strOfNums_snoc]
      simp
    · rw [str_join l (cur ++ [c])]; simp
theorem back_join (l : List Int) : strOfNums (joinOf (linesOf l)) = strOfNums l := str_join l []
theorem lines_run : ∀ (a cur rest : List Int), (10 : Int) ∉ a → linesAcc cur (a ++ rest) = linesAcc (cur ++ a) rest
  | [], cur, rest, _ => by simp
  | x :: a, cur, rest, h => by
    have hx : x ≠ 10 := fun e => h (by simp [e])
    have ha : (10 : Int) ∉ a := fun e => h (by simp [e])
    rw [List.cons_append, linesAcc, if_neg hx, lines_run a _ rest ha, List.append_assoc]; rfl
theorem bytes_nl (s : ByteArray) (h : ¬ 0 ≤ Lib.indexByte s.data.toList 10) : (10 : Int) ∉ bytesOf s := by
  rw [indexByte_mem] at h
  intro hm
  simp only [bytesOf, List.mem_map] at hm
  obtain ⟨b, hb, e⟩ := hm
  apply h
  have : b = 10 := by apply UInt8.toNat_inj.1; have h3 : (10 : UInt8).toNat = 10 := rfl; rw [h3]; omega
  exact this ▸ hb
theorem lines_back : ∀ (l : List S39), rightOf l = true → linesOf (joinOf l) = l
  | [], _ => rfl
  | x :: l, h => by
    simp only [rightOf] at h
    by_cases h0 : 0 ≤ Lib.indexByte x.f0.data.toList 10
    · rw [if_pos h0] at h; cases h
    rw [if_neg h0] at h
    have hb := bytes_nl x.f0 h0
    unfold linesOf joinOf
    rw [List.append_assoc, lines_run _ _ _ hb, List.nil_append]
    by_cases h1 : x.f1 = true
    · rw [if_pos h1] at h
      by_cases h2 : l.isEmpty = true
      · rw [if_pos h2] at h
        have hl : l = [] := List.isEmpty_iff.1 h2
        subst hl
        have h3 : x.f0.size ≠ 0 := by intro e; rw [if_pos e] at h; cases h
        simp only [nlOf, if_pos h1, joinOf]
        have h4 : bytesOf x.f0 ≠ [] := by intro e; apply h3; rw [← bytesOf_length, e]; rfl
        simp only [List.isEmpty_nil, if_true, List.append_nil, linesAcc, if_neg h4, str_of_bytes]
        rw [← h1]
      · rw [if_neg h2] at h; cases h
    · rw [if_neg h1] at h
      simp only [nlOf, if_neg h1, List.cons_append, List.nil_append, linesAcc, if_true, str_of_bytes]
      have := lines_back l h
      unfold linesOf at this
      rw [this]
      have h5 : x.f1 = false := by simpa using h1
      rw [← h5]
end Go.Proofs.YthppicgolkpbaaaDoor.P

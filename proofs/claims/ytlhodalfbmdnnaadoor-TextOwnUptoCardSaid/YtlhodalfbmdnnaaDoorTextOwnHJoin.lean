/- what Join, Right and Same tell of lines, the program's and the reference's -/
import Derived.Test.YtlhodalfbmdnnaaDoorTextOwnPx0
import Derived.Test.YtlhodalfbmdnnaaDoorTextOwnHBase
import Derived.Test.YtlhodalfbmdnnaaDoorTextOwnHStrings
import Derived.Test.YtlhodalfbmdnnaaDoorTextOwnPxText
import Derived.Test.YtlhodalfbmdnnaaDoorTextOwnPxJalousieref01
namespace Go.Proofs.YtlhodalfbmdnnaaDoor.P
open Go.RowKit Go.Proofs.YtlhodalfbmdnnaaDoorW.PrintWords Go.Proofs.YtlhodalfbmdnnaaDoorW.PrintLast Go.Proofs.YtlhodalfbmdnnaaDoorW.PrintMore
set_option linter.unusedVariables false
set_option linter.unusedSimpArgs false
/-- what stands behind a line -/
def nlOf (x : S59) (rest : List S59) : List Int := if x.f1 = true then (if rest.isEmpty = true then [] else [10]) else [10]
def joinOf : List S59 → List Int
  | [] => []
  | x :: l => (bytesOf x.f0 ++ nlOf x l) ++ joinOf l
theorem rd_drop (l : List S59) (i : Nat) (h : i < l.length) : l.drop i = rd_T59 l (i : Int) :: l.drop (i + 1) := by
  rw [List.drop_eq_getElem_cons h]
  congr 1
  simp [rd_T59, List.getD_eq_getElem?_getD, h]
theorem text_join_l (l : List S59) (hl : l.length ≤ 140737488355328) (d : Nat) : ∀ (i k : Nat) (acc : List Int), i + d = l.length → d < k → acc.length + (joinOf (l.drop i)).length < 140737488355328 → text_Join.l0 k l acc l (l.length : Int) (i : Int) = some (acc ++ joinOf (l.drop i)) := by
  induction d with
  | zero =>
    intro i k acc hi hk hb
    obtain ⟨k, rfl⟩ : ∃ m, k = m + 1 := ⟨k - 1, by omega⟩
    rw [List.drop_eq_nil_of_le (by omega)]
    simp only [text_Join.l0]
    rw [if_neg (by omega)]
    simp [joinOf]
  | succ d ih =>
    intro i k acc hi hk hb
    obtain ⟨k, rfl⟩ : ∃ m, k = m + 1 := ⟨k - 1, by omega⟩
    have hd := rd_drop l i (by omega)
    rw [hd] at hb ⊢
    generalize rd_T59 l (i : Int) = x at hb hd
    simp only [joinOf, List.length_append, bytesOf_length] at hb ⊢
    simp only [text_Join.l0]
    have hx : rd_T59 l (i : Int) = x := by
      have := rd_drop l i (by omega)
      rw [hd] at this
      exact (List.cons.inj this).1.symm
    rw [if_pos (by omega), if_pos (by omega), if_pos (by omega), hx, if_pos (by omega)]
    simp only [Option.bind_some]
    rw [w64 ((l.length : Int) - 1) (by omega) (by omega), w64 ((i : Int) + 1) (by omega) (by omega)]
    have hn := fun acc h => ih (i + 1) k acc (by omega) (by omega) h
    have he : (l.drop (i + 1)).isEmpty = true ↔ ¬ ((i : Int) < (l.length : Int) - 1) := by
      rw [List.isEmpty_iff, List.drop_eq_nil_iff]; omega
    unfold nlOf at hb ⊢
    by_cases h1 : x.f1 = true
    · rw [if_pos h1] at hb ⊢
      rw [if_pos h1]
      by_cases h2 : (i : Int) < (l.length : Int) - 1
      · have h2' : ¬ (l.drop (i + 1)).isEmpty = true := fun e => (he.1 e) h2
        rw [if_neg h2'] at hb ⊢
        simp only [List.length_singleton] at hb
        rw [if_pos h2, if_pos (by simp [bytesOf_length]; omega)]
        refine (hn _ (by simp [bytesOf_length]; omega)).trans ?_
        simp
      · rw [if_pos (he.2 h2)] at hb ⊢
        simp only [List.length_nil] at hb
        rw [if_neg h2]
        refine (hn _ (by simp [bytesOf_length]; omega)).trans ?_
        simp
    · rw [if_neg h1] at hb ⊢
      simp only [List.length_singleton] at hb
      rw [if_neg h1, if_pos (by simp [bytesOf_length]; omega)]
      refine (hn _ (by simp [bytesOf_length]; omega)).trans ?_
      simp
theorem text_Join_tells (l : List S59) (hl : l.length ≤ 140737488355328) (hb : (joinOf l).length < 140737488355328) : text_Join.f (l.length + 1) l = some (joinOf l) := text_join_l l hl l.length 0 (l.length + 1) [] (by omega) (by omega) (by simpa using hb)
theorem same_l (l : List S59) (hl : l.length ≤ 140737488355328) (d : Nat) : ∀ (i k : Nat), i + d = l.length → d < k → jalousieref01_Same.l0 k l l (i : Int) = some true := by
  induction d with
  | zero =>
    intro i k hi hk
    obtain ⟨k, rfl⟩ : ∃ m, k = m + 1 := ⟨k - 1, by omega⟩
    simp only [jalousieref01_Same.l0]
    rw [if_neg (by omega)]
  | succ d ih =>
    intro i k hi hk
    obtain ⟨k, rfl⟩ : ∃ m, k = m + 1 := ⟨k - 1, by omega⟩
    simp only [jalousieref01_Same.l0]
    rw [if_pos (by omega), if_pos (by omega), if_pos (by omega), if_neg (by simp), w64 ((i : Int) + 1) (by omega) (by omega)]
    exact ih (i + 1) k (by omega) (by omega)
theorem same_self (l : List S59) (hl : l.length ≤ 140737488355328) : jalousieref01_Same.f (l.length + 1) l l = some true := by
  unfold jalousieref01_Same.f
  rw [if_pos rfl]
  exact same_l l hl l.length 0 (l.length + 1) (by omega) (by omega)
end Go.Proofs.YtlhodalfbmdnnaaDoor.P

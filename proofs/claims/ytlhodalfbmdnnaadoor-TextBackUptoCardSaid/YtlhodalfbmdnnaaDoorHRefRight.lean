/- what the reference's Right tells -/
import Derived.Test.YtlhodalfbmdnnaaDoorPx0
import Derived.Test.YtlhodalfbmdnnaaDoorHJoin
namespace Go.Proofs.YtlhodalfbmdnnaaDoor.P
open Go.RowKit Go.Proofs.YtlhodalfbmdnnaaDoorW.PrintWords Go.Proofs.YtlhodalfbmdnnaaDoorW.PrintLast Go.Proofs.YtlhodalfbmdnnaaDoorW.PrintMore
set_option linter.unusedVariables false
set_option linter.unusedSimpArgs false

theorem indexByte_mem (c : UInt8) (l : List UInt8) : 0 ≤ Lib.indexByte l c ↔ c ∈ l := by
  constructor
  · intro h
    obtain ⟨i, hi⟩ := Int.eq_ofNat_of_zero_le h
    exact List.mem_of_getElem? (Lib.indexByte_some hi).1
  · intro h
    rcases indexByte_cases c l with ⟨h1, _⟩ | ⟨i, h1, _⟩
    · exfalso
      obtain ⟨k, hk⟩ := List.getElem?_of_mem h
      exact Lib.indexByte_none h1 k hk
    · omega
def rrNeed : List S59 → Nat
  | [] => 1
  | x :: l => x.f0.size + 2 + rrNeed l
/-- what follows when a line has no newline in it -/
def rrTail (l : List S59) (i : Nat) (x : S59) : Option Bool :=
  if x.f1 = true then (if ((i : Int) + 1) < (l.length : Int) then some false else (if (x.f0.size : Int) = 0 then some false else some (rightOf (l.drop (i + 1))))) else some (rightOf (l.drop (i + 1)))
theorem ref_right_in (l : List S59) (hl : l.length ≤ 140737488355328) (i : Nat) (hi : i < l.length) (x : S59) (hx : rd_T59 l (i : Int) = x) (hs : x.f0.size ≤ 140737488355328)
    (ih : ∀ k, rrNeed (l.drop (i + 1)) ≤ k → jalousieref01_Right.l0 k l ((i : Int) + 1) = some (rightOf (l.drop (i + 1)))) (e : Nat) :
    ∀ (j k : Nat), j + e = x.f0.size → e + 1 + rrNeed (l.drop (i + 1)) ≤ k → jalousieref01_Right.l1 k l (i : Int) (j : Int) = if (10 : UInt8) ∈ x.f0.data.toList.drop j then some false else rrTail l i x := by
  induction e with
  | zero =>
    intro j k hj hk
    obtain ⟨k, rfl⟩ : ∃ m, k = m + 1 := ⟨k - 1, by omega⟩
    have e64 := w64 ((i : Int) + 1) (by omega) (by omega)
    rw [List.drop_eq_nil_of_le (by rw [data_length]; omega), if_neg (by simp)]
    simp only [jalousieref01_Right.l1]
    rw [if_pos (by omega), if_pos (by omega), hx, if_neg (by omega), e64, ih k (by omega)]
    rfl
  | succ e ihe =>
    intro j k hj hk
    obtain ⟨k, rfl⟩ : ∃ m, k = m + 1 := ⟨k - 1, by omega⟩
    obtain ⟨b, hb, hbt⟩ := drop_bt x.f0 j (by omega)
    have e64 := w64 ((j : Int) + 1) (by omega) (by omega)
    simp only [jalousieref01_Right.l1]
    rw [if_pos (by omega), if_pos (by omega), hx, if_pos (by omega), if_pos (by omega), e64, hb]
    by_cases h10 : bt x.f0 (j : Int) = 10
    · rw [if_pos h10, if_pos]
      have : b = 10 := by apply UInt8.toNat_inj.1; have := hbt.trans h10; show b.toNat = 10; omega
      rw [this]; simp
    · rw [if_neg h10]
      have hne : b ≠ 10 := by intro e; apply h10; rw [← hbt, e]; rfl
      have := ihe (j + 1) k (by omega) (by omega)
      rw [show ((j : Int) + 1) = ((j + 1 : Nat) : Int) by omega, this]
      by_cases hm : (10 : UInt8) ∈ x.f0.data.toList.drop (j + 1)
      · rw [if_pos hm, if_pos (List.mem_cons_of_mem _ hm)]
      · rw [if_neg hm, if_neg]
        intro h
        rcases List.mem_cons.1 h with h | h
        · exact hne h.symm
        · exact hm h
theorem ref_right_l (l : List S59) (hl : l.length ≤ 140737488355328) (hs : ∀ x ∈ l, x.f0.size ≤ 140737488355328) (d : Nat) : ∀ (i k : Nat), i + d = l.length → rrNeed (l.drop i) ≤ k → jalousieref01_Right.l0 k l (i : Int) = some (rightOf (l.drop i)) := by
  induction d with
  | zero =>
    intro i k hi hk
    rw [List.drop_eq_nil_of_le (by omega)] at hk ⊢
    obtain ⟨k, rfl⟩ : ∃ m, k = m + 1 := ⟨k - 1, by unfold rrNeed at hk; omega⟩
    simp only [jalousieref01_Right.l0]
    rw [if_neg (by omega)]
    rfl
  | succ d ih =>
    intro i k hi hk
    have hd := rd_drop l i (by omega)
    have hmem : rd_T59 l (i : Int) ∈ l := List.mem_of_mem_drop (by rw [hd]; exact List.mem_cons_self)
    rw [hd] at hk ⊢
    generalize hx : rd_T59 l (i : Int) = x at hk hmem
    simp only [rrNeed] at hk
    obtain ⟨k, rfl⟩ : ∃ m, k = m + 1 := ⟨k - 1, by omega⟩
    have hin := ref_right_in l hl i (by omega) x hx (hs x hmem) (fun k' hk' => ih (i + 1) k' (by omega) hk') x.f0.size 0 k (by omega) (by omega)
    simp only [jalousieref01_Right.l0]
    rw [if_pos (by omega)]
    refine hin.trans ?_
    rw [List.drop_zero]
    simp only [rightOf]
    have he : (l.drop (i + 1)).isEmpty = true ↔ ¬ ((i : Int) + 1 < (l.length : Int)) := by
      rw [List.isEmpty_iff, List.drop_eq_nil_iff]; omega
    by_cases hm : (10 : UInt8) ∈ x.f0.data.toList
    · rw [if_pos hm, if_pos ((indexByte_mem _ _).2 hm)]
    · rw [if_neg hm, if_neg (fun h => hm ((indexByte_mem _ _).1 h))]
      unfold rrTail
      by_cases h1 : x.f1 = true
      · rw [if_pos h1, if_pos h1]
        by_cases h2 : (i : Int) + 1 < (l.length : Int)
        · have h2' : ¬ (l.drop (i + 1)).isEmpty = true := fun e => (he.1 e) h2
          rw [if_pos h2, if_neg h2']
        · rw [if_neg h2, if_pos (he.2 h2)]
          by_cases h3 : x.f0.size = 0
          · rw [if_pos (by omega), if_pos h3]
          · rw [if_neg (by omega), if_neg h3]
      · rw [if_neg h1, if_neg h1]
theorem ref_Right_tells (l : List S59) (hl : l.length ≤ 140737488355328) (hs : ∀ x ∈ l, x.f0.size ≤ 140737488355328) : jalousieref01_Right.f (rrNeed l) l = some (rightOf l) :=
  ref_right_l l hl hs l.length 0 (rrNeed l) (by omega) (by simp)
end Go.Proofs.YtlhodalfbmdnnaaDoor.P

/- jalousielaw02.LabelLattice: the printed function answers true; no condition but the numbers' own bounds. -/
import Derived.Test.YtlhodalfbmdnnaaDoorLabelLatticePx0
import Derived.Test.YtlhodalfbmdnnaaDoorLabelLatticeHLabelLaws
import Derived.Test.YtlhodalfbmdnnaaDoorLabelLatticeHLabelCats
import Derived.Test.YtlhodalfbmdnnaaDoorLabelLatticeHLive02
import Derived.Test.YtlhodalfbmdnnaaDoorLabelLatticePxLLabelLattice
namespace Go.Proofs.YtlhodalfbmdnnaaDoor.P
open Go.RowKit Go.Proofs.YtlhodalfbmdnnaaDoorW.PrintWords Go.Proofs.YtlhodalfbmdnnaaDoorW.PrintLast Go.Proofs.YtlhodalfbmdnnaaDoorW.PrintMore
set_option linter.unusedVariables false
set_option linter.unusedSimpArgs false
theorem and_bit {A B : Nat} (h : A &&& B = A) (i : Nat) : A.testBit i = true → B.testBit i = true := by
  intro hi
  have := congrArg (fun x => x.testBit i) h
  simp only [Nat.testBit_and, hi, Bool.true_and] at this
  exact this
theorem and_of_bit {A B : Nat} (h : ∀ i, A.testBit i = true → B.testBit i = true) : A &&& B = A := by
  apply Nat.eq_of_testBit_eq; intro i; rw [Nat.testBit_and]
  have := h i
  cases hA : A.testBit i <;> simp_all
theorem below_iff (a : Int) (A : Nat) (b : Int) (B : Nat) : belowN a A b B = true ↔ a ≤ b ∧ ∀ i, A.testBit i = true → B.testBit i = true := by
  unfold belowN
  rw [Bool.and_eq_true, decide_eq_true_iff, decide_eq_true_iff]
  exact ⟨fun h => ⟨h.1, and_bit h.2⟩, fun h => ⟨h.1, and_of_bit h.2⟩⟩
theorem below_self (a : Int) (A : Nat) : belowN a A a A = true := (below_iff ..).2 ⟨Int.le_refl _, fun _ h => h⟩
theorem below_anti {a : Int} {A : Nat} {b : Int} {B : Nat} (h : belowN a A b B = true) (k : belowN b B a A = true) : a = b ∧ A = B := by
  rw [below_iff] at h k
  refine ⟨Int.le_antisymm h.1 k.1, Nat.eq_of_testBit_eq fun i => ?_⟩
  have h1 := h.2 i; have h2 := k.2 i
  cases hA : A.testBit i <;> cases hB : B.testBit i <;> simp_all
theorem below_trans {a : Int} {A : Nat} {b : Int} {B : Nat} {c : Int} {C : Nat} (h : belowN a A b B = true) (k : belowN b B c C = true) : belowN a A c C = true := by
  rw [below_iff] at h k ⊢
  exact ⟨Int.le_trans h.1 k.1, fun i x => k.2 i (h.2 i x)⟩
theorem below_join1 (a : Int) (A : Nat) (b : Int) (B : Nat) : belowN a A (max a b) (A ||| B) = true := (below_iff ..).2 ⟨by omega, fun i h => by rw [Nat.testBit_or, h]; rfl⟩
theorem below_join2 (a : Int) (A : Nat) (b : Int) (B : Nat) : belowN b B (max a b) (A ||| B) = true := (below_iff ..).2 ⟨by omega, fun i h => by rw [Nat.testBit_or, h]; simp⟩
theorem below_meet1 (a : Int) (A : Nat) (b : Int) (B : Nat) : belowN (min a b) (A &&& B) a A = true := (below_iff ..).2 ⟨by omega, fun i h => by rw [Nat.testBit_and, Bool.and_eq_true] at h; exact h.1⟩
theorem below_meet2 (a : Int) (A : Nat) (b : Int) (B : Nat) : belowN (min a b) (A &&& B) b B = true := (below_iff ..).2 ⟨by omega, fun i h => by rw [Nat.testBit_and, Bool.and_eq_true] at h; exact h.2⟩
theorem below_lub {a : Int} {A : Nat} {b : Int} {B : Nat} {c : Int} {C : Nat} (h : belowN a A c C = true) (k : belowN b B c C = true) : belowN (max a b) (A ||| B) c C = true := by
  rw [below_iff] at h k ⊢
  refine ⟨by omega, fun i x => ?_⟩
  rw [Nat.testBit_or, Bool.or_eq_true] at x
  exact x.elim (h.2 i) (k.2 i)
theorem below_glb {a : Int} {A : Nat} {b : Int} {B : Nat} {c : Int} {C : Nat} (h : belowN c C a A = true) (k : belowN c C b B = true) : belowN c C (min a b) (A &&& B) = true := by
  rw [below_iff] at h k ⊢
  refine ⟨by omega, fun i x => ?_⟩
  rw [Nat.testBit_and, h.2 i x, k.2 i x]; rfl
theorem below_bottom {a : Int} {A : Nat} (h : 0 ≤ a) : belowN 0 0 a A = true := (below_iff ..).2 ⟨h, fun i x => by simp at x⟩
theorem below_top {a : Int} {A : Nat} (h : a ≤ 15) (hA : A < 18446744073709551616) : belowN a A 15 18446744073709551615 = true := by
  refine (below_iff ..).2 ⟨h, fun i x => ?_⟩
  have hi : i < 64 := by
    rcases Nat.lt_or_ge i 64 with q | q
    · exact q
    · have : A.testBit i = false := Nat.testBit_lt_two_pow (Nat.lt_of_lt_of_le (show A < 2 ^ 64 by omega) (Nat.pow_le_pow_right (by omega) q))
      rw [this] at x; cases x
  rw [show (18446744073709551615 : Nat) = 2 ^ 64 - 1 by rfl, Nat.testBit_two_pow_sub_one]
  simp [hi]
theorem Lattice_j2 (k : Nat) (a : Int) (A : Nat) (hA : A < 18446744073709551616) : jalousielaw02_LabelLattice.j2 (k + 1) false a (A : Int) = some true := by
  have e1 := label_Below_tells 0 a 0 A (by omega) hA
  have e2 := label_Below_tells a 15 A 18446744073709551615 hA (by omega)
  rw [jalousielaw02_LabelLattice.j2]
  unfold jalousielaw02_live.f label_Top.f
  simp only [right_tells, Option.bind_some, Bool.false_eq_true, if_false, if_true]
  by_cases h : 0 ≤ a ∧ a ≤ 15
  · rw [show (decide (0 ≤ a) && decide (a ≤ 15)) = true by simp [h]]
    rw [if_pos rfl, show label_Below.f 0 0 a (A : Int) = some (belowN 0 0 a A) from e1, below_bottom h.1]
    rw [Option.bind_some, if_pos rfl, show label_Below.f a (A : Int) 15 18446744073709551615 = some (belowN a A 15 18446744073709551615) from e2, below_top h.2 hA]
    rfl
  · rw [show (decide (0 ≤ a) && decide (a ≤ 15)) = false by simp only [Bool.and_eq_false_iff, decide_eq_false_iff_not]; omega]
    rfl
theorem Lattice_j1 (k : Nat) (a : Int) (A : Nat) (b : Int) (B : Nat) (c : Int) (C : Nat) (hA : A < 18446744073709551616) (hB : B < 18446744073709551616) (hC : C < 18446744073709551616) :
    jalousielaw02_LabelLattice.j1 (k + 2) false a (A : Int) b (B : Int) c (C : Int) (min a b) ((A &&& B : Nat) : Int) = some true := by
  have hM := and_lt A B hA
  rw [jalousielaw02_LabelLattice.j1, label_Below_tells _ _ _ _ hM hA, label_Below_tells _ _ _ _ hM hB, label_Below_tells _ _ _ _ hC hA, label_Below_tells _ _ _ _ hC hB, label_Below_tells _ _ _ _ hC hM, below_meet1, below_meet2]
  simp only [Option.bind_some, Bool.false_eq_true, if_false, if_true, Lattice_j2 k a A hA]
  by_cases h1 : belowN c C a A = true
  · by_cases h2 : belowN c C b B = true
    · rw [if_pos h1, if_pos h2, below_glb h1 h2]
      exact Lattice_j2 k a A hA
    · rw [if_pos h1, if_neg h2]
  · rw [if_neg h1]
theorem Lattice_j0 (k : Nat) (a : Int) (A : Nat) (b : Int) (B : Nat) (c : Int) (C : Nat) (hA : A < 18446744073709551616) (hB : B < 18446744073709551616) (hC : C < 18446744073709551616) :
    jalousielaw02_LabelLattice.j0 (k + 3) false a (A : Int) b (B : Int) c (C : Int) (max a b) ((A ||| B : Nat) : Int) (min a b) ((A &&& B : Nat) : Int) = some true := by
  have hJ := or_lt A B hA hB
  rw [jalousielaw02_LabelLattice.j0, label_Below_tells _ _ _ _ hA hJ, label_Below_tells _ _ _ _ hB hJ, label_Below_tells _ _ _ _ hA hC, label_Below_tells _ _ _ _ hB hC, label_Below_tells _ _ _ _ hJ hC, below_join1, below_join2]
  simp only [Option.bind_some, Bool.false_eq_true, if_false, if_true, Lattice_j1 k a A b B c C hA hB hC]
  by_cases h1 : belowN a A c C = true
  · by_cases h2 : belowN b B c C = true
    · rw [if_pos h1, if_pos h2, below_lub h1 h2]
      exact Lattice_j1 k a A b B c C hA hB hC
    · rw [if_pos h1, if_neg h2]
  · rw [if_neg h1]
theorem LabelLattice_true (a : Int) (A : Nat) (b : Int) (B : Nat) (c : Int) (C : Nat) (hA : A < 18446744073709551616) (hB : B < 18446744073709551616) (hC : C < 18446744073709551616) :
    jalousielaw02_LabelLattice.f 3 a (A : Int) b (B : Int) c (C : Int) = some true := by
  have j := Lattice_j0 0 a A b B c C hA hB hC
  have hJ := or_lt A B hA hB
  have hM := and_lt A B hA
  unfold jalousielaw02_LabelLattice.f
  rw [label_Join_tells _ _ _ _ hA hB, label_Meet_tells _ _ _ _ hA hB, label_Below_tells _ _ _ _ hA hA, label_Below_tells _ _ _ _ hA hB, label_Below_tells _ _ _ _ hB hA, label_Below_tells _ _ _ _ hB hC, label_Below_tells _ _ _ _ hA hC, below_self]
  simp only [Option.bind_some, if_true]
  have key : (if belowN a A b B = true then if belowN b B c C = true then jalousielaw02_LabelLattice.j0 3 (!belowN a A c C) a (A : Int) b (B : Int) c (C : Int) (max a b) ((A ||| B : Nat) : Int) (min a b) ((A &&& B : Nat) : Int)
      else jalousielaw02_LabelLattice.j0 3 false a (A : Int) b (B : Int) c (C : Int) (max a b) ((A ||| B : Nat) : Int) (min a b) ((A &&& B : Nat) : Int)
      else jalousielaw02_LabelLattice.j0 3 false a (A : Int) b (B : Int) c (C : Int) (max a b) ((A ||| B : Nat) : Int) (min a b) ((A &&& B : Nat) : Int)) = some true := by
    by_cases h1 : belowN a A b B = true
    · by_cases h2 : belowN b B c C = true
      · rw [if_pos h1, if_pos h2, below_trans h1 h2]; exact j
      · rw [if_pos h1, if_neg h2]; exact j
    · rw [if_neg h1]; exact j
  rw [key]
  by_cases h1 : belowN a A b B = true
  · rw [if_pos h1]
    by_cases h2 : belowN b B a A = true
    · obtain ⟨rfl, rfl⟩ := below_anti h1 h2
      simp
    · rw [if_neg h2]
  · rw [if_neg h1]
theorem LabelLattice.walk (a : Int) (A : Nat) (b : Int) (B : Nat) (c : Int) (C : Nat) (w : World) (hT : Tabs w) (hA : A < 18446744073709551616) (hB : B < 18446744073709551616) (hC : C < 18446744073709551616) :
    Calls Tryd.prog 13 #[.agg #[.int .i64 a, .int .u64 (A : Int)], .agg #[.int .i64 b, .int .u64 (B : Int)], .agg #[.int .i64 c, .int .u64 (C : Int)]] w fun e w' => e = .returned (.bool true) ∧ Below w.heap.size w w' :=
  jalousielaw02_LabelLattice.calls 3 a A b B c C true w hT (Lib.hid rfl) (LabelLattice_true a A b B c C hA hB hC)
end Go.Proofs.YtlhodalfbmdnnaaDoor.P

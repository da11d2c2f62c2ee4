/- plain laws of a label's categories: both programs tell the places of its bits, in order; the reference's join, meet and order are those of the bits -/
import Derived.Test.YtlhodalfbmdnnaaDoorLabelOrderHLabelLaws
import Derived.Test.YtlhodalfbmdnnaaDoorLabelOrderHPick
import Derived.Test.YtlhodalfbmdnnaaDoorLabelOrderHBits
import Derived.Test.YtlhodalfbmdnnaaDoorLabelOrderHBase
import Derived.Test.YtlhodalfbmdnnaaDoorLabelOrderPxLabel
import Derived.Test.YtlhodalfbmdnnaaDoorLabelOrderPxJalousieref02
import Derived.Test.YtlhodalfbmdnnaaDoorLabelOrderPxJalousieref02v1
namespace Go.Proofs.YtlhodalfbmdnnaaDoor.P
open Go.RowKit Go.Proofs.YtlhodalfbmdnnaaDoorW.PrintWords Go.Proofs.YtlhodalfbmdnnaaDoorW.PrintLast Go.Proofs.YtlhodalfbmdnnaaDoorW.PrintMore
set_option linter.unusedVariables false
set_option linter.unusedSimpArgs false
theorem hasN_nat (A c : Nat) (h : c ≤ 64) : hasN (A : Int) c = A.testBit c := by
  unfold hasN shr
  rw [show IntKind.u64.bits = 64 from rfl, Int.toNat_natCast, Nat.min_eq_left h, Nat.testBit_eq_decide_div_mod_eq]
  have e1 : (A : Int) / 2 ^ c = ((A / 2 ^ c : Nat) : Int) := by simp
  rw [e1]
  have e2 : Int.tmod ((A / 2 ^ c : Nat) : Int) 2 = ((A / 2 ^ c % 2 : Nat) : Int) := by
    rw [Int.tmod_eq_emod_of_nonneg (by exact Int.natCast_nonneg _)]; simp
  rw [e2, Bool.eq_iff_iff]
  generalize A / 2 ^ c = q
  simp
  omega
theorem has_nat (l : Int) (A c : Nat) (h : c ≤ 63) : jalousieref02_Has.f l (A : Int) (c : Int) = some (A.testBit c) := by
  rw [has_f l A c h, hasN_nat A c (by omega)]
/-- bits, from above -/
theorem pickN_bits (f : Nat → Bool) (Z : Nat) (hZ : Z < 18446744073709551616) (hf : ∀ i, i < 64 → f i = Z.testBit i) : ∀ n, n ≤ 64 → pickN f n ((Z / 2 ^ n : Nat) : Int) = (Z : Int)
  | 0, _ => by simp [pickN]
  | n + 1, hn => by
    rw [pickN, hf n (by omega), Nat.testBit_eq_decide_div_mod_eq]
    have hd : Z / 2 ^ (n + 1) = Z / 2 ^ n / 2 := by rw [Nat.pow_succ, Nat.div_div_eq_div_mul]
    have hl : Z / 2 ^ n ≤ Z := Nat.div_le_self _ _
    have ih := pickN_bits f Z hZ hf n (by omega)
    generalize Z / 2 ^ n = q at hd hl ih
    rw [hd]
    have : (if decide (q % 2 = 1) = true then IntKind.u64.wrap (IntKind.u64.wrap (2 * ((q / 2 : Nat) : Int)) + 1) else IntKind.u64.wrap (2 * ((q / 2 : Nat) : Int))) = (q : Int) := by
      simp only [IntKind.wrap_u64, decide_eq_true_eq]
      split <;> omega
    rw [this]
    exact ih
theorem pick_or (A B : Nat) (hA : A < 18446744073709551616) (hB : B < 18446744073709551616) : pickN (pickB (A : Int) (B : Int) false) 64 0 = ((A ||| B : Nat) : Int) := by
  have := pickN_bits (pickB (A : Int) (B : Int) false) (A ||| B) (or_lt A B hA hB) (fun i hi => by
    unfold pickB; rw [hasN_nat A i (by omega), hasN_nat B i (by omega), Nat.testBit_or]; cases A.testBit i <;> cases B.testBit i <;> rfl) 64 (Nat.le_refl _)
  rw [Nat.div_eq_of_lt (or_lt A B hA hB)] at this
  exact this
theorem pick_and (A B : Nat) (hA : A < 18446744073709551616) (hB : B < 18446744073709551616) : pickN (pickB (A : Int) (B : Int) true) 64 0 = ((A &&& B : Nat) : Int) := by
  have := pickN_bits (pickB (A : Int) (B : Int) true) (A &&& B) (and_lt A B hA) (fun i hi => by
    unfold pickB; rw [hasN_nat A i (by omega), hasN_nat B i (by omega), Nat.testBit_and]; cases A.testBit i <;> cases B.testBit i <;> rfl) 64 (Nat.le_refl _)
  rw [Nat.div_eq_of_lt (and_lt A B hA)] at this
  exact this
theorem ref_Join_label_tells (a b : Int) (A B : Nat) (hA : A < 18446744073709551616) (hB : B < 18446744073709551616) : jalousieref02_Join.f a (A : Int) b (B : Int) = some (max a b, ((A ||| B : Nat) : Int)) := by
  unfold jalousieref02_Join.f jalousieref02_pick.f
  rw [pick_or A B hA hB]
  simp only [Option.bind_some]
  split
  · rw [show max a b = b by omega]
  · rw [show max a b = a by omega]
theorem ref_Meet_label_tells (a b : Int) (A B : Nat) (hA : A < 18446744073709551616) (hB : B < 18446744073709551616) : jalousieref02_Meet.f a (A : Int) b (B : Int) = some (min a b, ((A &&& B : Nat) : Int)) := by
  unfold jalousieref02_Meet.f jalousieref02_pick.f
  rw [pick_and A B hA hB]
  simp only [Option.bind_some]
  split
  · rw [show min a b = b by omega]
  · rw [show min a b = a by omega]
theorem ref_below_l (a b : Int) (A B : Nat) : ∀ (d i k : Nat), i + d = 64 → d < k → jalousieref02_Below.l0 k (i : Int) a (A : Int) b (B : Int) = some ((List.range' i d).all fun c => !A.testBit c || B.testBit c)
  | 0, i, k, hi, hk => by
    obtain ⟨k, rfl⟩ : ∃ m, k = m + 1 := ⟨k - 1, by omega⟩
    simp only [jalousieref02_Below.l0]
    rw [if_neg (by omega)]
    rfl
  | d + 1, i, k, hi, hk => by
    obtain ⟨k, rfl⟩ : ∃ m, k = m + 1 := ⟨k - 1, by omega⟩
    simp only [jalousieref02_Below.l0]
    rw [if_pos (by omega), has_nat a A i (by omega), has_nat b B i (by omega)]
    simp only [Option.bind_some]
    rw [w64 _ (by omega) (by omega), show (i : Int) + 1 = ((i + 1 : Nat) : Int) by omega, ref_below_l a b A B d (i + 1) k (by omega) (by omega), List.range'_succ, List.all_cons]
    cases A.testBit i <;> cases B.testBit i <;> simp
theorem sub_bits (A B : Nat) (hA : A < 18446744073709551616) : ((List.range' 0 64).all fun c => !A.testBit c || B.testBit c) = decide (A &&& B = A) := by
  rw [Bool.eq_iff_iff, decide_eq_true_eq, List.all_eq_true]
  constructor
  · intro h
    apply Nat.eq_of_testBit_eq
    intro j
    rw [Nat.testBit_and]
    by_cases hj : j < 64
    · have := h j (List.mem_range'_1.2 ⟨by omega, by omega⟩)
      cases ha : A.testBit j <;> cases hb : B.testBit j <;> simp_all
    · rw [Nat.testBit_lt_two_pow (Nat.lt_of_lt_of_le (show A < 2 ^ 64 by omega) (Nat.pow_le_pow_right (by omega) (by omega)))]
      rfl
  · intro h j hj
    have := congrArg (fun x => x.testBit j) h
    simp only [Nat.testBit_and] at this
    cases ha : A.testBit j <;> cases hb : B.testBit j <;> simp_all
theorem ref_Below_label_tells (a b : Int) (A B k : Nat) (hA : A < 18446744073709551616) (hk : 65 ≤ k) : jalousieref02_Below.f k a (A : Int) b (B : Int) = some (belowN a A b B) := by
  unfold jalousieref02_Below.f belowN
  by_cases h : a > b
  · rw [if_pos h]; simp [show ¬ a ≤ b by omega]
  · have h1 := ref_below_l a b A B 64 0 k (by omega) (by omega)
    rw [sub_bits A B hA] at h1
    rw [if_neg h]
    refine h1.trans ?_
    simp [show a ≤ b by omega]
theorem right_tells (a : Int) (A : Int) : label_Right.f a A = some (decide (0 ≤ a) && decide (a ≤ 15)) := by
  unfold label_Right.f
  by_cases h : a ≥ 0
  · rw [if_pos h]; simp [h]
  · rw [if_neg h]; simp; omega
theorem ref_right_tells (a : Int) (A : Int) : jalousieref02_Right.f a A = some (decide (0 ≤ a) && decide (a ≤ 15)) := by
  unfold jalousieref02_Right.f
  by_cases h : a ≥ 0
  · rw [if_pos h]
    have : decide (a < 16) = decide (a ≤ 15) := by rw [Bool.eq_iff_iff]; simp; omega
    rw [this]; simp [h]
  · rw [if_neg h]; simp; omega
end Go.Proofs.YtlhodalfbmdnnaaDoor.P

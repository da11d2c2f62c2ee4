/- plain laws of labels: join, meet, and below, as numbers' bits -/
import Derived.Test.YtlhodalfbmdnnaaDoorLabelLatticePx0
import Derived.Laws.Bits64b
import Derived.Laws.BitsAllLaws
import Derived.Test.YtlhodalfbmdnnaaDoorLabelLatticePxLabel
namespace Go.Proofs.YtlhodalfbmdnnaaDoor.P
open Go.RowKit Go.Proofs.YtlhodalfbmdnnaaDoorW.PrintWords Go.Proofs.YtlhodalfbmdnnaaDoorW.PrintLast Go.Proofs.YtlhodalfbmdnnaaDoorW.PrintMore
set_option linter.unusedVariables false
set_option linter.unusedSimpArgs false
theorem and_not_zero (A B : Nat) (hA : A < 18446744073709551616) (hB : B < 18446744073709551616) : A &&& (18446744073709551615 - B) = 0 ↔ A &&& B = A := by
  have hs : (18446744073709551615 - B) = 2 ^ 64 - (B + 1) := by omega
  rw [hs]
  constructor
  · intro h
    apply Nat.eq_of_testBit_eq
    intro i
    have := congrArg (fun x => x.testBit i) h
    simp only [Nat.testBit_and, Nat.zero_testBit] at this ⊢
    rw [Nat.testBit_two_pow_sub_succ (by omega)] at this
    by_cases hi : i < 64
    · cases ha : A.testBit i <;> cases hb : B.testBit i <;> simp_all
    · have : A.testBit i = false := Nat.testBit_lt_two_pow (Nat.lt_of_lt_of_le (show A < 2 ^ 64 by omega) (Nat.pow_le_pow_right (by omega) (by omega)))
      simp [this]
  · intro h
    apply Nat.eq_of_testBit_eq
    intro i
    have := congrArg (fun x => x.testBit i) h
    simp only [Nat.testBit_and, Nat.zero_testBit] at this ⊢
    rw [Nat.testBit_two_pow_sub_succ (by omega)]
    cases ha : A.testBit i <;> cases hb : B.testBit i <;> simp_all
theorem label_Join_tells (a b : Int) (A B : Nat) (hA : A < 18446744073709551616) (hB : B < 18446744073709551616) : label_Join.f a (A : Int) b (B : Int) = some (max a b, ((A ||| B : Nat) : Int)) := by
  unfold label_Join.f
  rw [bits_or_u64_nat A B hA hB, show mx a b = max a b by unfold mx; split <;> omega]
theorem label_Meet_tells (a b : Int) (A B : Nat) (hA : A < 18446744073709551616) (hB : B < 18446744073709551616) : label_Meet.f a (A : Int) b (B : Int) = some (min a b, ((A &&& B : Nat) : Int)) := by
  unfold label_Meet.f
  rw [bits_and_u64_nat A B hA hB, show mn a b = min a b by unfold mn; split <;> omega]
def belowN (a : Int) (A : Nat) (b : Int) (B : Nat) : Bool := decide (a ≤ b) && decide (A &&& B = A)
theorem label_Below_tells (a b : Int) (A B : Nat) (hA : A < 18446744073709551616) (hB : B < 18446744073709551616) : label_Below.f a (A : Int) b (B : Int) = some (belowN a A b B) := by
  unfold label_Below.f belowN
  rw [u64_andNot_nat A B hA hB]
  by_cases h : a ≤ b
  · rw [if_pos h]
    have := and_not_zero A B hA hB
    by_cases h2 : A &&& B = A
    · have h3 := this.2 h2
      rw [h3]; simp [h, h2]
    · have h3 : A &&& (18446744073709551615 - B) ≠ 0 := fun e => h2 (this.1 e)
      simp [h, h2]
      simpa using h3
  · rw [if_neg h]; simp [h]
theorem or_lt (A B : Nat) (hA : A < 18446744073709551616) (hB : B < 18446744073709551616) : A ||| B < 18446744073709551616 := Nat.or_lt_two_pow (n := 64) (by omega) (by omega)
theorem and_lt (A B : Nat) (hA : A < 18446744073709551616) : A &&& B < 18446744073709551616 := Nat.lt_of_le_of_lt Nat.and_le_left hA
end Go.Proofs.YtlhodalfbmdnnaaDoor.P

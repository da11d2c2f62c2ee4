/- jalousielaw02.LabelCut: the printed function answers true; no condition but the numbers' own bounds. -/
import Derived.Test.YtlhodalfbmdnnaaDoorLabelCutPx0
import Derived.Test.YtlhodalfbmdnnaaDoorLabelCutHLabelLaws
import Derived.Test.YtlhodalfbmdnnaaDoorLabelCutHPick
import Derived.Test.YtlhodalfbmdnnaaDoorLabelCutHBits
import Derived.Test.YtlhodalfbmdnnaaDoorLabelCutHBase
import Derived.Test.YtlhodalfbmdnnaaDoorLabelCutPxLabel
import Derived.Test.YtlhodalfbmdnnaaDoorLabelCutHTabs
import Derived.Test.YtlhodalfbmdnnaaDoorLabelCutHLive02
import Derived.Test.YtlhodalfbmdnnaaDoorLabelCutPxLLabelCut
namespace Go.Proofs.YtlhodalfbmdnnaaDoor.P
open Go.RowKit Go.Proofs.YtlhodalfbmdnnaaDoorW.PrintWords Go.Proofs.YtlhodalfbmdnnaaDoorW.PrintLast Go.Proofs.YtlhodalfbmdnnaaDoorW.PrintMore
set_option linter.unusedVariables false
set_option linter.unusedSimpArgs false
theorem belowN_iff (a : Int) (A : Nat) (b : Int) (B : Nat) : belowN a A b B = true ↔ a ≤ b ∧ ∀ i, A.testBit i = true → B.testBit i = true := by
  unfold belowN
  rw [Bool.and_eq_true, decide_eq_true_eq, decide_eq_true_eq]
  refine and_congr Iff.rfl ⟨fun h i hi => ?_, fun h => ?_⟩
  · have := congrArg (fun x => x.testBit i) h
    simp only [Nat.testBit_and] at this
    rw [hi] at this
    simpa using this
  · apply Nat.eq_of_testBit_eq
    intro i
    rw [Nat.testBit_and]
    have := h i
    cases ha : A.testBit i <;> simp_all
theorem cut_meet (a : Int) (A : Nat) (b : Int) (B : Nat) (c : Int) (C : Nat) : belowN c C (min a b) (A &&& B) = (belowN c C a A && belowN c C b B) := by
  rw [Bool.eq_iff_iff, Bool.and_eq_true, belowN_iff, belowN_iff, belowN_iff]
  constructor
  · rintro ⟨h1, h2⟩
    refine ⟨⟨by omega, fun i hi => ?_⟩, by omega, fun i hi => ?_⟩ <;> (have := h2 i hi; rw [Nat.testBit_and] at this; simp at this; simp [this])
  · rintro ⟨⟨h1, h2⟩, h3, h4⟩
    exact ⟨by omega, fun i hi => by rw [Nat.testBit_and, h2 i hi, h4 i hi]; rfl⟩
theorem cut_join (a : Int) (A : Nat) (b : Int) (B : Nat) (c : Int) (C : Nat) : belowN (max a b) (A ||| B) c C = (belowN a A c C && belowN b B c C) := by
  rw [Bool.eq_iff_iff, Bool.and_eq_true, belowN_iff, belowN_iff, belowN_iff]
  constructor
  · rintro ⟨h1, h2⟩
    exact ⟨⟨by omega, fun i hi => h2 i (by rw [Nat.testBit_or, hi]; rfl)⟩, by omega, fun i hi => h2 i (by rw [Nat.testBit_or, hi]; simp)⟩
  · rintro ⟨⟨h1, h2⟩, h3, h4⟩
    refine ⟨by omega, fun i hi => ?_⟩
    rw [Nat.testBit_or, Bool.or_eq_true] at hi
    exact hi.elim (h2 i) (h4 i)
theorem cut_is_join (a : Int) (A : Nat) (b : Int) (B : Nat) : belowN a A b B = (max a b == b && (((A ||| B : Nat) : Int) == (B : Int))) := by
  rw [Bool.eq_iff_iff, belowN_iff, Bool.and_eq_true, beq_iff_eq, beq_iff_eq]
  refine and_congr (by omega) ⟨fun h => ?_, fun h i hi => ?_⟩
  · congr 1
    apply Nat.eq_of_testBit_eq
    intro i
    rw [Nat.testBit_or]
    have := h i
    cases ha : A.testBit i <;> simp_all
  · have h1 : A ||| B = B := by omega
    rw [← h1, Nat.testBit_or, hi]; rfl
theorem cut_is_meet (a : Int) (A : Nat) (b : Int) (B : Nat) : belowN a A b B = (min a b == a && (((A &&& B : Nat) : Int) == (A : Int))) := by
  unfold belowN
  rw [Bool.eq_iff_iff]
  simp only [Bool.and_eq_true, decide_eq_true_eq, beq_iff_eq]
  omega
theorem LabelCut_true (a : Int) (A : Nat) (b : Int) (B : Nat) (c : Int) (C : Nat) (hA : A < 18446744073709551616) (hB : B < 18446744073709551616) (hC : C < 18446744073709551616) : jalousielaw02_LabelCut.f 100 a (A : Int) b (B : Int) c (C : Int) = some true := by
  have hJ := or_lt A B hA hB
  have hM := and_lt A B hA
  have hj : jalousielaw02_LabelCut.j0 100 false a (A : Int) b (B : Int) c (C : Int) = some true := by
    show jalousielaw02_LabelCut.j0 (99 + 1) false a (A : Int) b (B : Int) c (C : Int) = some true
    simp only [jalousielaw02_LabelCut.j0, jalousielaw02_live.f]
    rw [label_Below_tells a b A B hA hB, label_Join_tells a b A B hA hB, label_Meet_tells a b A B hA hB]
    simp only [Option.bind_some]
    rw [label_Below_tells (max a b) c (A ||| B) C hJ hC, label_Below_tells a c A C hA hC, label_Below_tells b c B C hB hC, cut_join]
    rw [← cut_is_join, ← cut_is_meet]
    simp only [Option.bind_some]
    cases belowN a A c C <;> simp
  unfold jalousielaw02_LabelCut.f
  rw [label_Below_tells c a C A hC hA, label_Below_tells c b C B hC hB, label_Meet_tells a b A B hA hB]
  simp only [Option.bind_some]
  rw [label_Below_tells c (min a b) C (A &&& B) hC hM, cut_meet]
  cases h : belowN c C a A with
  | true => rw [if_pos rfl]; simpa using hj
  | false => rw [if_neg (by simp)]; exact hj
theorem LabelCut.walk (a : Int) (A : Nat) (b : Int) (B : Nat) (c : Int) (C : Nat) (w : World) (hT : Tabs w) (hA : A < 18446744073709551616) (hB : B < 18446744073709551616) (hC : C < 18446744073709551616) :
    Calls Tryd.prog 15 #[.agg #[.int .i64 a, .int .u64 (A : Int)], .agg #[.int .i64 b, .int .u64 (B : Int)], .agg #[.int .i64 c, .int .u64 (C : Int)]] w fun e w' => e = .returned (.bool true) ∧ Below w.heap.size w w' :=
  jalousielaw02_LabelCut.calls 100 a A b B c C true w hT (LabelCut_true a A b B c C hA hB hC)
end Go.Proofs.YtlhodalfbmdnnaaDoor.P

/- jalousielaw02.LabelBack: the printed function answers true; conditions: the numbers' own bounds, and fewer than 2^32 - 15 bytes. -/
import Derived.Test.YtlhodalfbmdnnaaDoorLabelBackHLabelRead
import Derived.Test.YtlhodalfbmdnnaaDoorLabelBackHLive02
import Derived.Test.YtlhodalfbmdnnaaDoorLabelBackPxLLabelBack
namespace Go.Proofs.YtlhodalfbmdnnaaDoor.P
open Go.RowKit Go.Proofs.YtlhodalfbmdnnaaDoorW.PrintWords Go.Proofs.YtlhodalfbmdnnaaDoorW.PrintLast Go.Proofs.YtlhodalfbmdnnaaDoorW.PrintMore
set_option linter.unusedVariables false
set_option linter.unusedSimpArgs false
theorem LabelBack_true (a : Int) (A : Nat) (b : Int) (B : Nat) (s : ByteArray) (hA : A < 18446744073709551616) (hB : B < 18446744073709551616) (hs : s.size < 4294967281) : jalousielaw02_LabelBack.f 100 a (A : Int) b (B : Int) s = some true := by
  have hsz : (labOf a A).size < 4294967281 := by
    have h2 := lab_size a A
    omega
  obtain ⟨x, X, ra, hp⟩ : ∃ x X r, labRead (labOf a A) = (x, X, r) := ⟨_, _, _, rfl⟩
  obtain ⟨y, Y, has, hr⟩ : ∃ x X r, labRead s = (x, X, r) := ⟨_, _, _, rfl⟩
  have hra : ra = (decide (0 ≤ a) && decide (a ≤ 15)) := by
    by_cases h : 0 ≤ a ∧ a ≤ 15
    · rw [labRead_lab a A h.1 h.2 hA] at hp
      simp only [Prod.mk.injEq] at hp
      rw [← hp.2.2]; simp [h]
    · have h1 := labRead_out a A (by omega)
      rw [hp] at h1
      have h2 : ra = false := h1
      rw [h2]; simp; omega
  have hx : ra = true → x = a ∧ X = (A : Int) := by
    intro h
    rw [h] at hp
    have h3 := hra.symm.trans h
    rw [Bool.and_eq_true, decide_eq_true_eq, decide_eq_true_eq] at h3
    rw [labRead_lab a A h3.1 h3.2 hA] at hp
    simp only [Prod.mk.injEq] at hp
    exact ⟨hp.1.symm, hp.2.1.symm⟩
  have hy : has = true → label_Print.f 100 y Y = some s := by
    intro h
    rw [h] at hr
    obtain ⟨Z, rfl, h0, h1, hZ, rfl⟩ := labRead_sound s y Y hr
    exact text_Print_tells y Z 100 hZ (by omega)
  have he : ra = true → (decide (0 ≤ b) && decide (b ≤ 15)) = true → ((labOf a A).toList == (labOf b B).toList) = ((a == b) && ((A : Int) == (B : Int))) := by
    intro h1 h2
    rw [hra, Bool.and_eq_true, decide_eq_true_eq, decide_eq_true_eq] at h1
    rw [Bool.and_eq_true, decide_eq_true_eq, decide_eq_true_eq] at h2
    rw [Bool.eq_iff_iff, beq_iff_eq, Bool.and_eq_true, beq_iff_eq, beq_iff_eq]
    constructor
    · intro h
      have := labOf_inj a b A B h1.1 h1.2 hA h2.1 h2.2 hB (toList_inj h)
      omega
    · rintro ⟨rfl, h⟩
      have : A = B := by omega
      rw [this]
  unfold jalousielaw02_LabelBack.f jalousielaw02_live.f
  rw [text_Print_tells a A 100 hA (by omega), text_Print_tells b B 100 hB (by omega), right_tells, right_tells]
  simp only [Option.bind_some]
  rw [label_Parse_tells _ hsz, hp, label_Parse_tells _ hs, hr, ← hra]
  simp only [Option.bind_some]
  generalize labOf a A = P at he
  generalize labOf b B = Q at he
  generalize (decide (0 ≤ b) && decide (b ≤ 15)) = rb at he
  clear hp hr hra hsz
  cases ra with
  | false =>
    clear hx he
    cases has with
    | false => simp
    | true => rw [hy rfl]; simp
  | true =>
    obtain ⟨rfl, rfl⟩ := hx rfl
    have he2 := he rfl
    cases has with
    | false => cases rb with
      | false => simp
      | true => have h9 := he2 rfl; simp at h9 ⊢; try exact h9
    | true => rw [hy rfl]; cases rb with
      | false => simp
      | true => have h9 := he2 rfl; simp at h9 ⊢; try exact h9
theorem LabelBack.walk (a : Int) (A : Nat) (b : Int) (B : Nat) (s : ByteArray) (w : World) (hT : Tabs w) (hA : A < 18446744073709551616) (hB : B < 18446744073709551616) (hs : s.size < 4294967281) :
    Calls Tryd.prog 11 #[.agg #[.int .i64 a, .int .u64 (A : Int)], .agg #[.int .i64 b, .int .u64 (B : Int)], .string s] w fun e w' => e = .returned (.bool true) ∧ Below w.heap.size w w' :=
  jalousielaw02_LabelBack.calls 100 a A b B s true w hT (Lib.hid rfl) (LabelBack_true a A b B s hA hB hs)
end Go.Proofs.YtlhodalfbmdnnaaDoor.P

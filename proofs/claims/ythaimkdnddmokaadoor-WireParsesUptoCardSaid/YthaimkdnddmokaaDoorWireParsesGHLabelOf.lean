/- what this claim needs of the words and the printed functions; conditions: as each statement says -/
import Derived.Test.YthaimkdnddmokaaDoorWireParsesGHBase
import Derived.Test.YthaimkdnddmokaaDoorWireParsesHBits
import Derived.Test.YthaimkdnddmokaaDoorWireParsesPxLabel
import Derived.Test.YthaimkdnddmokaaDoorWireParsesPxJalousieref02
namespace Go.Proofs.YthaimkdnddmokaaDoor.P
open Go.RowKit Go.Proofs.YthaimkdnddmokaaDoorW.PrintWords Go.Proofs.YthaimkdnddmokaaDoorW.PrintLast Go.Proofs.YthaimkdnddmokaaDoorW.PrintMore
set_option linter.unusedVariables false
set_option linter.unusedSimpArgs false
def catsFrom (A i : Nat) : List Int := ((List.range' i (64 - i)).filter fun c => A.testBit c).map fun c : Nat => (c : Int)
theorem catsFrom_end (A : Nat) : catsFrom A 64 = [] := rfl
theorem catsFrom_next (A i : Nat) (h : i < 64) : catsFrom A i = if A.testBit i = true then (i : Int) :: catsFrom A (i + 1) else catsFrom A (i + 1) := by
  unfold catsFrom
  rw [show 64 - i = (64 - (i + 1)) + 1 by omega, List.range'_succ, List.filter_cons]
  split <;> rfl
theorem catsFrom_le (A i : Nat) : (catsFrom A i).length ≤ 64 - i := by
  unfold catsFrom
  rw [List.length_map]
  have := List.length_filter_le (fun c => A.testBit c) (List.range' i (64 - i))
  rw [List.length_range'] at this
  exact this
theorem catsFrom_congr (A B i : Nat) (h : ∀ j, i ≤ j → A.testBit j = B.testBit j) : catsFrom A i = catsFrom B i := by
  unfold catsFrom
  congr 1
  apply List.filter_congr
  intro x hx
  exact h x (List.mem_range'_1.1 hx).1
theorem low_clear (t m : Nat) : (2 ^ t * (2 * m + 1)) &&& (2 ^ t * (2 * m + 1) - 1) = 2 ^ (t + 1) * m := by
  have hp : 0 < 2 ^ t := Nat.pow_pos (by omega)
  have e : 2 ^ t * (2 * m + 1) - 1 = 2 ^ t * (2 * m) + (2 ^ t - 1) := by rw [Nat.mul_add]; omega
  rw [e]
  apply Nat.eq_of_testBit_eq
  intro j
  rw [Nat.testBit_and, Nat.testBit_two_pow_mul, Nat.testBit_two_pow_mul_add _ (by omega), Nat.testBit_two_pow_mul]
  by_cases h : j < t
  · have h1 : ¬ t ≤ j := by omega
    have h2 : ¬ t + 1 ≤ j := by omega
    simp [h1, h2]
  · by_cases h2 : j = t
    · subst h2; simp; omega
    · obtain ⟨s, rfl⟩ : ∃ s, j = t + 1 + s := ⟨j - (t + 1), by omega⟩
      rw [if_neg h, show t + 1 + s - t = s + 1 by omega, show t + 1 + s - (t + 1) = s by omega, Nat.testBit_succ, Nat.testBit_succ]
      have h3 : t ≤ t + 1 + s := by omega
      have h4 : (2 * m + 1) / 2 = m := by omega
      have h5 : 2 * m / 2 = m := by omega
      simp [h3, h4, h5]
theorem cats_cut (t m i : Nat) (hi : i ≤ t) (ht : t < 64) : catsFrom (2 ^ t * (2 * m + 1)) i = (t : Int) :: catsFrom (2 ^ (t + 1) * m) (t + 1) := by
  obtain ⟨d, rfl⟩ : ∃ d, t = i + d := ⟨t - i, by omega⟩
  induction d generalizing i with
  | zero =>
    rw [catsFrom_next _ _ (by omega), if_pos (by rw [Nat.testBit_two_pow_mul]; simp)]
    congr 1
    apply catsFrom_congr
    intro j hj
    rw [Nat.testBit_two_pow_mul, Nat.testBit_two_pow_mul]
    obtain ⟨s, rfl⟩ : ∃ s, j = i + 0 + 1 + s := ⟨j - (i + 0 + 1), by omega⟩
    rw [show i + 0 + 1 + s - (i + 0) = s + 1 by omega, show i + 0 + 1 + s - (i + 0 + 1) = s by omega, Nat.testBit_succ, show (2 * m + 1) / 2 = m by omega]
    have h1 : i ≤ i + 1 + s := by omega
    simp [h1]
  | succ d ih =>
    rw [catsFrom_next _ _ (by omega), if_neg (by rw [Nat.testBit_two_pow_mul]; simp)]
    have := ih (i + 1) (by omega) (by omega)
    rw [show i + 1 + d = i + (d + 1) by omega] at this
    exact this
theorem catsFrom_zero (i : Nat) : catsFrom 0 i = [] := by
  unfold catsFrom
  simp
theorem text_cats_l (d : Nat) : ∀ (i k X : Nat) (acc : List Int), i + d = 64 → d < k → acc.length + d ≤ 10000 → X < 18446744073709551616 → (∃ Y, X = 2 ^ i * Y) → label_Cats.l0 k acc (X : Int) = some (acc ++ catsFrom X i) := by
  induction d using Nat.strongRecOn with
  | ind d ih =>
    intro i k X acc hi hk ha hX hY
    obtain ⟨k, rfl⟩ : ∃ m, k = m + 1 := ⟨k - 1, by omega⟩
    simp only [label_Cats.l0]
    by_cases h0 : X = 0
    · subst h0
      rw [if_pos (by omega), catsFrom_zero, List.append_nil]
    · rw [if_neg (by omega)]
      obtain ⟨m, hm, hlt⟩ := Lib.ctzFrom_spec 64 X (by omega) (by omega)
      have hc : bits_TrailingZeros64.f (X : Int) = some ((Lib.ctzFrom 64 X : Nat) : Int) := by
        unfold bits_TrailingZeros64.f Lib.ctz
        rw [if_pos (by omega), if_pos (by omega), Int.toNat_natCast, if_neg h0]
      rw [hc]
      simp only [Option.bind_some]
      rw [if_pos (by omega)]
      have hw : IntKind.u64.wrap ((X : Int) - 1) = ((X - 1 : Nat) : Int) := by rw [IntKind.wrap_u64]; omega
      rw [hw, bits_and_u64_nat X (X - 1) hX (by omega)]
      generalize Lib.ctzFrom 64 X = t at hm hlt
      obtain ⟨Y, hY⟩ := hY
      have hit : i ≤ t := by
        by_cases h : i ≤ t
        · exact h
        · exfalso
          obtain ⟨s, hs⟩ : ∃ s, i = t + 1 + s := ⟨i - (t + 1), by omega⟩
          have h1 : 2 ^ t * (2 * m + 1) = 2 ^ t * (2 * (2 ^ s * Y)) := by
            rw [← hm, hY, hs, Nat.pow_add, Nat.pow_add]; simp [Nat.mul_assoc]
          have h2 := Nat.eq_of_mul_eq_mul_left (Nat.pow_pos (by omega)) h1
          omega
      have hcl := low_clear t m
      rw [← hm] at hcl
      rw [hcl]
      have hle : 2 ^ (t + 1) * m < 18446744073709551616 := by
        have : 2 ^ (t + 1) * m ≤ X := by rw [← hcl]; exact Nat.and_le_left
        omega
      rw [ih (64 - (t + 1)) (by omega) (t + 1) k _ _ (by omega) (by omega) (by simp; omega) hle ⟨m, rfl⟩, List.append_assoc]
      have hcc := cats_cut t m i hit hlt
      rw [← hm] at hcc
      rw [hcc]
      rfl
theorem text_Cats_tells (l : Int) (A k : Nat) (hA : A < 18446744073709551616) (hk : 65 ≤ k) : label_Cats.f k l (A : Int) = some (catsFrom A 0) := by
  unfold label_Cats.f
  exact text_cats_l 64 0 k A [] (by omega) (by omega) (by simp) hA ⟨A, by simp⟩
theorem right_tells (a : Int) (A : Int) : label_Right.f a A = some (decide (0 ≤ a) && decide (a ≤ 15)) := by
  unfold label_Right.f
  by_cases h : a ≥ 0
  · rw [if_pos h]; simp [h]
  · rw [if_neg h]; simp; omega
theorem ref_right_tells (a : Int) (A : Int) : jalousieref02_Right.f a A = some (decide (0 ≤ a) && decide (a ≤ 15)) := by
  unfold jalousieref02_Right.f
  by_cases h : a ≥ 0
  · rw [if_pos h]
    have : decide (a < 16) = decide (a ≤ 15) := by rw [Bool.eq_iff_iff]; simp; omega
    rw [this]; simp [h]
  · rw [if_neg h]; simp; omega
end Go.Proofs.YthaimkdnddmokaaDoor.P
namespace Go.Proofs.YthaimkdnddmokaaDoor.P
open Go.RowKit Go.Proofs.YthaimkdnddmokaaDoorW.PrintWords Go.Proofs.YthaimkdnddmokaaDoorW.PrintLast Go.Proofs.YthaimkdnddmokaaDoorW.PrintMore
set_option linter.unusedVariables false
set_option linter.unusedSimpArgs false
def ofN : List Int → Nat → Option Nat
  | [], A => some A
  | c :: l, A => if 0 ≤ c ∧ c ≤ 63 then ofN l (A ||| 2 ^ c.toNat) else none
def ofEnd (a : Int) : Option Nat → Int × Int × Int
  | some A => (a, (A : Int), 0)
  | none => (0, 0, 2)
theorem shl_one (c : Int) (h0 : 0 ≤ c) (h1 : c ≤ 63) : shl .u64 1 c = ((2 ^ c.toNat : Nat) : Int) := by
  unfold shl
  have hp : 2 ^ c.toNat < 18446744073709551616 := Nat.lt_of_le_of_lt (Nat.pow_le_pow_right (by omega) (show c.toNat ≤ 63 by omega)) (by decide)
  rw [show IntKind.u64.bits = 64 from rfl, Nat.min_eq_left (by omega), IntKind.wrap_u64, Int.one_mul]
  have : (2 : Int) ^ c.toNat = ((2 ^ c.toNat : Nat) : Int) := by simp
  rw [this]
  generalize 2 ^ c.toNat = p at hp
  omega
theorem two_pow_lt (c : Int) (h0 : 0 ≤ c) (h1 : c ≤ 63) : 2 ^ c.toNat < 18446744073709551616 := Nat.lt_of_le_of_lt (Nat.pow_le_pow_right (by omega) (show c.toNat ≤ 63 by omega)) (by decide)
theorem rd_dropI (l : List Int) (i : Nat) (h : i < l.length) : l.drop i = rd l (i : Int) :: l.drop (i + 1) := by
  rw [List.drop_eq_getElem_cons h]
  congr 1
  simp [rd, List.getD_eq_getElem?_getD, h]
theorem text_of_l (l : List Int) (a : Int) (hl : l.length ≤ 9223372036854775807) (d : Nat) : ∀ (i k A : Nat), i + d = l.length → d < k → A < 18446744073709551616 → label_Of.l0 k l (l.length : Int) (i : Int) a (A : Int) = some (ofEnd a (ofN (l.drop i) A)) := by
  induction d with
  | zero =>
    intro i k A hi hk hA
    obtain ⟨k, rfl⟩ : ∃ m, k = m + 1 := ⟨k - 1, by omega⟩
    simp only [label_Of.l0]
    rw [if_neg (by omega), List.drop_eq_nil_of_le (by omega)]
    rfl
  | succ d ih =>
    intro i k A hi hk hA
    obtain ⟨k, rfl⟩ : ∃ m, k = m + 1 := ⟨k - 1, by omega⟩
    simp only [label_Of.l0]
    rw [if_pos (by omega), if_pos (by omega), if_pos (by omega), rd_dropI l i (by omega), ofN]
    by_cases h0 : rd l (i : Int) < 0
    · rw [if_pos h0, if_neg (by omega)]; rfl
    · rw [if_neg h0]
      by_cases h1 : rd l (i : Int) > 63
      · rw [if_pos h1, if_neg (by omega)]; rfl
      · have hp := two_pow_lt (rd l (i : Int)) (by omega) (by omega)
        rw [if_neg h1, if_pos (by omega), if_pos (by omega), w64 _ (by omega) (by omega), shl_one _ (by omega) (by omega), bits_or_u64_nat A _ hA hp]
        exact ih (i + 1) k _ (by omega) (by omega) (or_lt A _ hA hp)
theorem or_new (A c : Nat) (h : A.testBit c = false) : A ||| 2 ^ c = A + 2 ^ c := by
  have hd : A = 2 ^ (c + 1) * (A / 2 ^ (c + 1)) + A % 2 ^ (c + 1) := (Nat.div_add_mod _ _).symm
  have hp : 0 < 2 ^ c := Nat.pow_pos (by omega)
  have hpp : 2 ^ (c + 1) = 2 * 2 ^ c := by rw [Nat.pow_succ]; omega
  have hr : A % 2 ^ (c + 1) < 2 ^ c := by
    rw [Nat.testBit_eq_decide_div_mod_eq] at h
    have h2 : A / 2 ^ c % 2 = 0 := by simp at h; omega
    rw [hpp, Nat.mul_comm, Nat.mod_mul, h2]
    have := Nat.mod_lt A hp
    omega
  apply Nat.eq_of_testBit_eq
  intro i
  rw [Nat.testBit_or, Nat.testBit_two_pow]
  have e2 : A + 2 ^ c = 2 ^ (c + 1) * (A / 2 ^ (c + 1)) + (2 ^ c * 1 + A % 2 ^ (c + 1)) := by omega
  rw [e2, Nat.testBit_two_pow_mul_add _ (by omega)]
  conv => lhs; rw [hd, Nat.testBit_two_pow_mul_add _ (by omega)]
  by_cases hi : i < c + 1
  · rw [if_pos hi, if_pos hi, Nat.testBit_two_pow_mul_add _ hr]
    by_cases hi2 : i < c
    · rw [if_pos hi2]; simp [show c ≠ i by omega]
    · obtain rfl : i = c := by omega
      rw [if_neg hi2]
      simp
  · rw [if_neg hi, if_neg hi]; simp [show c ≠ i by omega]
def ofAll (a : Int) (l : List Int) : Int × Int × Int := if 0 ≤ a ∧ a ≤ 15 then ofEnd a (ofN l 0) else (0, 0, 2)
theorem text_Of_tells (a : Int) (l : List Int) (hl : l.length ≤ 9223372036854775807) (k : Nat) (hk : l.length + 1 ≤ k) : label_Of.f k a l = some (ofAll a l) := by
  unfold label_Of.f ofAll
  rw [right_tells]
  simp only [Option.bind_some]
  by_cases h : 0 ≤ a ∧ a ≤ 15
  · rw [if_pos (by simp [h]), if_pos h]
    exact text_of_l l a hl l.length 0 k 0 (by omega) (by omega) (by omega)
  · rw [if_neg (by simp; omega), if_neg h]
end Go.Proofs.YthaimkdnddmokaaDoor.P

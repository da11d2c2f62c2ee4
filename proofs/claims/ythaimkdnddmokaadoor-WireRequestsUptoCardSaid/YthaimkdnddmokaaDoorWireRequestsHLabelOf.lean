/- plain laws of label.Of: both programs lay the same bits -/
-- no module for jalousieref02_Of
import Derived.Test.YthaimkdnddmokaaDoorWireRequestsGHLabelCats
import Derived.Test.YthaimkdnddmokaaDoorWireRequestsPxLabel
namespace Go.Proofs.YthaimkdnddmokaaDoor.P
open Go.RowKit Go.Proofs.YthaimkdnddmokaaDoorW.PrintWords Go.Proofs.YthaimkdnddmokaaDoorW.PrintLast Go.Proofs.YthaimkdnddmokaaDoorW.PrintMore
set_option linter.unusedVariables false
set_option linter.unusedSimpArgs false
def ofN : List Int → Nat → Option Nat
  | [], A => some A
  | c :: l, A => if 0 ≤ c ∧ c ≤ 63 then ofN l (A ||| 2 ^ c.toNat) else none
def ofEnd (a : Int) : Option Nat → Int × Int × Int
  | some A => (a, (A : Int), 0)
  | none => (0, 0, 2)
theorem shl_one (c : Int) (h0 : 0 ≤ c) (h1 : c ≤ 63) : shl .u64 1 c = ((2 ^ c.toNat : Nat) : Int) := by
  unfold shl
  have hp : 2 ^ c.toNat < 18446744073709551616 := Nat.lt_of_le_of_lt (Nat.pow_le_pow_right (by omega) (show c.toNat ≤ 63 by omega)) (by decide)
  rw [show IntKind.u64.bits = 64 from rfl, Nat.min_eq_left (by omega), IntKind.wrap_u64, Int.one_mul]
  have : (2 : Int) ^ c.toNat = ((2 ^ c.toNat : Nat) : Int) := by simp
  rw [this]
  generalize 2 ^ c.toNat = p at hp
  omega
theorem two_pow_lt (c : Int) (h0 : 0 ≤ c) (h1 : c ≤ 63) : 2 ^ c.toNat < 18446744073709551616 := Nat.lt_of_le_of_lt (Nat.pow_le_pow_right (by omega) (show c.toNat ≤ 63 by omega)) (by decide)
theorem rd_dropI (l : List Int) (i : Nat) (h : i < l.length) : l.drop i = rd l (i : Int) :: l.drop (i + 1) := by
  rw [List.drop_eq_getElem_cons h]
  congr 1
  simp [rd, List.getD_eq_getElem?_getD, h]
theorem text_of_l (l : List Int) (a : Int) (hl : l.length ≤ 9223372036854775807) (d : Nat) : ∀ (i k A : Nat), i + d = l.length → d < k → A < 18446744073709551616 → label_Of.l0 k l (l.length : Int) (i : Int) a (A : Int) = some (ofEnd a (ofN (l.drop i) A)) := by
  induction d with
  | zero =>
    intro i k A hi hk hA
    obtain ⟨k, rfl⟩ : ∃ m, k = m + 1 := ⟨k - 1, by omega⟩
    simp only [label_Of.l0]
    rw [if_neg (by omega), List.drop_eq_nil_of_le (by omega)]
    rfl
  | succ d ih =>
    intro i k A hi hk hA
    obtain ⟨k, rfl⟩ : ∃ m, k = m + 1 := ⟨k - 1, by omega⟩
    simp only [label_Of.l0]
    rw [if_pos (by omega), if_pos (by omega), if_pos (by omega), rd_dropI l i (by omega), ofN]
    by_cases h0 : rd l (i : Int) < 0
    · rw [if_pos h0, if_neg (by omega)]; rfl
    · rw [if_neg h0]
      by_cases h1 : rd l (i : Int) > 63
      · rw [if_pos h1, if_neg (by omega)]; rfl
      · have hp := two_pow_lt (rd l (i : Int)) (by omega) (by omega)
        rw [if_neg h1, if_pos (by omega), if_pos (by omega), w64 _ (by omega) (by omega), shl_one _ (by omega) (by omega), bits_or_u64_nat A _ hA hp]
        exact ih (i + 1) k _ (by omega) (by omega) (or_lt A _ hA hp)
theorem or_new (A c : Nat) (h : A.testBit c = false) : A ||| 2 ^ c = A + 2 ^ c := by
  have hd : A = 2 ^ (c + 1) * (A / 2 ^ (c + 1)) + A % 2 ^ (c + 1) := (Nat.div_add_mod _ _).symm
  have hp : 0 < 2 ^ c := Nat.pow_pos (by omega)
  have hpp : 2 ^ (c + 1) = 2 * 2 ^ c := by rw [Nat.pow_succ]; omega
  have hr : A % 2 ^ (c + 1) < 2 ^ c := by
    rw [Nat.testBit_eq_decide_div_mod_eq] at h
    have h2 : A / 2 ^ c % 2 = 0 := by simp at h; omega
    rw [hpp, Nat.mul_comm, Nat.mod_mul, h2]
    have := Nat.mod_lt A hp
    omega
  apply Nat.eq_of_testBit_eq
  intro i
  rw [Nat.testBit_or, Nat.testBit_two_pow]
  have e2 : A + 2 ^ c = 2 ^ (c + 1) * (A / 2 ^ (c + 1)) + (2 ^ c * 1 + A % 2 ^ (c + 1)) := by omega
  rw [e2, Nat.testBit_two_pow_mul_add _ (by omega)]
  conv => lhs; rw [hd, Nat.testBit_two_pow_mul_add _ (by omega)]
  by_cases hi : i < c + 1
  · rw [if_pos hi, if_pos hi, Nat.testBit_two_pow_mul_add _ hr]
    by_cases hi2 : i < c
    · rw [if_pos hi2]; simp [show c ≠ i by omega]
    · obtain rfl : i = c := by omega
      rw [if_neg hi2]
      simp
  · rw [if_neg hi, if_neg hi]; simp [show c ≠ i by omega]
def ofAll (a : Int) (l : List Int) : Int × Int × Int := if 0 ≤ a ∧ a ≤ 15 then ofEnd a (ofN l 0) else (0, 0, 2)
theorem text_Of_tells (a : Int) (l : List Int) (hl : l.length ≤ 9223372036854775807) (k : Nat) (hk : l.length + 1 ≤ k) : label_Of.f k a l = some (ofAll a l) := by
  unfold label_Of.f ofAll
  rw [right_tells]
  simp only [Option.bind_some]
  by_cases h : 0 ≤ a ∧ a ≤ 15
  · rw [if_pos (by simp [h]), if_pos h]
    exact text_of_l l a hl l.length 0 k 0 (by omega) (by omega) (by omega)
  · rw [if_neg (by simp; omega), if_neg h]
end Go.Proofs.YthaimkdnddmokaaDoor.P

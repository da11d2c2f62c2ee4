/- what this claim needs of the words and the printed functions; conditions: as each statement says -/
import Derived.Test.YthaimkdnddmokaaDoorWireParsesGHTabs
import Derived.Test.YthaimkdnddmokaaDoorWireParsesGHBase
import Derived.Test.YthaimkdnddmokaaDoorWireParsesHText
import Derived.Test.YthaimkdnddmokaaDoorWireParsesGHEqLabel
namespace Go.Proofs.YthaimkdnddmokaaDoor.P
open Go.RowKit Go.Proofs.YthaimkdnddmokaaDoorW.PrintWords Go.Proofs.YthaimkdnddmokaaDoorW.PrintLast Go.Proofs.YthaimkdnddmokaaDoorW.PrintMore
set_option linter.unusedVariables false
set_option linter.unusedSimpArgs false
theorem decF_lt (f n : Nat) (h : n < 10) : decF (f + 1) n = [UInt8.ofNat (48 + n)] := by rw [decF, if_pos h]
theorem decF_ge (f n : Nat) (h : ¬ n < 10) : decF (f + 1) n = decF f (n / 10) ++ [UInt8.ofNat (48 + n % 10)] := by rw [decF, if_neg h]
theorem decF_fuel : ∀ (f n : Nat), n < 10 ^ (f + 1) → decF (f + 2) n = decF (f + 1) n
  | 0, n, h => by
    have : n < 10 := by omega
    simp [decF, this]
  | f + 1, n, h => by
    by_cases hn : n < 10
    · rw [decF_lt _ _ hn, decF_lt _ _ hn]
    · rw [decF_ge _ _ hn, decF_ge (f + 1) _ hn, decF_fuel f (n / 10) (by rw [Nat.pow_succ] at h; omega)]
theorem decF_fuel_le (f n : Nat) (h : n < 10 ^ (f + 1)) : ∀ d, decF (f + 1 + d) n = decF (f + 1) n
  | 0 => rfl
  | d + 1 => by
    rw [← decF_fuel_le f n h d]
    have := decF_fuel (f + d) n (Nat.lt_of_lt_of_le h (Nat.pow_le_pow_right (by omega) (by omega)))
    rw [show f + 1 + (d + 1) = f + d + 2 by omega, show f + 1 + d = f + d + 1 by omega]
    exact this
theorem decF_length : ∀ (f n : Nat), (decF f n).length ≤ f
  | 0, n => by simp [decF]
  | f + 1, n => by
    rw [decF]
    split
    · simp
    · have := decF_length f (n / 10); simp; omega
end Go.Proofs.YthaimkdnddmokaaDoor.P
namespace Go.Proofs.YthaimkdnddmokaaDoor.P
open Go.RowKit Go.Proofs.YthaimkdnddmokaaDoorW.PrintWords Go.Proofs.YthaimkdnddmokaaDoorW.PrintLast Go.Proofs.YthaimkdnddmokaaDoorW.PrintMore
set_option linter.unusedVariables false
set_option linter.unusedSimpArgs false
theorem numAcc_append : ∀ (l m : List UInt8) (a : Int), numAcc (l ++ m) a = (numAcc l a).bind (numAcc m)
  | [], m, a => rfl
  | b :: l, m, a => by
    simp only [List.cons_append, numAcc]
    split
    · rfl
    · split
      · rfl
      · exact numAcc_append l m _
theorem numAcc_one (d : Nat) (h : d < 10) (a : Int) : numAcc [UInt8.ofNat (48 + d)] a = some (10 * a + d) := by
  have e : ((UInt8.ofNat (48 + d)).toNat : Int) = 48 + d := by rw [UInt8.toNat_ofNat']; omega
  simp only [numAcc, e]
  rw [if_neg (by omega), if_neg (by omega)]
  congr 1; omega
theorem numAcc_decF : ∀ (f n : Nat), n < 10 ^ (f + 1) → numAcc (decF (f + 1) n) 0 = some (n : Int)
  | 0, n, h => by
    rw [decF_lt _ _ (by omega), numAcc_one n (by omega)]; simp
  | f + 1, n, h => by
    by_cases hn : n < 10
    · rw [decF_lt _ _ hn, numAcc_one n hn]; simp
    · rw [decF_ge _ _ hn, numAcc_append, numAcc_decF f (n / 10) (by rw [Nat.pow_succ] at h; omega)]
      simp only [Option.bind_some]
      rw [numAcc_one _ (by omega)]
      congr 1; omega
theorem decF_head : ∀ (f n : Nat), n < 10 ^ (f + 1) → 1 ≤ n → ∃ b l, decF (f + 1) n = b :: l ∧ b.toNat ≠ 48
  | 0, n, h, h1 => ⟨_, [], decF_lt _ _ (by omega), by rw [UInt8.toNat_ofNat']; omega⟩
  | f + 1, n, h, h1 => by
    by_cases hn : n < 10
    · exact ⟨_, [], decF_lt _ _ hn, by rw [UInt8.toNat_ofNat']; omega⟩
    · obtain ⟨b, l, e, hb⟩ := decF_head f (n / 10) (by rw [Nat.pow_succ] at h; omega) (by omega)
      exact ⟨b, _, by rw [decF_ge _ _ hn, e]; rfl, hb⟩
theorem decF_pos (f n : Nat) : 1 ≤ (decF (f + 1) n).length := by
  rw [decF]; split <;> simp
theorem bt_zero (l : List UInt8) (b : UInt8) : bt ⟨(b :: l).toArray⟩ 0 = b.toNat := by
  have h : 0 < (⟨(b :: l).toArray⟩ : ByteArray).size := by show 0 < (b :: l).length; simp
  have := bt_data ⟨(b :: l).toArray⟩ 0 h
  simpa using this
theorem numOf_dec (n : Nat) (h : n ≤ 2147483647) : numOf (decOf (n : Int)) = ((n : Int), true) := by
  unfold decOf
  rw [if_neg (by omega), if_neg (by omega), Int.toNat_natCast]
  have hl := decF_length 10 n
  have hp : 1 ≤ (decF 10 n).length := decF_pos 9 n
  have hs : (⟨(decF 10 n).toArray⟩ : ByteArray).size = (decF 10 n).length := rfl
  unfold numOf
  rw [hs, if_neg]
  · show numEnd (numAcc (decF 10 n) 0) = _
    rw [numAcc_decF 9 n (by omega)]
    simp only [numEnd]; rw [if_neg (by omega)]
  · rintro (h0 | h0 | ⟨h0, h1⟩)
    · omega
    · omega
    · by_cases hn : 1 ≤ n
      · obtain ⟨b, l, e, hb⟩ := decF_head 9 n (by omega) hn
        rw [e, bt_zero] at h1
        omega
      · obtain rfl : n = 0 := by omega
        simp [decF] at h0
theorem numAcc_le : ∀ (l : List UInt8) (a n : Int), 0 ≤ a → numAcc l a = some n → a ≤ n
  | [], a, n, h0, h => by simp only [numAcc, Option.some.injEq] at h; omega
  | b :: l, a, n, h0, h => by
    simp only [numAcc] at h
    split at h
    · cases h
    · split at h
      · cases h
      · have := numAcc_le l _ n (by omega) h; omega
theorem numAcc_lt : ∀ (l : List UInt8) (a n : Int), 0 ≤ a → numAcc l a = some n → n < (a + 1) * 10 ^ l.length
  | [], a, n, h0, h => by simp only [numAcc, Option.some.injEq] at h; simp; omega
  | b :: l, a, n, h0, h => by
    simp only [numAcc] at h
    split at h
    · cases h
    · split at h
      · cases h
      · have := numAcc_lt l _ n (by omega) h
        have hp : (0 : Int) ≤ 10 ^ l.length := Int.le_of_lt (Int.pow_pos (by omega))
        have h2 : (10 * a + ((b.toNat : Int) - 48) + 1) * 10 ^ l.length ≤ (10 * a + 10) * 10 ^ l.length := Int.mul_le_mul_of_nonneg_right (by omega) hp
        have h3 : (a + 1) * 10 ^ (b :: l).length = (10 * a + 10) * 10 ^ l.length := by
          rw [List.length_cons, Int.pow_succ, ← Int.mul_assoc, Int.mul_right_comm]
          congr 1; omega
        omega
/-- a text of digits that begins with none too many is its number's text -/
theorem dec_numAcc (f : Nat) : ∀ (l : List UInt8) (n : Nat), l.length = f + 1 → (∀ b m, l = b :: m → m ≠ [] → b.toNat ≠ 48) → numAcc l 0 = some (n : Int) → decF (f + 1) n = l := by
  induction f with
  | zero =>
    intro l n hl _ h
    obtain ⟨b, rfl⟩ := List.length_eq_one_iff.1 hl
    simp only [numAcc] at h
    split at h
    · cases h
    · split at h
      · cases h
      · simp only [Option.some.injEq] at h
        rw [decF_lt _ _ (by omega)]
        congr 1
        apply UInt8.toNat_inj.1
        rw [UInt8.toNat_ofNat']; omega
  | succ f ih =>
    intro l n hl hz h
    have hne : l ≠ [] := by intro e; rw [e] at hl; simp at hl
    obtain ⟨m, d, rfl⟩ : ∃ m d, l = m ++ [d] := ⟨_, _, (List.dropLast_concat_getLast hne).symm⟩
    have hm : m.length = f + 1 := by simpa using hl
    rw [numAcc_append] at h
    cases hx : numAcc m 0 with
    | none => rw [hx] at h; cases h
    | some x =>
      rw [hx] at h
      simp only [Option.bind_some, numAcc] at h
      split at h
      · cases h
      · split at h
        · cases h
        · simp only [Option.some.injEq] at h
          have hx0 := numAcc_le m 0 x (by omega) hx
          cases m with
          | nil => simp at hm
          | cons b m =>
            have hb := hz b (m ++ [d]) rfl (by simp)
            have hx1 : 1 ≤ x := by
              simp only [numAcc] at hx
              split at hx
              · cases hx
              · split at hx
                · cases hx
                · have := numAcc_le m _ x (by omega) hx; omega
            obtain ⟨y, rfl⟩ := Int.eq_ofNat_of_zero_le hx0
            have e1 : n / 10 = y := by omega
            have e2 : n % 10 = d.toNat - 48 := by omega
            rw [decF_ge _ _ (by omega), e1, ih (b :: m) y hm (fun b' m' e hne' => by
              obtain ⟨rfl, rfl⟩ := List.cons.inj e
              exact hb) hx, e2]
            congr 2
            apply UInt8.toNat_inj.1
            rw [UInt8.toNat_ofNat']; omega
theorem dec_numOf (s : ByteArray) (n : Int) (h : numOf s = (n, true)) : decOf n = s := by
  unfold numOf at h
  split at h
  · cases h
  · rename_i hc
    simp only [not_or, not_and] at hc
    obtain ⟨c1, c2, c3⟩ := hc
    cases hx : numAcc s.data.toList 0 with
    | none => rw [hx] at h; cases h
    | some x =>
      rw [hx] at h
      simp only [numEnd] at h
      split at h
      · cases h
      · simp only [Prod.mk.injEq, and_true] at h
        subst h
        have hx0 := numAcc_le _ 0 x (by omega) hx
        obtain ⟨y, rfl⟩ := Int.eq_ofNat_of_zero_le hx0
        have hl := data_length s
        obtain ⟨f, hf⟩ : ∃ f, s.data.toList.length = f + 1 := ⟨s.data.toList.length - 1, by omega⟩
        have hd := dec_numAcc f s.data.toList y hf (fun b m e hne => by
          have hm : 1 ≤ m.length := List.length_pos_iff.2 hne
          have := congrArg List.length e
          simp at this
          have hb : bt s 0 = b.toNat := by
            have h0 := bt_data s 0 (by omega)
            simp only [e] at h0
            simpa using h0
          have := c3 (by omega)
          omega) hx
        unfold decOf
        rw [if_neg (by omega), if_neg (by omega), Int.toNat_natCast]
        have hlt := numAcc_lt s.data.toList 0 y (by omega) hx
        rw [hf] at hlt
        have hlt' : y < 10 ^ (f + 1) := by
          have e : ((0 : Int) + 1) * 10 ^ (f + 1) = ((10 ^ (f + 1) : Nat) : Int) := by simp
          omega
        have := decF_fuel_le f y hlt' (9 - f)
        rw [show f + 1 + (9 - f) = 10 by omega] at this
        rw [this, hd]
end Go.Proofs.YthaimkdnddmokaaDoor.P

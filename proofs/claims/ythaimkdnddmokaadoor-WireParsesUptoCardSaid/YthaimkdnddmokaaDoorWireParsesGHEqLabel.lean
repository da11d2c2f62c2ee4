/- what this claim needs of the words and the printed functions; conditions: as each statement says -/
import Derived.Test.YthaimkdnddmokaaDoorWireParsesGHTabs
import Derived.Test.YthaimkdnddmokaaDoorWireParsesGHBase
import Derived.Test.YthaimkdnddmokaaDoorWireParsesPxText
import Derived.Test.YthaimkdnddmokaaDoorWireParsesPxJalousieref01
namespace Go.Proofs.YthaimkdnddmokaaDoor.P
open Go.RowKit Go.Proofs.YthaimkdnddmokaaDoorW.PrintWords Go.Proofs.YthaimkdnddmokaaDoorW.PrintLast Go.Proofs.YthaimkdnddmokaaDoorW.PrintMore
set_option linter.unusedVariables false
set_option linter.unusedSimpArgs false
def numAcc : List UInt8 → Int → Option Int
  | [], n => some n
  | b :: l, n => if (b.toNat : Int) < 48 then none else if 57 < (b.toNat : Int) then none else numAcc l (10 * n + ((b.toNat : Int) - 48))
def numEnd : Option Int → Int × Bool
  | none => (0, false)
  | some n => if 2147483647 < n then (0, false) else (n, true)
def numOf (s : ByteArray) : Int × Bool := if s.size = 0 ∨ 10 < s.size ∨ (1 < s.size ∧ bt s 0 = 48) then (0, false) else numEnd (numAcc s.data.toList 0)
theorem text_num_l (s : ByteArray) (hs : s.size ≤ 10) (d : Nat) : ∀ (i k : Nat) (n : Int), i + d = s.size → 0 ≤ n → n < 10 ^ i → d < k → text_Number.l0 k s n (s.size : Int) (i : Int) = some (numEnd (numAcc (s.data.toList.drop i) n)) := by
  induction d with
  | zero =>
    intro i k n hi h0 h1 hk
    obtain ⟨k, rfl⟩ : ∃ m, k = m + 1 := ⟨k - 1, by omega⟩
    rw [List.drop_eq_nil_of_le (by rw [data_length]; omega)]
    simp only [text_Number.l0]
    rw [if_neg (by omega)]
    simp only [numAcc, numEnd]
    split <;> rfl
  | succ d ih =>
    intro i k n hi h0 h1 hk
    obtain ⟨k, rfl⟩ : ∃ m, k = m + 1 := ⟨k - 1, by omega⟩
    obtain ⟨b, hb, hbt⟩ := drop_bt s i (by omega)
    have hp := pow_le9 i (by omega)
    simp only [text_Number.l0]
    rw [if_pos (by omega), if_pos (by omega), if_pos (by omega), hb]
    simp only [numAcc, hbt]
    by_cases h48 : bt s (i : Int) < 48
    · rw [if_pos h48, if_pos h48]; rfl
    · rw [if_neg h48, if_neg h48]
      by_cases h57 : bt s (i : Int) > 57
      · rw [if_pos h57, if_pos (show 57 < bt s (i : Int) from h57)]; rfl
      · rw [if_neg h57, if_neg (show ¬ 57 < bt s (i : Int) from h57)]
        have e1 : (bt s (i : Int) - 48) % 256 = bt s (i : Int) - 48 := by omega
        rw [e1, w64 (10 * n) (by omega) (by omega), w64 _ (by omega) (by omega), w64 _ (by omega) (by omega)]
        have := ih (i + 1) k (10 * n + (bt s (i : Int) - 48)) (by omega) (by omega) (by rw [Int.pow_succ]; omega) (by omega)
        rw [← this]; rfl
theorem ref_num_l (s : ByteArray) (hs : s.size ≤ 10) (d : Nat) : ∀ (i k : Nat) (n : Int), i + d = s.size → 0 ≤ n → n < 10 ^ i → d < k → jalousieref01_Number.l0 k s n (i : Int) = some (numEnd (numAcc (s.data.toList.drop i) n)) := by
  induction d with
  | zero =>
    intro i k n hi h0 h1 hk
    obtain ⟨k, rfl⟩ : ∃ m, k = m + 1 := ⟨k - 1, by omega⟩
    rw [List.drop_eq_nil_of_le (by rw [data_length]; omega)]
    simp only [jalousieref01_Number.l0]
    rw [if_neg (by omega)]
    simp only [numAcc, numEnd]
    split <;> rfl
  | succ d ih =>
    intro i k n hi h0 h1 hk
    obtain ⟨k, rfl⟩ : ∃ m, k = m + 1 := ⟨k - 1, by omega⟩
    obtain ⟨b, hb, hbt⟩ := drop_bt s i (by omega)
    have hp := pow_le9 i (by omega)
    simp only [jalousieref01_Number.l0]
    rw [if_pos (by omega), if_pos (by omega), hb]
    simp only [numAcc, hbt]
    by_cases h48 : bt s (i : Int) < 48
    · rw [if_pos h48, if_pos h48]; rfl
    · rw [if_neg h48, if_neg h48]
      by_cases h57 : bt s (i : Int) > 57
      · rw [if_pos h57, if_pos (show 57 < bt s (i : Int) from h57)]; rfl
      · rw [if_neg h57, if_neg (show ¬ 57 < bt s (i : Int) from h57)]
        rw [w64 (10 * n) (by omega) (by omega), w64 (bt s (i : Int)) (by omega) (by omega), w64 (10 * n + bt s (i : Int)) (by omega) (by omega), w64 (10 * n + bt s (i : Int) - 48) (by omega) (by omega), w64 _ (by omega) (by omega)]
        have := ih (i + 1) k (10 * n + (bt s (i : Int) - 48)) (by omega) (by omega) (by rw [Int.pow_succ]; omega) (by omega)
        rw [show 10 * n + bt s (i : Int) - 48 = 10 * n + (bt s (i : Int) - 48) by omega, ← this]; rfl
theorem text_Number_tells (s : ByteArray) : text_Number.f 13 s = some (numOf s) := by
  unfold text_Number.f numOf
  simp only [toList_nil]
  by_cases h0 : s.size = 0
  · rw [if_pos h0, if_pos (.inl h0)]; rfl
  · rw [if_neg h0]
    by_cases h10 : (s.size : Int) > 10
    · rw [if_pos h10, if_pos (.inr (.inl (by omega)))]; rfl
    · rw [if_neg h10, if_pos (by omega)]
      have hl := text_num_l s (by omega) s.size 0 12 0 (by omega) (by omega) (by omega) (by omega)
      by_cases hz : bt s 0 = 48
      · rw [if_pos hz]
        by_cases h1 : 1 < s.size
        · have : (s.toList != ([48] : List UInt8)) = true := by
            rw [toList_data]; simp; intro e
            have := congrArg List.length e
            rw [data_length] at this; simp at this; omega
          rw [this, if_pos (.inr (.inr ⟨h1, hz⟩))]; rfl
        · have : (s.toList != ([48] : List UInt8)) = false := by
            obtain ⟨b, hb, hbt⟩ := drop_bt s 0 (by omega)
            rw [toList_data]
            rw [List.drop_zero, List.drop_eq_nil_of_le (by rw [data_length]; omega)] at hb
            rw [hb]
            have : b = 48 := by apply UInt8.toNat_inj.1; have := hbt.trans hz; show b.toNat = 48; omega
            rw [this]; rfl
          rw [this, if_neg (by omega)]
          exact hl
      · rw [if_neg hz, if_neg (by omega)]
        exact hl
theorem ref_Number_tells (s : ByteArray) : jalousieref01_Number.f 13 s = some (numOf s) := by
  unfold jalousieref01_Number.f numOf
  by_cases h0 : s.size = 0
  · rw [if_pos (by omega), if_pos (.inl h0)]; rfl
  · rw [if_neg (by omega)]
    by_cases h10 : (s.size : Int) > 10
    · rw [if_pos h10, if_pos (.inr (.inl (by omega)))]; rfl
    · rw [if_neg h10]
      have hl := ref_num_l s (by omega) s.size 0 12 0 (by omega) (by omega) (by omega) (by omega)
      by_cases h1 : (s.size : Int) > 1
      · rw [if_pos h1, if_pos (by omega)]
        by_cases hz : bt s 0 = 48
        · rw [show (bt s 0 == 48) = true by simpa using hz, if_pos (.inr (.inr ⟨by omega, hz⟩))]; rfl
        · rw [show (bt s 0 == 48) = false by simpa using hz, if_neg (by omega)]
          exact hl
      · rw [if_neg h1, if_neg (by omega)]
        exact hl
end Go.Proofs.YthaimkdnddmokaaDoor.P
namespace Go.Proofs.YthaimkdnddmokaaDoor.P
open Go.RowKit Go.Proofs.YthaimkdnddmokaaDoorW.PrintWords Go.Proofs.YthaimkdnddmokaaDoorW.PrintLast Go.Proofs.YthaimkdnddmokaaDoorW.PrintMore
set_option linter.unusedVariables false
set_option linter.unusedSimpArgs false
theorem eqA26 (d : Nat) (w : World) (x0 y0 : Int) (x1 y1 : Int) :
    (Op.equalIn (d + 2) 26 (.agg #[.int .i64 x0, .int .u64 x1]) (.agg #[.int .i64 y0, .int .u64 y1])).run Tryd.prog w = .ok (x0 == y0 && (x1 == y1)) w := by
  refine eqA_of Tryd.underlying26 (by kernel_rfl) ?_
  refine eqf_cons (by rfl) (by go_simp; rfl) (by go_simp; rfl) (by go_simp) ?_
  exact eqf_last (by rfl) (by go_simp; rfl) (by go_simp; rfl) (by go_simp)
end Go.Proofs.YthaimkdnddmokaaDoor.P

/- the reference's Decimal tells what text.Decimal tells -/
import Derived.Test.YthppicgolkpbaaaDoorDeltaPrintsPx0
import Derived.Test.YthppicgolkpbaaaDoorDeltaPrintsHBase
import Derived.Test.YthppicgolkpbaaaDoorDeltaPrintsHText
import Derived.Test.YthppicgolkpbaaaDoorDeltaPrintsPxJalousieref01
namespace Go.Proofs.YthppicgolkpbaaaDoor.P
open Go.RowKit Go.Proofs.YthppicgolkpbaaaDoorW.PrintWords Go.Proofs.YthppicgolkpbaaaDoorW.PrintLast Go.Proofs.YthppicgolkpbaaaDoorW.PrintMore
set_option linter.unusedVariables false
set_option linter.unusedSimpArgs false
theorem decF_lt (f n : Nat) (h : n < 10) : decF (f + 1) n = [UInt8.ofNat (48 + n)] := by rw [decF, if_pos h]
theorem decF_ge (f n : Nat) (h : ¬ n < 10) : decF (f + 1) n = decF f (n / 10) ++ [UInt8.ofNat (48 + n % 10)] := by rw [decF, if_neg h]
theorem decF_length : ∀ (f n : Nat), (decF f n).length ≤ f
  | 0, n => by simp [decF]
  | f + 1, n => by
    rw [decF]
    split
    · simp
    · have := decF_length f (n / 10); simp; omega
theorem one_digit (n : Nat) (h : n < 10) : strOfNums [(wrap64 (48 + (n : Int))) % 256] = ⟨#[UInt8.ofNat (48 + n)]⟩ := by
  rw [w64 _ (by omega) (by omega), show (48 + (n : Int)) % 256 = ((48 + n : Nat) : Int) by omega]
  rfl
theorem ref_dec_f (f : Nat) : ∀ (n : Nat), n < 10 ^ (f + 1) → n ≤ 2147483647 → f ≤ 9 → jalousieref01_Decimal.f (2 * f + 2) (n : Int) = some ⟨(decF (f + 1) n).toArray⟩ := by
  induction f with
  | zero =>
    intro n h1 h2 _
    simp only [jalousieref01_Decimal.f, jalousieref01_Decimal.j0]
    rw [if_neg (by omega), show decide ((n : Int) > 2147483647) = false from decide_eq_false (by omega), if_neg (by decide), if_pos (by omega), one_digit n (by omega)]
    rw [decF_lt _ _ (by omega)]
  | succ f ih =>
    intro n h1 h2 h3
    show jalousieref01_Decimal.f (2 * f + 2 + 1 + 1) (n : Int) = _
    rw [jalousieref01_Decimal.f, if_neg (by omega), show decide ((n : Int) > 2147483647) = false from decide_eq_false (by omega), jalousieref01_Decimal.j0, if_neg (by decide)]
    by_cases h10 : n < 10
    · rw [if_pos (by omega), one_digit n h10, decF_lt _ _ h10]
    · rw [if_neg (by omega)]
      have e1 : wrap64 (Int.tdiv (n : Int) 10) = ((n / 10 : Nat) : Int) := by rw [Int.tdiv_eq_ediv_of_nonneg (by omega), w64 _ (by omega) (by omega)]; omega
      have e2 : Int.tmod (n : Int) 10 = ((n % 10 : Nat) : Int) := by rw [Int.tmod_eq_emod_of_nonneg (by omega)]; omega
      rw [e1, e2, ih (n / 10) (by rw [Nat.pow_succ] at h1; omega) (by omega) (by omega)]
      simp only [Option.bind_some]
      rw [one_digit (n % 10) (by omega), if_pos]
      · rw [decF_ge (f + 1) n h10]
        rfl
      · have := decF_length (f + 1) (n / 10)
        have hs : (⟨(decF (f + 1) (n / 10)).toArray⟩ : ByteArray).size = (decF (f + 1) (n / 10)).length := rfl
        have hs1 : (⟨#[UInt8.ofNat (48 + n % 10)]⟩ : ByteArray).size = 1 := rfl
        rw [hs, hs1]; omega
theorem ref_Decimal_tells (n : Int) : jalousieref01_Decimal.f 20 n = some (decOf n) := by
  unfold decOf
  by_cases h0 : n < 0
  · rw [if_pos h0, jalousieref01_Decimal.f, if_pos h0]; rfl
  · rw [if_neg h0]
    by_cases h1 : 2147483647 < n
    · rw [if_pos h1, jalousieref01_Decimal.f, if_neg h0, show decide (n > 2147483647) = true from decide_eq_true h1]; rfl
    · rw [if_neg h1]
      obtain ⟨m, rfl⟩ := Int.eq_ofNat_of_zero_le (show 0 ≤ n by omega)
      exact ref_dec_f 9 m (by omega) (by omega) (by omega)
end Go.Proofs.YthppicgolkpbaaaDoor.P

/- the reference's Decimal tells what text.Decimal tells -/
import Derived.Test.YthaimkdnddmokaaDoorWireAnswersGHTabs
import Derived.Test.YthaimkdnddmokaaDoorWireAnswersGHBase
import Derived.Test.YthaimkdnddmokaaDoorWireAnswersHText
namespace Go.Proofs.YthaimkdnddmokaaDoor.P
open Go.RowKit Go.Proofs.YthaimkdnddmokaaDoorW.PrintWords Go.Proofs.YthaimkdnddmokaaDoorW.PrintLast Go.Proofs.YthaimkdnddmokaaDoorW.PrintMore
set_option linter.unusedVariables false
set_option linter.unusedSimpArgs false
theorem decF_lt (f n : Nat) (h : n < 10) : decF (f + 1) n = [UInt8.ofNat (48 + n)] := by rw [decF, if_pos h]
theorem decF_ge (f n : Nat) (h : ¬ n < 10) : decF (f + 1) n = decF f (n / 10) ++ [UInt8.ofNat (48 + n % 10)] := by rw [decF, if_neg h]
theorem decF_fuel : ∀ (f n : Nat), n < 10 ^ (f + 1) → decF (f + 2) n = decF (f + 1) n
  | 0, n, h => by
    have : n < 10 := by omega
    simp [decF, this]
  | f + 1, n, h => by
    by_cases hn : n < 10
    · rw [decF_lt _ _ hn, decF_lt _ _ hn]
    · rw [decF_ge _ _ hn, decF_ge (f + 1) _ hn, decF_fuel f (n / 10) (by rw [Nat.pow_succ] at h; omega)]
theorem decF_fuel_le (f n : Nat) (h : n < 10 ^ (f + 1)) : ∀ d, decF (f + 1 + d) n = decF (f + 1) n
  | 0 => rfl
  | d + 1 => by
    rw [← decF_fuel_le f n h d]
    have := decF_fuel (f + d) n (Nat.lt_of_lt_of_le h (Nat.pow_le_pow_right (by omega) (by omega)))
    rw [show f + 1 + (d + 1) = f + d + 2 by omega, show f + 1 + d = f + d + 1 by omega]
    exact this
theorem decF_length : ∀ (f n : Nat), (decF f n).length ≤ f
  | 0, n => by simp [decF]
  | f + 1, n => by
    rw [decF]
    split
    · simp
    · have := decF_length f (n / 10); simp; omega
end Go.Proofs.YthaimkdnddmokaaDoor.P

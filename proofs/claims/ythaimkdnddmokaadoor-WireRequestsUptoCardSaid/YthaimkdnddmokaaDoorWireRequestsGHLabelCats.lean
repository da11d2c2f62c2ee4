/- what this claim needs of the words and the printed functions; conditions: as each statement says -/
import Derived.Test.YthaimkdnddmokaaDoorWireRequestsGHWBytes
import Derived.Test.YthaimkdnddmokaaDoorWireRequestsPxJalousieref02
import Derived.Lib.Hide
import Derived.Test.YthaimkdnddmokaaDoorWireRequestsHLabelLaws
import Derived.Test.YthaimkdnddmokaaDoorWireRequestsGHText
import Derived.Test.YthaimkdnddmokaaDoorWireRequestsPxLabel
namespace Go.Proofs.YthaimkdnddmokaaDoor.P
open Go.RowKit Go.Proofs.YthaimkdnddmokaaDoorW.PrintWords Go.Proofs.YthaimkdnddmokaaDoorW.PrintLast Go.Proofs.YthaimkdnddmokaaDoorW.PrintMore
set_option linter.unusedVariables false
set_option linter.unusedSimpArgs false
def hasN (cats : Int) (c : Nat) : Bool := Int.tmod (shr .u64 cats c) 2 == 1
theorem has_f (l cats : Int) (c : Nat) (h : c ≤ 63) : jalousieref02_Has.f l cats (c : Int) = some (hasN cats c) := by
  unfold jalousieref02_Has.f
  rw [if_pos (by omega), if_pos (by omega), if_pos (by omega)]
  rfl
/-- the two labels in memory -/
structure PickMem (w W : World) (g g' : Nat) (a0_0 a0_1 a1_0 a1_1 : Int) : Prop where
  bk : W.heap[g]? = some (.cells #[.int .i64 a0_0, .int .u64 a0_1] 26 (0, 0))
  bk' : W.heap[g']? = some (.cells #[.int .i64 a1_0, .int .u64 a1_1] 26 (0, 0))
  below : Below w.heap.size w W
theorem PickMem.step {w W W' : World} {g g' : Nat} {a b c d : Int} (h : PickMem w W g g' a b c d) (hb : Below W.heap.size W W') : PickMem w W' g g' a b c d :=
  ⟨blk_below h.bk hb, blk_below h.bk' hb, below_step h.below hb⟩
theorem PickMem.cells {w W : World} {g g' : Nat} {a b c d : Int} (h : PickMem w W g g' a b c d) :
    (W.cell? ⟨g, 0, none⟩ = some (.int .i64 a) ∧ W.cell? ⟨g, 1, none⟩ = some (.int .u64 b)) ∧ W.cell? ⟨g', 0, none⟩ = some (.int .i64 c) ∧ W.cell? ⟨g', 1, none⟩ = some (.int .u64 d) :=
  ⟨⟨(blk_cell h.bk 0).trans rfl, (blk_cell h.bk 1).trans rfl⟩, (blk_cell h.bk' 0).trans rfl, (blk_cell h.bk' 1).trans rfl⟩
end Go.Proofs.YthaimkdnddmokaaDoor.P
namespace Go.Proofs.YthaimkdnddmokaaDoor.P
open Go.RowKit Go.Proofs.YthaimkdnddmokaaDoorW.PrintWords Go.Proofs.YthaimkdnddmokaaDoorW.PrintLast Go.Proofs.YthaimkdnddmokaaDoorW.PrintMore
set_option linter.unusedVariables false
set_option linter.unusedSimpArgs false
theorem bt_data (s : ByteArray) (i : Nat) (h : i < s.size) : bt s (i : Int) = ((s.data.toList[i]'(by rw [data_length]; exact h)).toNat : Int) := by
  unfold bt
  rw [dif_pos (by simpa using h)]
  rfl
theorem byte_is (s : ByteArray) (i : Nat) (h : i < s.size) (c : UInt8) : (s.data.toList[i]'(by rw [data_length]; exact h)) = c ↔ bt s (i : Int) = (c.toNat : Int) := by
  rw [bt_data s i h]
  constructor
  · intro e; rw [e]
  · intro e; apply UInt8.toNat_inj.1; omega
theorem drop_bt (s : ByteArray) (i : Nat) (h : i < s.size) : ∃ b : UInt8, s.data.toList.drop i = b :: s.data.toList.drop (i + 1) ∧ (b.toNat : Int) = bt s (i : Int) := by
  refine ⟨_, List.drop_eq_getElem_cons (by rw [data_length]; exact h), (bt_data s i h).symm⟩
theorem w64 (n : Int) (h0 : -9223372036854775808 ≤ n) (h1 : n ≤ 9223372036854775807) : wrap64 n = n := by unfold wrap64; omega
theorem toList_data (s : ByteArray) : s.toList = s.data.toList := by
  exact ByteArray.toList_eq s
theorem pow_le9 (i : Nat) (h : i ≤ 9) : (10 : Int) ^ i ≤ 1000000000 := by
  have h1 := Nat.pow_le_pow_right (n := 10) (by omega) h
  have h2 : ((10 : Int) ^ i) = ((10 ^ i : Nat) : Int) := by simp
  rw [h2]; omega
theorem toList_nil (s : ByteArray) : s.toList = [] ↔ s.size = 0 := by
  rw [toList_data, ← data_length, List.length_eq_zero_iff]
end Go.Proofs.YthaimkdnddmokaaDoor.P
namespace Go.Proofs.YthaimkdnddmokaaDoor.P
open Go.RowKit Go.Proofs.YthaimkdnddmokaaDoorW.PrintWords Go.Proofs.YthaimkdnddmokaaDoorW.PrintLast Go.Proofs.YthaimkdnddmokaaDoorW.PrintMore
set_option linter.unusedVariables false
set_option linter.unusedSimpArgs false
def catsFrom (A i : Nat) : List Int := ((List.range' i (64 - i)).filter fun c => A.testBit c).map fun c : Nat => (c : Int)
theorem catsFrom_end (A : Nat) : catsFrom A 64 = [] := rfl
theorem catsFrom_next (A i : Nat) (h : i < 64) : catsFrom A i = if A.testBit i = true then (i : Int) :: catsFrom A (i + 1) else catsFrom A (i + 1) := by
  unfold catsFrom
  rw [show 64 - i = (64 - (i + 1)) + 1 by omega, List.range'_succ, List.filter_cons]
  split <;> rfl
theorem catsFrom_le (A i : Nat) : (catsFrom A i).length ≤ 64 - i := by
  unfold catsFrom
  rw [List.length_map]
  have := List.length_filter_le (fun c => A.testBit c) (List.range' i (64 - i))
  rw [List.length_range'] at this
  exact this
theorem catsFrom_congr (A B i : Nat) (h : ∀ j, i ≤ j → A.testBit j = B.testBit j) : catsFrom A i = catsFrom B i := by
  unfold catsFrom
  congr 1
  apply List.filter_congr
  intro x hx
  exact h x (List.mem_range'_1.1 hx).1
theorem hasN_nat (A c : Nat) (h : c ≤ 64) : hasN (A : Int) c = A.testBit c := by
  unfold hasN shr
  rw [show IntKind.u64.bits = 64 from rfl, Int.toNat_natCast, Nat.min_eq_left h, Nat.testBit_eq_decide_div_mod_eq]
  have e1 : (A : Int) / 2 ^ c = ((A / 2 ^ c : Nat) : Int) := by simp
  rw [e1]
  have e2 : Int.tmod ((A / 2 ^ c : Nat) : Int) 2 = ((A / 2 ^ c % 2 : Nat) : Int) := by
    rw [Int.tmod_eq_emod_of_nonneg (by exact Int.natCast_nonneg _)]; simp
  rw [e2, Bool.eq_iff_iff]
  generalize A / 2 ^ c = q
  simp
  omega
theorem has_nat (l : Int) (A c : Nat) (h : c ≤ 63) : jalousieref02_Has.f l (A : Int) (c : Int) = some (A.testBit c) := by
  rw [has_f l A c h, hasN_nat A c (by omega)]
theorem ref_cats_l (l : Int) (A : Nat) : ∀ (d i k : Nat) (acc : List Int), i + d = 64 → d < k → acc.length + d ≤ 10000 → jalousieref02_Cats.l0 k acc (i : Int) l (A : Int) = some (acc ++ catsFrom A i)
  | 0, i, k, acc, hi, hk, ha => by
    obtain ⟨k, rfl⟩ : ∃ m, k = m + 1 := ⟨k - 1, by omega⟩
    obtain rfl : i = 64 := by omega
    simp only [jalousieref02_Cats.l0]
    rw [if_neg (by omega), catsFrom_end, List.append_nil]
  | d + 1, i, k, acc, hi, hk, ha => by
    obtain ⟨k, rfl⟩ : ∃ m, k = m + 1 := ⟨k - 1, by omega⟩
    simp only [jalousieref02_Cats.l0]
    rw [if_pos (by omega), has_nat l A i (by omega)]
    simp only [Option.bind_some]
    rw [w64 _ (by omega) (by omega), show (i : Int) + 1 = ((i + 1 : Nat) : Int) by omega, catsFrom_next A i (by omega)]
    cases A.testBit i with
    | true =>
      rw [if_pos rfl, if_pos rfl, if_pos (by omega), ref_cats_l l A d (i + 1) k _ (by omega) (by omega) (by simp; omega), List.append_assoc]
      rfl
    | false =>
      rw [if_neg (by simp), if_neg (by simp), ref_cats_l l A d (i + 1) k _ (by omega) (by omega) (by omega)]
theorem ref_Cats_tells (l : Int) (A k : Nat) (hk : 65 ≤ k) : jalousieref02_Cats.f k l (A : Int) = some (catsFrom A 0) := by
  unfold jalousieref02_Cats.f
  exact ref_cats_l l A 64 0 k [] (by omega) (by omega) (by simp)
theorem low_clear (t m : Nat) : (2 ^ t * (2 * m + 1)) &&& (2 ^ t * (2 * m + 1) - 1) = 2 ^ (t + 1) * m := by
  have hp : 0 < 2 ^ t := Nat.pow_pos (by omega)
  have e : 2 ^ t * (2 * m + 1) - 1 = 2 ^ t * (2 * m) + (2 ^ t - 1) := by rw [Nat.mul_add]; omega
  rw [e]
  apply Nat.eq_of_testBit_eq
  intro j
  rw [Nat.testBit_and, Nat.testBit_two_pow_mul, Nat.testBit_two_pow_mul_add _ (by omega), Nat.testBit_two_pow_mul]
  by_cases h : j < t
  · have h1 : ¬ t ≤ j := by omega
    have h2 : ¬ t + 1 ≤ j := by omega
    simp [h1, h2]
  · by_cases h2 : j = t
    · subst h2; simp; omega
    · obtain ⟨s, rfl⟩ : ∃ s, j = t + 1 + s := ⟨j - (t + 1), by omega⟩
      rw [if_neg h, show t + 1 + s - t = s + 1 by omega, show t + 1 + s - (t + 1) = s by omega, Nat.testBit_succ, Nat.testBit_succ]
      have h3 : t ≤ t + 1 + s := by omega
      have h4 : (2 * m + 1) / 2 = m := by omega
      have h5 : 2 * m / 2 = m := by omega
      simp [h3, h4, h5]
theorem cats_cut (t m i : Nat) (hi : i ≤ t) (ht : t < 64) : catsFrom (2 ^ t * (2 * m + 1)) i = (t : Int) :: catsFrom (2 ^ (t + 1) * m) (t + 1) := by
  obtain ⟨d, rfl⟩ : ∃ d, t = i + d := ⟨t - i, by omega⟩
  induction d generalizing i with
  | zero =>
    rw [catsFrom_next _ _ (by omega), if_pos (by rw [Nat.testBit_two_pow_mul]; simp)]
    congr 1
    apply catsFrom_congr
    intro j hj
    rw [Nat.testBit_two_pow_mul, Nat.testBit_two_pow_mul]
    obtain ⟨s, rfl⟩ : ∃ s, j = i + 0 + 1 + s := ⟨j - (i + 0 + 1), by omega⟩
    rw [show i + 0 + 1 + s - (i + 0) = s + 1 by omega, show i + 0 + 1 + s - (i + 0 + 1) = s by omega, Nat.testBit_succ, show (2 * m + 1) / 2 = m by omega]
    have h1 : i ≤ i + 1 + s := by omega
    simp [h1]
  | succ d ih =>
    rw [catsFrom_next _ _ (by omega), if_neg (by rw [Nat.testBit_two_pow_mul]; simp)]
    have := ih (i + 1) (by omega) (by omega)
    rw [show i + 1 + d = i + (d + 1) by omega] at this
    exact this
theorem catsFrom_zero (i : Nat) : catsFrom 0 i = [] := by
  unfold catsFrom
  simp
theorem text_cats_l (d : Nat) : ∀ (i k X : Nat) (acc : List Int), i + d = 64 → d < k → acc.length + d ≤ 10000 → X < 18446744073709551616 → (∃ Y, X = 2 ^ i * Y) → label_Cats.l0 k acc (X : Int) = some (acc ++ catsFrom X i) := by
  induction d using Nat.strongRecOn with
  | ind d ih =>
    intro i k X acc hi hk ha hX hY
    obtain ⟨k, rfl⟩ : ∃ m, k = m + 1 := ⟨k - 1, by omega⟩
    simp only [label_Cats.l0]
    by_cases h0 : X = 0
    · subst h0
      rw [if_pos (by omega), catsFrom_zero, List.append_nil]
    · rw [if_neg (by omega)]
      obtain ⟨m, hm, hlt⟩ := Lib.ctzFrom_spec 64 X (by omega) (by omega)
      have hc : bits_TrailingZeros64.f (X : Int) = some ((Lib.ctzFrom 64 X : Nat) : Int) := by
        unfold bits_TrailingZeros64.f Lib.ctz
        rw [if_pos (by omega), if_pos (by omega), Int.toNat_natCast, if_neg h0]
      rw [hc]
      simp only [Option.bind_some]
      rw [if_pos (by omega)]
      have hw : IntKind.u64.wrap ((X : Int) - 1) = ((X - 1 : Nat) : Int) := by rw [IntKind.wrap_u64]; omega
      rw [hw, bits_and_u64_nat X (X - 1) hX (by omega)]
      generalize Lib.ctzFrom 64 X = t at hm hlt
      obtain ⟨Y, hY⟩ := hY
      have hit : i ≤ t := by
        by_cases h : i ≤ t
        · exact h
        · exfalso
          obtain ⟨s, hs⟩ : ∃ s, i = t + 1 + s := ⟨i - (t + 1), by omega⟩
          have h1 : 2 ^ t * (2 * m + 1) = 2 ^ t * (2 * (2 ^ s * Y)) := by
            rw [← hm, hY, hs, Nat.pow_add, Nat.pow_add]; simp [Nat.mul_assoc]
          have h2 := Nat.eq_of_mul_eq_mul_left (Nat.pow_pos (by omega)) h1
          omega
      have hcl := low_clear t m
      rw [← hm] at hcl
      rw [hcl]
      have hle : 2 ^ (t + 1) * m < 18446744073709551616 := by
        have : 2 ^ (t + 1) * m ≤ X := by rw [← hcl]; exact Nat.and_le_left
        omega
      rw [ih (64 - (t + 1)) (by omega) (t + 1) k _ _ (by omega) (by omega) (by simp; omega) hle ⟨m, rfl⟩, List.append_assoc]
      have hcc := cats_cut t m i hit hlt
      rw [← hm] at hcc
      rw [hcc]
      rfl
theorem text_Cats_tells (l : Int) (A k : Nat) (hA : A < 18446744073709551616) (hk : 65 ≤ k) : label_Cats.f k l (A : Int) = some (catsFrom A 0) := by
  unfold label_Cats.f
  exact text_cats_l 64 0 k A [] (by omega) (by omega) (by simp) hA ⟨A, by simp⟩
theorem right_tells (a : Int) (A : Int) : label_Right.f a A = some (decide (0 ≤ a) && decide (a ≤ 15)) := by
  unfold label_Right.f
  by_cases h : a ≥ 0
  · rw [if_pos h]; simp [h]
  · rw [if_neg h]; simp; omega
theorem ref_right_tells (a : Int) (A : Int) : jalousieref02_Right.f a A = some (decide (0 ≤ a) && decide (a ≤ 15)) := by
  unfold jalousieref02_Right.f
  by_cases h : a ≥ 0
  · rw [if_pos h]
    have : decide (a < 16) = decide (a ≤ 15) := by rw [Bool.eq_iff_iff]; simp; omega
    rw [this]; simp [h]
  · rw [if_neg h]; simp; omega
end Go.Proofs.YthaimkdnddmokaaDoor.P

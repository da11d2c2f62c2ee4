/- what this claim needs of the words and the printed functions; conditions: as each statement says -/
import Derived.Test.YthaimkdnddmokaaDoorWireRequestsGHWBytes
import Derived.Test.YthaimkdnddmokaaDoorWireRequestsHStrings
import Derived.Test.YthaimkdnddmokaaDoorWireRequestsGHLabelCats
import Derived.Lib.Hide
import Derived.IntWalk
import Derived.Test.YthaimkdnddmokaaDoorWireRequestsHLabelOf
import Derived.Test.YthaimkdnddmokaaDoorWireRequestsHLParse
import Derived.Test.YthaimkdnddmokaaDoorWireRequestsGHEqLabel
import Derived.Test.YthaimkdnddmokaaDoorWireRequestsGHNumBack
import Derived.Test.YthaimkdnddmokaaDoorWireRequestsPxLabel
import Derived.Test.YthaimkdnddmokaaDoorWireRequestsPxJalousieref02
namespace Go.Proofs.YthaimkdnddmokaaDoor.P
open Go.RowKit Go.Proofs.YthaimkdnddmokaaDoorW.PrintWords Go.Proofs.YthaimkdnddmokaaDoorW.PrintLast Go.Proofs.YthaimkdnddmokaaDoorW.PrintMore
set_option linter.unusedVariables false
set_option linter.unusedSimpArgs false
theorem splitC_ne (c : UInt8) (l : List UInt8) : splitC c l ≠ [] := by
  cases l with
  | nil => simp [splitC]
  | cons b l =>
    unfold splitC
    split
    · simp
    · split <;> simp
end Go.Proofs.YthaimkdnddmokaaDoor.P
namespace Go.Proofs.YthaimkdnddmokaaDoor.P
open Go.RowKit Go.Proofs.YthaimkdnddmokaaDoorW.PrintWords Go.Proofs.YthaimkdnddmokaaDoorW.PrintLast Go.Proofs.YthaimkdnddmokaaDoorW.PrintMore
set_option linter.unusedVariables false
set_option linter.unusedSimpArgs false
theorem ba_eq {a b : ByteArray} (h : a.data.toList = b.data.toList) : a = b := ByteArray.ext (Array.toList_inj.1 h)
theorem ba_app (a b : ByteArray) : (a ++ b).data.toList = a.data.toList ++ b.data.toList := by simp [ByteArray.data_append]
def decL (n : Int) : List UInt8 := (decOf n).data.toList
def printTail (sg : UInt8) : List Int → List UInt8
  | [] => []
  | c :: l => sg :: (decL c ++ printTail 44 l)
def labL (a : Int) (A : Nat) : List UInt8 := decL a ++ printTail 58 (catsFrom A 0)
def labOf (a : Int) (A : Nat) : ByteArray := baOf (labL a A)
theorem dec_size (n : Int) : (decOf n).size ≤ 10 := by
  unfold decOf
  split
  · decide
  · split
    · decide
    · have := decF_length 10 n.toNat
      show (decF 10 n.toNat).toArray.size ≤ 10
      simpa using this
theorem decL_dec (n : Int) : baOf (decL n) = decOf n := baOf_self _
theorem ba_size (l : List UInt8) : (baOf l).size = l.length := by rw [← data_length]; rfl
theorem rd_drop_i (l : List Int) (i : Nat) (h : i < l.length) : l.drop i = rd l (i : Int) :: l.drop (i + 1) := by
  rw [List.drop_eq_getElem_cons h]
  congr 1
  simp [rd, List.getD_eq_getElem?_getD, h]
theorem print_l (l : List Int) (hl : l.length ≤ 64) (d : Nat) : ∀ (i k : Nat) (x : ByteArray) (sg : UInt8), i + d = l.length → d < k → x.size ≤ 11 * (i + 1) →
    label_Print.l0 k x ⟨#[sg]⟩ l (l.length : Int) (i : Int) = some (x ++ baOf (printTail sg (l.drop i))) := by
  induction d with
  | zero =>
    intro i k x sg hi hk hx
    obtain ⟨k, rfl⟩ : ∃ m, k = m + 1 := ⟨k - 1, by omega⟩
    simp only [label_Print.l0]
    rw [if_neg (by omega), List.drop_eq_nil_of_le (by omega)]
    exact congrArg some (ba_eq (by rw [ba_app]; simp [baOf, printTail]))
  | succ d ih =>
    intro i k x sg hi hk hx
    obtain ⟨k, rfl⟩ : ∃ m, k = m + 1 := ⟨k - 1, by omega⟩
    simp only [label_Print.l0]
    have hd := dec_size (rd l (i : Int))
    rw [if_pos (by omega), if_pos (by omega), if_pos (by omega), show text_Decimal.f (rd l (i : Int)) = some (decOf (rd l (i : Int))) from rfl]
    simp only [Option.bind_some]
    have h1 : (⟨#[sg]⟩ : ByteArray).size = 1 := rfl
    have h2 : ((⟨#[sg]⟩ : ByteArray) ++ decOf (rd l (i : Int))).size ≤ 11 := by rw [ByteArray.size_append]; omega
    rw [if_pos (by omega), if_pos (by omega), w64 _ (by omega) (by omega), show (i : Int) + 1 = ((i + 1 : Nat) : Int) by omega]
    rw [ih (i + 1) k _ 44 (by omega) (by omega) (by rw [ByteArray.size_append]; omega), rd_drop_i l i (by omega)]
    exact congrArg some (ba_eq (by simp only [ba_app, baOf_data, printTail]; simp [decL]))
theorem text_Print_tells (a : Int) (A k : Nat) (hA : A < 18446744073709551616) (hk : 65 ≤ k) : label_Print.f k a (A : Int) = some (labOf a A) := by
  unfold label_Print.f
  have hl := catsFrom_le A 0
  have hd := dec_size a
  rw [show text_Decimal.f a = some (decOf a) from rfl, text_Cats_tells a A k hA hk]
  simp only [Option.bind_some]
  have h := print_l (catsFrom A 0) (by omega) _ 0 k (decOf a) 58 (Nat.zero_add _) (by omega) (by omega)
  refine h.trans (congrArg some (ba_eq ?_))
  rw [ba_app, baOf_data]; rfl
theorem ref_dec_k (n : Int) (k : Nat) (hk : 20 ≤ k) : jalousieref01_Decimal.f k n = some (decOf n) := at_rounds (jalousieref01_Decimal.mono n) hk (ref_Decimal_tells n)
theorem ref_print_l (l : List Int) (hl : l.length ≤ 64) (d : Nat) : ∀ (i k : Nat) (x : ByteArray), i + d = l.length → d + 20 < k → x.size ≤ 11 * (i + 1) →
    jalousieref02_Print.l0 k x l (i : Int) = some (x ++ baOf (printTail (if i = 0 then 58 else 44) (l.drop i))) := by
  induction d with
  | zero =>
    intro i k x hi hk hx
    obtain ⟨k, rfl⟩ : ∃ m, k = m + 1 := ⟨k - 1, by omega⟩
    simp only [jalousieref02_Print.l0]
    rw [if_neg (by omega), List.drop_eq_nil_of_le (by omega)]
    exact congrArg some (ba_eq (by rw [ba_app]; simp [baOf, printTail]))
  | succ d ih =>
    intro i k x hi hk hx
    obtain ⟨k, rfl⟩ : ∃ m, k = m + 1 := ⟨k - 1, by omega⟩
    simp only [jalousieref02_Print.l0]
    have hd := dec_size (rd l (i : Int))
    have h1 : (⟨#[58]⟩ : ByteArray).size = 1 := rfl
    have h1' : (⟨#[44]⟩ : ByteArray).size = 1 := rfl
    have h2 : ∀ y : ByteArray, (x ++ y).size = x.size + y.size := fun y => ByteArray.size_append
    rw [if_pos (by omega), ref_dec_k _ k (by omega)]
    simp only [Option.bind_some]
    have ih' := fun y hy => ih (i + 1) k y (by omega) (by omega) hy
    rw [if_neg (by omega)] at ih'
    by_cases h0 : i = 0
    · subst h0
      rw [if_pos (by rfl), if_pos (by omega), if_pos (by omega), if_pos (by rw [h2]; omega), w64 _ (by omega) (by omega)]
      refine (ih' _ (by rw [ByteArray.size_append, h2]; omega)).trans (congrArg some (ba_eq ?_))
      rw [if_pos rfl, rd_drop_i l 0 (by omega)]
      simp only [ba_app, baOf_data, printTail]; simp [decL]
    · rw [if_neg (by omega), if_pos (by omega), if_pos (by omega), if_pos (by rw [h2]; omega), w64 _ (by omega) (by omega)]
      refine (ih' _ (by rw [ByteArray.size_append, h2]; omega)).trans (congrArg some (ba_eq ?_))
      rw [if_neg h0, rd_drop_i l i (by omega)]
      simp only [ba_app, baOf_data, printTail]; simp [decL]
theorem ref_Print_label_tells (a : Int) (A k : Nat) (hk : 90 ≤ k) : jalousieref02_Print.f k a (A : Int) = some (labOf a A) := by
  unfold jalousieref02_Print.f
  have hl := catsFrom_le A 0
  have hd := dec_size a
  rw [ref_dec_k a k (by omega), ref_Cats_tells a A k (by omega)]
  simp only [Option.bind_some]
  have h := ref_print_l (catsFrom A 0) (by omega) _ 0 k (decOf a) (Nat.zero_add _) (by omega) (by omega)
  refine h.trans (congrArg some (ba_eq ?_))
  rw [ba_app, baOf_data]; rfl
/-! ### what a text says: sign by sign -/
def isSep (b : UInt8) : Bool := b == 58 || b == 44
def refStep (lvl : Bool) (last a A n : Int) : Option (Int × Int × Int) :=
  if lvl = true then (if n > 15 then none else some (last, n, A)) else if n > 63 then none else if n ≤ last then none else some (n, a, IntKind.u64.wrap (A + shl .u64 1 n))
def refNum (now : List UInt8) (lvl : Bool) (last a A : Int) : Option (Int × Int × Int) := if (numOf (baOf now)).2 = true then refStep lvl last a A (numOf (baOf now)).1 else none
def refP : List UInt8 → List UInt8 → Bool → Int → Int → Int → Int × Int × Bool
  | [], now, lvl, last, a, A => match refNum now lvl last a A with
    | none => (0, 0, false)
    | some x => (x.2.1, x.2.2, true)
  | b :: t, now, lvl, last, a, A => if isSep b = true then (if (b == 58) = lvl then (match refNum now lvl last a A with
    | none => (0, 0, false)
    | some x => refP t [] false x.1 x.2.1 x.2.2) else (0, 0, false)) else refP t (now ++ [b]) lvl last a A
def labRead (s : ByteArray) : Int × Int × Bool := refP s.data.toList [] true (-1) 0 0
theorem numOf_nonneg (s : ByteArray) (n : Int) (h : numOf s = (n, true)) : 0 ≤ n ∧ n ≤ 2147483647 := by
  unfold numOf at h
  split at h
  · cases h
  · cases hx : numAcc s.data.toList 0 with
    | none => rw [hx] at h; cases h
    | some m =>
      rw [hx] at h
      unfold numEnd at h
      dsimp only at h
      split at h
      · cases h
      · have := numAcc_le _ 0 m (by omega) hx
        cases h
        omega
theorem num_pair (s : ByteArray) (h : (numOf s).2 = true) : numOf s = ((numOf s).1, true) := by rw [← h]
end Go.Proofs.YthaimkdnddmokaaDoor.P

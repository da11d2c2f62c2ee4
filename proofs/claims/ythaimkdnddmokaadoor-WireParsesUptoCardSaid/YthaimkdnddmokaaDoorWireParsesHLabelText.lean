/- plain laws of a label's text: both programs' Print is labOf, both programs' Parse is labRead, and these are each other's back -/
-- no module for jalousieref02_Print
import Derived.Test.YthaimkdnddmokaaDoorWireParsesGHLabelOf
import Derived.Test.YthaimkdnddmokaaDoorWireParsesHLParse
import Derived.Test.YthaimkdnddmokaaDoorWireParsesGHEqLabel
import Derived.Test.YthaimkdnddmokaaDoorWireParsesGHNumBack
import Derived.Test.YthaimkdnddmokaaDoorWireParsesHRefWords
import Derived.Test.YthaimkdnddmokaaDoorWireParsesPxLabel
import Derived.Test.YthaimkdnddmokaaDoorWireParsesPxJalousieref02
namespace Go.Proofs.YthaimkdnddmokaaDoor.P
open Go.RowKit Go.Proofs.YthaimkdnddmokaaDoorW.PrintWords Go.Proofs.YthaimkdnddmokaaDoorW.PrintLast Go.Proofs.YthaimkdnddmokaaDoorW.PrintMore
set_option linter.unusedVariables false
set_option linter.unusedSimpArgs false
theorem ba_eq {a b : ByteArray} (h : a.data.toList = b.data.toList) : a = b := ByteArray.ext (Array.toList_inj.1 h)
theorem ba_app (a b : ByteArray) : (a ++ b).data.toList = a.data.toList ++ b.data.toList := by simp [ByteArray.data_append]
def decL (n : Int) : List UInt8 := (decOf n).data.toList
def printTail (sg : UInt8) : List Int → List UInt8
  | [] => []
  | c :: l => sg :: (decL c ++ printTail 44 l)
def labL (a : Int) (A : Nat) : List UInt8 := decL a ++ printTail 58 (catsFrom A 0)
def labOf (a : Int) (A : Nat) : ByteArray := baOf (labL a A)
theorem dec_size (n : Int) : (decOf n).size ≤ 10 := by
  unfold decOf
  split
  · decide
  · split
    · decide
    · have := decF_length 10 n.toNat
      show (decF 10 n.toNat).toArray.size ≤ 10
      simpa using this
theorem decL_dec (n : Int) : baOf (decL n) = decOf n := baOf_self _
theorem ba_size (l : List UInt8) : (baOf l).size = l.length := by rw [← data_length]; rfl
theorem rd_drop_i (l : List Int) (i : Nat) (h : i < l.length) : l.drop i = rd l (i : Int) :: l.drop (i + 1) := by
  rw [List.drop_eq_getElem_cons h]
  congr 1
  simp [rd, List.getD_eq_getElem?_getD, h]
theorem print_l (l : List Int) (hl : l.length ≤ 64) (d : Nat) : ∀ (i k : Nat) (x : ByteArray) (sg : UInt8), i + d = l.length → d < k → x.size ≤ 11 * (i + 1) →
    label_Print.l0 k x ⟨#[sg]⟩ l (l.length : Int) (i : Int) = some (x ++ baOf (printTail sg (l.drop i))) := by
  induction d with
  | zero =>
    intro i k x sg hi hk hx
    obtain ⟨k, rfl⟩ : ∃ m, k = m + 1 := ⟨k - 1, by omega⟩
    simp only [label_Print.l0]
    rw [if_neg (by omega), List.drop_eq_nil_of_le (by omega)]
    exact congrArg some (ba_eq (by rw [ba_app]; simp [baOf, printTail]))
  | succ d ih =>
    intro i k x sg hi hk hx
    obtain ⟨k, rfl⟩ : ∃ m, k = m + 1 := ⟨k - 1, by omega⟩
    simp only [label_Print.l0]
    have hd := dec_size (rd l (i : Int))
    rw [if_pos (by omega), if_pos (by omega), if_pos (by omega), show text_Decimal.f (rd l (i : Int)) = some (decOf (rd l (i : Int))) from rfl]
    simp only [Option.bind_some]
    have h1 : (⟨#[sg]⟩ : ByteArray).size = 1 := rfl
    have h2 : ((⟨#[sg]⟩ : ByteArray) ++ decOf (rd l (i : Int))).size ≤ 11 := by rw [ByteArray.size_append]; omega
    rw [if_pos (by omega), if_pos (by omega), w64 _ (by omega) (by omega), show (i : Int) + 1 = ((i + 1 : Nat) : Int) by omega]
    rw [ih (i + 1) k _ 44 (by omega) (by omega) (by rw [ByteArray.size_append]; omega), rd_drop_i l i (by omega)]
    exact congrArg some (ba_eq (by simp only [ba_app, baOf_data, printTail]; simp [decL]))
theorem text_Print_tells (a : Int) (A k : Nat) (hA : A < 18446744073709551616) (hk : 65 ≤ k) : label_Print.f k a (A : Int) = some (labOf a A) := by
  unfold label_Print.f
  have hl := catsFrom_le A 0
  have hd := dec_size a
  rw [show text_Decimal.f a = some (decOf a) from rfl, text_Cats_tells a A k hA hk]
  simp only [Option.bind_some]
  have h := print_l (catsFrom A 0) (by omega) _ 0 k (decOf a) 58 (Nat.zero_add _) (by omega) (by omega)
  refine h.trans (congrArg some (ba_eq ?_))
  rw [ba_app, baOf_data]; rfl
/-! ### what a text says: sign by sign -/
def isSep (b : UInt8) : Bool := b == 58 || b == 44
def refStep (lvl : Bool) (last a A n : Int) : Option (Int × Int × Int) :=
  if lvl = true then (if n > 15 then none else some (last, n, A)) else if n > 63 then none else if n ≤ last then none else some (n, a, IntKind.u64.wrap (A + shl .u64 1 n))
def refNum (now : List UInt8) (lvl : Bool) (last a A : Int) : Option (Int × Int × Int) := if (numOf (baOf now)).2 = true then refStep lvl last a A (numOf (baOf now)).1 else none
def refP : List UInt8 → List UInt8 → Bool → Int → Int → Int → Int × Int × Bool
  | [], now, lvl, last, a, A => match refNum now lvl last a A with
    | none => (0, 0, false)
    | some x => (x.2.1, x.2.2, true)
  | b :: t, now, lvl, last, a, A => if isSep b = true then (if (b == 58) = lvl then (match refNum now lvl last a A with
    | none => (0, 0, false)
    | some x => refP t [] false x.1 x.2.1 x.2.2) else (0, 0, false)) else refP t (now ++ [b]) lvl last a A
def labRead (s : ByteArray) : Int × Int × Bool := refP s.data.toList [] true (-1) 0 0
theorem bt_sep (s : ByteArray) (i : Nat) (h : i < s.size) (b : UInt8) (hb : (b.toNat : Int) = bt s (i : Int)) : isSep b = (decide (bt s (i : Int) = 58) || decide (bt s (i : Int) = 44)) := by
  unfold isSep
  rw [← hb, Bool.eq_iff_iff]
  simp only [Bool.or_eq_true, beq_iff_eq, decide_eq_true_eq]
  constructor
  · rintro (rfl | rfl)
    · exact .inl rfl
    · exact .inr rfl
  · rintro (h | h)
    · exact .inl (UInt8.toNat_inj.1 (by show b.toNat = 58; omega))
    · exact .inr (UInt8.toNat_inj.1 (by show b.toNat = 44; omega))
theorem numOf_nonneg (s : ByteArray) (n : Int) (h : numOf s = (n, true)) : 0 ≤ n ∧ n ≤ 2147483647 := by
  unfold numOf at h
  split at h
  · cases h
  · cases hx : numAcc s.data.toList 0 with
    | none => rw [hx] at h; cases h
    | some m =>
      rw [hx] at h
      unfold numEnd at h
      dsimp only at h
      split at h
      · cases h
      · have := numAcc_le _ 0 m (by omega) hx
        cases h
        omega
theorem num_pair (s : ByteArray) (h : (numOf s).2 = true) : numOf s = ((numOf s).1, true) := by rw [← h]
theorem ref_j2 (s : ByteArray) (k : Nat) (last : Int) (lvl : Bool) (i : Int) (n : Int) (hn : 0 ≤ n) (a A : Int) : jalousieref02_Parse.j2 (k + 1) s last lvl i n false a A = match refStep lvl last a A n with
    | none => some (0, 0, false)
    | some x => jalousieref02_Parse.l0 k s x.1 ⟨#[]⟩ false (wrap64 (i + 1)) x.2.1 x.2.2 := by
  simp only [jalousieref02_Parse.j2]
  rw [if_neg (by simp)]
  unfold refStep
  cases lvl with
  | true =>
    rw [if_pos rfl, if_pos rfl]
    by_cases h : n > 15
    · rw [if_pos h, if_pos h]
    · rw [if_neg h, if_neg h]
  | false =>
    have hff : ¬ (false = true) := by decide
    rw [if_neg hff, if_neg hff]
    by_cases h : n > 63
    · rw [if_pos h, if_pos h]
    · rw [if_neg h, if_neg h]
      by_cases h2 : n ≤ last
      · rw [if_pos h2, if_pos h2]
      · rw [if_neg h2, if_neg h2, if_pos hn]
theorem ref_parse_l (s : ByteArray) (hs : s.size ≤ 140737488355328) (d : Nat) : ∀ (i k : Nat) (now : List UInt8) (lvl : Bool) (last a A : Int), i + d = s.size → 3 * d + 20 ≤ k → now.length ≤ i →
    jalousieref02_Parse.l0 k s last (baOf now) lvl (i : Int) a A = some (refP (s.data.toList.drop i) now lvl last a A) := by
  induction d with
  | zero =>
    intro i k now lvl last a A hi hk hn
    obtain ⟨k, rfl⟩ : ∃ m, k = m + 4 := ⟨k - 4, by omega⟩
    rw [List.drop_eq_nil_of_le (by rw [data_length]; omega)]
    rw [jalousieref02_Parse.l0, if_pos (by omega), if_neg (by omega), jalousieref02_Parse.j1, if_neg (by simp), at_rounds (jalousieref01_Number.mono (baOf now)) (show 13 ≤ k + 2 by omega) (ref_Number_tells (baOf now))]
    simp only [Option.bind_some, refP, refNum]
    cases h2 : (numOf (baOf now)).2 with
    | false => rw [if_neg (by simp), if_neg (by simp), jalousieref02_Parse.j2, if_pos rfl]
    | true =>
      rw [if_pos rfl, if_pos rfl, if_neg (by omega), ref_j2 _ _ _ _ _ _ (numOf_nonneg _ _ (num_pair _ h2)).1]
      cases refStep lvl last a A (numOf (baOf now)).1 with
      | none => rfl
      | some x =>
        dsimp only
        rw [jalousieref02_Parse.l0, w64 _ (by omega) (by omega), if_neg (by omega)]
  | succ d ih =>
    intro i k now lvl last a A hi hk hn
    obtain ⟨k, rfl⟩ : ∃ m, k = m + 4 := ⟨k - 4, by omega⟩
    have hlt : i < s.size := by omega
    obtain ⟨b, hb, hbt⟩ := drop_bt s i hlt
    have hsep := bt_sep s i hlt b hbt
    have hx := extract_one s i hlt now
    have hbb : s.data.toList[i]'(by rw [data_length]; exact hlt) = b := by
      have h3 := List.drop_eq_getElem_cons (l := s.data.toList) (i := i) (by rw [data_length]; exact hlt)
      rw [hb] at h3
      exact (List.cons.inj h3).1.symm
    rw [hbb] at hx
    rw [hb, refP]
    rw [jalousieref02_Parse.l0, if_pos (by omega), if_pos (by omega), if_pos (by omega)]
    have hsz : (s.extract i (i + 1)).size ≤ 1 := by rw [ByteArray.size_extract]; omega
    cases hS : isSep b with
    | false =>
      rw [hS] at hsep
      have h4 := hsep.symm
      rw [Bool.or_eq_false_iff, decide_eq_false_iff_not, decide_eq_false_iff_not] at h4
      rw [if_neg h4.1, if_neg (by simp), show (bt s (i : Int) != 44) = true by simpa using h4.2, jalousieref02_Parse.j1, if_pos rfl, w64 _ (by omega) (by omega), if_pos (by omega), if_pos (by omega), if_pos (by omega)]
      rw [show ((i : Int)).toNat = i by omega, show ((i : Int) + 1).toNat = i + 1 by omega, if_pos (by rw [ba_size]; omega), hx, show (i : Int) + 1 = ((i + 1 : Nat) : Int) by omega]
      exact ih (i + 1) (k + 2) _ lvl last a A (by omega) (by omega) (by simp; omega)
    | true =>
      rw [hS] at hsep
      rw [if_pos rfl]
      have hj : ∀ z : Bool, z = false → jalousieref02_Parse.j1 (k + 3) s last (baOf now) lvl (i : Int) z a A = some (if (b == 58) = lvl then (match refNum now lvl last a A with
          | none => (0, 0, false)
          | some x => refP (s.data.toList.drop (i + 1)) [] false x.1 x.2.1 x.2.2) else (0, 0, false)) := by
        rintro z rfl
        rw [jalousieref02_Parse.j1, if_neg (by simp), at_rounds (jalousieref01_Number.mono (baOf now)) (show 13 ≤ k + 2 by omega) (ref_Number_tells (baOf now))]
        simp only [Option.bind_some]
        unfold refNum
        have hbe : (bt s (i : Int) == 58) = (b == 58) := by
          rw [← hbt, Bool.eq_iff_iff, beq_iff_eq, beq_iff_eq]
          constructor
          · intro h; exact UInt8.toNat_inj.1 (by show b.toNat = 58; omega)
          · rintro rfl; rfl
        cases h2 : (numOf (baOf now)).2 with
        | false =>
          have hff : ¬ (false = true) := by decide
          rw [if_neg hff, if_neg hff, jalousieref02_Parse.j2, if_pos rfl]
          split <;> rfl
        | true =>
          rw [if_pos rfl, if_pos rfl, if_pos (by omega), if_pos (by omega), hbe]
          by_cases hl : (b == 58) = lvl
          · rw [if_pos hl, hl, show (lvl != lvl) = false by simp, ref_j2 _ _ _ _ _ _ (numOf_nonneg _ _ (num_pair _ h2)).1]
            cases refStep lvl last a A (numOf (baOf now)).1 with
            | none => rfl
            | some x =>
              dsimp only
              rw [w64 _ (by omega) (by omega), show (i : Int) + 1 = ((i + 1 : Nat) : Int) by omega]
              exact ih (i + 1) (k + 1) [] false x.1 x.2.1 x.2.2 (by omega) (by omega) (by simp)
          · rw [if_neg hl, show ((b == 58) != lvl) = true by simpa using hl, jalousieref02_Parse.j2, if_pos rfl]
      by_cases h58 : bt s (i : Int) = 58
      · rw [if_pos h58]; exact hj false rfl
      · rw [if_neg h58]
        refine hj _ ?_
        have h4 := hsep.symm
        rw [Bool.or_eq_true, decide_eq_true_eq, decide_eq_true_eq] at h4
        simp [h4.resolve_left h58]
theorem ref_Parse_label_tells (s : ByteArray) (hs : s.size ≤ 140737488355328) (k : Nat) (hk : 3 * s.size + 20 ≤ k) : jalousieref02_Parse.f k s = some (labRead s) := by
  unfold jalousieref02_Parse.f labRead
  have h := ref_parse_l s hs s.size 0 k [] true (-1) 0 0 (by omega) (by omega) (by simp)
  rw [List.drop_zero] at h
  exact h
end Go.Proofs.YthaimkdnddmokaaDoor.P

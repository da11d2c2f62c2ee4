/- contracts of Go's strings.IndexByte, strings.Split and strings.Cut at a separator of one byte, out of the shelf's; conditions: such a separator, and for Split fewer than 2^32 - 15 bytes. -/
import Derived.Test.YthaimkdnddmokaaDoorWireParsesGHTabs
import Derived.Test.YthaimkdnddmokaaDoorWireParsesHShelf
import Derived.Lib.Hide
import Derived.IntWalk
namespace Go.Proofs.YthaimkdnddmokaaDoor.P
open Go.RowKit Go.Proofs.YthaimkdnddmokaaDoorW.PrintWords Go.Proofs.YthaimkdnddmokaaDoorW.PrintLast Go.Proofs.YthaimkdnddmokaaDoorW.PrintMore
set_option linter.unusedVariables false
set_option linter.unusedSimpArgs false
/-- the pieces between the bytes c -/
def splitC (c : UInt8) : List UInt8 → List (List UInt8)
  | [] => [[]]
  | b :: l => if b = c then [] :: splitC c l else match splitC c l with
    | [] => [[b]]
    | x :: xs => (b :: x) :: xs
/-- what lies ahead of the first byte c, and behind it -/
def cutC (c : UInt8) (l : List UInt8) : List UInt8 × List UInt8 × Bool :=
  if Lib.indexByte l c = -1 then (l, [], false) else (l.take (Lib.indexByte l c).toNat, l.drop ((Lib.indexByte l c).toNat + 1), true)
def baOf (l : List UInt8) : ByteArray := ⟨l.toArray⟩
theorem baOf_data (l : List UInt8) : (baOf l).data.toList = l := rfl
theorem baOf_self (s : ByteArray) : baOf s.data.toList = s := by unfold baOf; simp
def strings_Split.f (a0 a1 : ByteArray) : Option (List ByteArray) := if a1.size = 1 then (if a0.size < 4294967281 then some ((splitC (a1.data.getD 0 0) a0.data.toList).map baOf) else none) else none
def strings_Cut.f (a0 a1 : ByteArray) : Option (ByteArray × ByteArray × Bool) := if a1.size = 1 then (if a0.size ≤ 140737488355328 then some (baOf (cutC (a1.data.getD 0 0) a0.data.toList).1, baOf (cutC (a1.data.getD 0 0) a0.data.toList).2.1, (cutC (a1.data.getD 0 0) a0.data.toList).2.2) else none) else none
theorem one_sep (a1 : ByteArray) (h : a1.size = 1) : a1 = ⟨#[a1.data.getD 0 0]⟩ := by
  obtain ⟨c, rfl⟩ := Lib.one_byte a1 h
  rfl
theorem indexByte_cases (c : UInt8) (l : List UInt8) : (Lib.indexByte l c = -1 ∧ splitC c l = [l]) ∨ ∃ i : Nat, Lib.indexByte l c = i ∧ i < l.length ∧ splitC c l = l.take i :: splitC c (l.drop (i + 1)) := by
  induction l with
  | nil => exact .inl ⟨rfl, rfl⟩
  | cons b l ih =>
    unfold Lib.indexByte
    by_cases hb : b = c
    · subst hb
      refine .inr ⟨0, by simp, by simp, by simp [splitC]⟩
    · have hb' : (b == c) = false := by simpa using hb
      rw [hb']
      rcases ih with ⟨h1, h2⟩ | ⟨i, h1, h2, h3⟩
      · refine .inl ⟨by simp [h1], by simp [splitC, hb, h2]⟩
      · refine .inr ⟨i + 1, ?_, by simp; omega, by simp [splitC, hb, h3]⟩
        have : (Lib.indexByte l c == -1) = false := by rw [h1]; simp
        simp [this, h1]
theorem index_at_one (l : List UInt8) (c : UInt8) : Lib.index l [c] = Lib.indexByte l c := by
  induction l with
  | nil => rfl
  | cons b l ih =>
    unfold Lib.index Lib.indexByte
    rw [ih]
    by_cases hb : b = c
    · subst hb; simp [List.isPrefixOf]
    · have hb' : (b == c) = false := by simpa using hb
      have hc' : (c == b) = false := by simpa using fun e => hb e.symm
      simp [List.isPrefixOf, hb', hc']
theorem splitK_one (c : UInt8) : ∀ (k : Nat) (l : List UInt8), l.count c ≤ k → Lib.splitK [c] 0 k l = splitC c l
  | 0, l, h => by
    rcases indexByte_cases c l with ⟨_, h2⟩ | ⟨i, h1, h2, _⟩
    · rw [h2]; rfl
    · exfalso
      have := (Lib.indexByte_some h1).1
      have hm : c ∈ l := List.mem_of_getElem? this
      have := List.count_pos_iff.2 hm
      omega
  | k + 1, l, h => by
    unfold Lib.splitK
    rw [index_at_one]
    rcases indexByte_cases c l with ⟨h1, h2⟩ | ⟨i, h1, h2, h3⟩
    · rw [h1, h2]; rfl
    · have hi := (Lib.indexByte_some h1).1
      have hc : (l.drop (i + 1)).count c ≤ k := by
        have e : l = l.take i ++ c :: l.drop (i + 1) := by
          conv => lhs; rw [← List.take_append_drop i l]
          rw [List.drop_eq_getElem_cons h2]
          have : l[i] = c := by rw [List.getElem?_eq_getElem h2] at hi; exact Option.some.inj hi
          rw [this]
        rw [e, List.count_append, List.count_cons_self] at h
        omega
      have := splitK_one c k (l.drop (i + 1)) hc
      rw [h1, h3]
      simp [this]
theorem count_le (c : UInt8) (s : ByteArray) : s.data.toList.count c ≤ s.size := by
  have := List.count_le_length (a := c) (l := s.data.toList)
  rwa [data_length] at this
set_option maxHeartbeats 1000000 in
theorem strings_Split.calls (a0 a1 : ByteArray) (r : List ByteArray) (w : World) (h : strings_Split.f a0 a1 = some r) :
    Calls Tryd.prog 52 #[.string a0, .string a1] w fun e w' => ∃ v0_ : Value, e = .returned v0_ ∧ Kd.R Kd.string 9 w' w.heap.size (fun _ => True) v0_ r ∧ Below w.heap.size w w' := by
  unfold strings_Split.f at h
  split at h
  case isFalse => cases h
  rename_i h1
  split at h
  case isFalse => cases h
  rename_i h2
  obtain rfl := Option.some.inj h
  clear h
  generalize hc : a1.data.getD 0 0 = c
  have h1' := h1
  obtain rfl : a1 = ⟨#[c]⟩ := by rw [← hc]; exact one_sep a1 h1
  clear h1 h1' hc
  have hcnt := count_le c a0
  have hcount : Lib.countB a0 ⟨#[c]⟩ = a0.data.toList.count c := Lib.count_one c _
  have hN : ((Lib.countB a0 ⟨#[c]⟩ + 1 : Nat) : Int) = min (if (-1 : Int) < 0 then (Lib.countB a0 ⟨#[c]⟩ : Int) + 1 else -1) ((a0.size : Int) + 1) := by rw [if_pos (by decide)]; omega
  have hI : ∀ (x : ByteArray) (cs : Array Value), x.size ≤ a0.size → Calls Tryd.prog 59 #[.string x, .string ⟨#[c]⟩] (w.alloc (.cells cs 9)) fun e w' => e = .returned (.int .i64 (Lib.indexB x ⟨#[c]⟩)) ∧ w' = w.alloc (.cells cs 9) := fun x cs _ =>
    (Any.strings_Index_one Tryd.lays143 x c _).mono fun e w' ⟨he, hw⟩ => ⟨by rw [he]; exact congrArg (fun z => Ending.returned (.int .i64 z)) (index_at_one _ _).symm, hw⟩
  have hC : Calls Tryd.prog 81 #[.string a0, .string ⟨#[c]⟩] w fun e w' => e = .returned (.int .i64 (Lib.countB a0 ⟨#[c]⟩)) ∧ w' = w :=
    (Any.strings_Count_one Tryd.lays138 a0 c w).mono fun e w' ⟨he, hw⟩ => ⟨by rw [he, hcount]; rfl, hw⟩
  have H := Any.strings_genSplit_core Tryd.lays221 (by kernel_rfl) a0 ⟨#[c]⟩ 0 (-1) (Lib.countB a0 ⟨#[c]⟩ + 1) w h2 (Nat.le_refl 1) (Nat.zero_le _) hI hC (by decide) (by decide) hN
  have hlen := Lib.splitB_all ⟨#[c]⟩ (Nat.le_refl 1) 0 _ a0 rfl
  have hdat : Lib.splitB ⟨#[c]⟩ 0 (Lib.countB a0 ⟨#[c]⟩) a0 = (splitC c a0.data.toList).map baOf := by
    have hd := Lib.splitB_data ⟨#[c]⟩ 0 (Lib.countB a0 ⟨#[c]⟩) a0
    have hk : Lib.splitK (⟨#[c]⟩ : ByteArray).data.toList 0 (Lib.countB a0 ⟨#[c]⟩) a0.data.toList = splitC c a0.data.toList := splitK_one c _ _ (by omega)
    rw [hk] at hd
    rw [← hd, List.map_map]
    conv => lhs; rw [← List.map_id (Lib.splitB ⟨#[c]⟩ 0 (Lib.countB a0 ⟨#[c]⟩) a0)]
    exact List.map_congr_left fun x _ => (baOf_self x).symm
  rw [Nat.add_sub_cancel, hlen, hdat] at H
  rw [hdat, List.length_map] at hlen
  have hcells : Lib.cellsOf ((splitC c a0.data.toList).map baOf) (Lib.countB a0 ⟨#[c]⟩ + 1) = (encs Value.string ((splitC c a0.data.toList).map baOf)).toArray := by
    rw [← hlen, ← List.length_map (f := baOf), Lib.cellsOf_full]; rfl
  rw [hcells] at H
  have hown := own_lit_of (enc := Value.string) w w.heap.size 9 ((splitC c a0.data.toList).map baOf) (Nat.le_refl _) (by rw [List.length_map, hlen]; omega)
  rw [List.length_map, hlen] at hown
  have H2 := Lib.hid H
  clear H hdat hcells hcount hN hI hC
  go_enter Tryd.func52, Tryd.ntmps52
  go_wp2_with (go_at_call 69; (refine (H2.out).mono ?_); rintro e w' ⟨rfl, rfl⟩)
  go_ret
  exact ⟨_, rfl, Kd.R_of_own (by rw [List.length_map, hlen]; exact hown) (fun _ _ => trivial), below_alloc (Below.refl _ _) _⟩
set_option maxHeartbeats 1000000 in
theorem slite_Cut (s : ByteArray) (c : UInt8) (w : World) (hlen : s.size ≤ 140737488355328) :
    Calls Tryd.prog 79 #[.string s, .string ⟨#[c]⟩] w fun e w' => e = .returned (.tuple #[.string (baOf (cutC c s.data.toList).1), .string (baOf (cutC c s.data.toList).2.1), .bool (cutC c s.data.toList).2.2]) ∧ Drawn0 w w' := by
  rcases indexByte_cases c s.data.toList with ⟨hix, _⟩ | ⟨i, hix, hi, _⟩
  · have e : cutC c s.data.toList = (s.data.toList, [], false) := by rw [cutC, if_pos hix]
    rw [e]
    have E := Lib.hid e
    have HX := Lib.hid hix
    clear e hix
    go_enter Tryd.func79, Tryd.ntmps79
    go_wp2_with (go_at_call 76; (refine (Any.stringslite_Index_one Tryd.lays219 _ _ _).mono ?_); rintro e w' ⟨rfl, rfl⟩; rw [HX.out])
    go_ret3
    exact ⟨by rw [show baOf s.data.toList = s from baOf_self s]; rfl, Drawn0.refl _⟩
  · have e : cutC c s.data.toList = (s.data.toList.take i, s.data.toList.drop (i + 1), true) := by rw [cutC, if_neg (by rw [hix]; omega), hix]; rfl
    rw [e]
    have hs : s.data.toList.length = s.size := data_length s
    have c1 : (0 : Int) ≤ ↑i := by omega
    have c2 : (↑i : Int) ≤ ↑s.size := by omega
    have c3 : (0 : Int) ≤ ↑i + 1 := by omega
    have c4 : (↑i + 1 : Int) ≤ ↑s.size := by omega
    have HE : Hid (s.extract 0 i = baOf (s.data.toList.take i)) := by
      show s.extract 0 i = baOf (s.data.toList.take i)
      have := Lib.extract_from_zero s i
      rw [← baOf_self (s.extract 0 i), this]
    have HF : Hid (s.extract (i + 1) s.size = baOf (s.data.toList.drop (i + 1))) := by
      show s.extract (i + 1) s.size = baOf (s.data.toList.drop (i + 1))
      rw [← baOf_self (s.extract (i + 1) s.size)]
      congr 1
      have hs2 : s.data.size = s.size := rfl
      simp [ByteArray.data_extract]
      exact List.take_of_length_le (by simp [hs2])
    have HX := Lib.hid hix
    have mixed : Tryd.prog.follows Departure.mixedOrders = true := by kernel_rfl
    have hw1 : IntKind.i64.wrap ((i : Int) + 1) = (i : Int) + 1 := IntWalk.i64_in _ (by omega)
    have hw2 : ((i : Int) + 1).toNat = i + 1 := by omega
    clear e hix hs
    go_enter Tryd.func79, Tryd.ntmps79
    go_wp2_with (go_at_call 76; (refine (Any.stringslite_Index_one Tryd.lays219 _ _ _).mono ?_); rintro e w' ⟨rfl, rfl⟩; rw [HX.out])
    go_region_o
    go_wp2
    go_ret3
    exact ⟨by rw [← HE.out, ← HF.out]; rfl, ⟨1, rfl⟩⟩
set_option maxHeartbeats 1000000 in
theorem strings_Cut.calls (a0 a1 : ByteArray) (r1 r2 : ByteArray) (r3 : Bool) (w : World) (h : strings_Cut.f a0 a1 = some (r1, r2, r3)) :
    Calls Tryd.prog 67 #[.string a0, .string a1] w fun e w' => e = .returned (.tuple #[.string r1, .string r2, .bool r3]) ∧ Drawn0 w w' := by
  have h1 : a1.size = 1 := by
    by_cases h1 : a1.size = 1
    · exact h1
    · rw [strings_Cut.f, if_neg h1] at h; cases h
  have h2 : a0.size ≤ 140737488355328 := by
    by_cases h2 : a0.size ≤ 140737488355328
    · exact h2
    · rw [strings_Cut.f, if_pos h1, if_neg h2] at h; cases h
  rw [strings_Cut.f, if_pos h1, if_pos h2] at h
  simp only [Option.some.injEq, Prod.mk.injEq] at h
  obtain ⟨rfl, rfl, rfl⟩ := h
  generalize hc : a1.data.getD 0 0 = c
  obtain rfl : a1 = ⟨#[c]⟩ := by rw [← hc]; exact one_sep a1 h1
  clear h1 hc
  go_enter Tryd.func67, Tryd.ntmps67
  go_wp2_with (go_at_call 79; (refine (slite_Cut _ _ _ h2).mono ?_); rintro e w' ⟨rfl, n, rfl⟩)
  go_ret3
  exact ⟨rfl, ⟨n, rfl⟩⟩
end Go.Proofs.YthaimkdnddmokaaDoor.P

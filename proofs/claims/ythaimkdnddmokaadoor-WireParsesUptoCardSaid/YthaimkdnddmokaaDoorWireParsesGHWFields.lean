/- what this claim needs of the words and the printed functions; conditions: as each statement says -/
import Derived.Test.YthaimkdnddmokaaDoorWireParsesGHTabs
import Derived.Test.YthaimkdnddmokaaDoorWireParsesHShelf
import Derived.Test.YthaimkdnddmokaaDoorWireParsesHStrings
import Derived.Lib.Hide
import Derived.Lib.Fields
namespace Go.Proofs.YthaimkdnddmokaaDoor.P
open Go.RowKit Go.Proofs.YthaimkdnddmokaaDoorW.PrintWords Go.Proofs.YthaimkdnddmokaaDoorW.PrintLast Go.Proofs.YthaimkdnddmokaaDoorW.PrintMore
set_option linter.unusedVariables false
set_option linter.unusedSimpArgs false
def strings_Contains.f (a0 a1 : ByteArray) : Option Bool := if a1.size = 1 then some (decide (0 ≤ Lib.indexByte a0.data.toList (a1.data.getD 0 0))) else none
set_option maxHeartbeats 1000000 in
theorem strings_Contains.calls (a0 a1 : ByteArray) (r : Bool) (w : World) (h : strings_Contains.f a0 a1 = some r) :
    Calls Tryd.prog 43 #[.string a0, .string a1] w fun e w' => e = .returned (.bool r) ∧ Drawn0 w w' := by
  unfold strings_Contains.f at h
  split at h
  case isFalse => cases h
  rename_i h1
  obtain rfl := Option.some.inj h
  clear h
  generalize hc : a1.data.getD 0 0 = c
  obtain rfl : a1 = ⟨#[c]⟩ := by rw [← hc]; exact one_sep a1 h1
  clear h1 hc
  obtain ⟨i, hi⟩ : ∃ i, Lib.indexByte a0.data.toList c = i := ⟨_, rfl⟩
  have H := Lib.hid (show Calls Tryd.prog 59 #[.string a0, .string ⟨#[c]⟩] w fun e w' => e = .returned (.int .i64 i) ∧ w' = w from by
    have := Any.strings_Index_one Tryd.lays143 a0 c w
    rw [hi] at this
    exact this)
  rw [hi]
  clear hi
  by_cases h0 : 0 ≤ i
  · have hd : decide (0 ≤ i) = true := decide_eq_true h0
    rw [hd]
    go_enter Tryd.func43, Tryd.ntmps43
    go_wp2_with (go_at_call 59; (refine (H.out).mono ?_); rintro e w' ⟨rfl, rfl⟩)
    go_ret
    exact ⟨by first | rfl | (rw [hd]), Drawn0.refl _⟩
  · have hd : decide (0 ≤ i) = false := decide_eq_false h0
    rw [hd]
    go_enter Tryd.func43, Tryd.ntmps43
    go_wp2_with (go_at_call 59; (refine (H.out).mono ?_); rintro e w' ⟨rfl, rfl⟩)
    go_ret
    exact ⟨by first | rfl | (rw [hd]), Drawn0.refl _⟩
end Go.Proofs.YthaimkdnddmokaaDoor.P
namespace Go.Proofs.YthaimkdnddmokaaDoor.P
open Go.RowKit Go.Proofs.YthaimkdnddmokaaDoorW.PrintWords Go.Proofs.YthaimkdnddmokaaDoorW.PrintLast Go.Proofs.YthaimkdnddmokaaDoorW.PrintMore
set_option linter.unusedVariables false
set_option linter.unusedSimpArgs false
theorem own_pieces (W : World) (base : Nat) (t : TypeId) (xs : List ByteArray) (N : Nat) (hb : base ≤ W.heap.size) (hle : xs.length ≤ N) (hN : N ≤ maxLen) :
    (W.alloc (.cells (Lib.cellsOf xs N) t)).ownsRow base t 1 (.slice (some ⟨W.heap.size, 0, none⟩) xs.length N) xs.length (encs Value.string xs) := by
  refine ⟨by simp [encs], .inr ⟨W.heap.size, N, _, rfl, hb, heap_alloc_new W _, hle, hN, by rw [Lib.cellsOf_size hle, Nat.mul_one], ?_⟩⟩
  rw [Nat.mul_one, Lib.cellsOf, List.take_append_of_le_length (by simp), List.take_of_length_le (by simp)]
  rfl
end Go.Proofs.YthaimkdnddmokaaDoor.P
namespace Go.Proofs.YthaimkdnddmokaaDoor.P
open Go.RowKit Go.Proofs.YthaimkdnddmokaaDoorW.PrintWords Go.Proofs.YthaimkdnddmokaaDoorW.PrintLast Go.Proofs.YthaimkdnddmokaaDoorW.PrintMore
set_option linter.unusedVariables false
set_option linter.unusedSimpArgs false
def asciiAll (s : ByteArray) : Bool := s.data.toList.all fun b => decide (b.toNat < 128)
def strings_Fields.f (a0 : ByteArray) : Option (List ByteArray) := if (asciiAll a0 && decide (a0.size < 4294967281) && decide ((Lib.fields a0.data.toList).length ≤ 4294967296)) = true then some ((Lib.fields a0.data.toList).map baOf) else none
set_option maxHeartbeats 1000000 in
theorem strings_Fields.calls (a0 : ByteArray) (r : List ByteArray) (w : World) (hT : Tabs w) (h : strings_Fields.f a0 = some r) :
    Calls Tryd.prog 53 #[.string a0] w fun e w' => ∃ v0_ : Value, e = .returned v0_ ∧ Kd.R Kd.string 9 w' w.heap.size (fun _ => True) v0_ r ∧ Below w.heap.size w w' := by
  unfold strings_Fields.f at h
  split at h
  case isFalse => cases h
  rename_i h1
  obtain rfl := Option.some.inj h
  clear h
  simp only [Bool.and_eq_true, decide_eq_true_eq] at h1
  obtain ⟨⟨h2, h3⟩, h4⟩ := h1
  have hascii : ∀ (j : Nat) b, a0.data.toList[j]? = some b → b.toNat < 128 := by
    intro j b hj
    unfold asciiAll at h2
    have := List.all_eq_true.1 h2 b (List.mem_of_getElem? hj)
    simpa using this
  have H := Any.strings_Fields_core Tryd.lays157 (by kernel_rfl) a0 w h3 hascii (fun c hc => hT.asc c hc)
  refine H.mono ?_
  rintro e w' ⟨rfl, rfl⟩
  have hlen : ((Lib.fields a0.data.toList).map baOf).length = (Lib.fields a0.data.toList).length := List.length_map _
  have hown := own_pieces w w.heap.size 9 ((Lib.fields a0.data.toList).map baOf) (Lib.fields a0.data.toList).length (Nat.le_refl _) (by rw [hlen]; exact Nat.le_refl _) (by unfold maxLen; omega)
  have hcells : (Lib.cellsOf ((Lib.fields a0.data.toList).map baOf) (Lib.fields a0.data.toList).length) = ((Lib.fields a0.data.toList).map fun l => Value.string ⟨l.toArray⟩).toArray := by
    unfold Lib.cellsOf
    rw [hlen, Nat.sub_self]
    simp [baOf]
  rw [hcells] at hown
  exact ⟨.slice (some ⟨w.heap.size, 0, none⟩) ((Lib.fields a0.data.toList).map baOf).length (Lib.fields a0.data.toList).length, by rw [hlen], Kd.R_of_own hown (fun _ _ => trivial), below_alloc (Below.refl _ _) _⟩
end Go.Proofs.YthaimkdnddmokaaDoor.P

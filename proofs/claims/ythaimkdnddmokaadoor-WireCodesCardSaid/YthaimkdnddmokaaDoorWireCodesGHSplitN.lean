/- what this claim needs of the words and the printed functions; conditions: as each statement says -/
import Derived.Test.YthaimkdnddmokaaDoorWireCodesGHTabs
import Derived.Test.YthaimkdnddmokaaDoorWireCodesHShelf
import Derived.Test.YthaimkdnddmokaaDoorWireCodesHStrings
import Derived.Lib.Hide
namespace Go.Proofs.YthaimkdnddmokaaDoor.P
open Go.RowKit Go.Proofs.YthaimkdnddmokaaDoorW.PrintWords Go.Proofs.YthaimkdnddmokaaDoorW.PrintLast Go.Proofs.YthaimkdnddmokaaDoorW.PrintMore
set_option linter.unusedVariables false
set_option linter.unusedSimpArgs false
def strings_Contains.f (a0 a1 : ByteArray) : Option Bool := if a1.size = 1 then some (decide (0 ≤ Lib.indexByte a0.data.toList (a1.data.getD 0 0))) else none
set_option maxHeartbeats 1000000 in
theorem strings_Contains.calls (a0 a1 : ByteArray) (r : Bool) (w : World) (h : strings_Contains.f a0 a1 = some r) :
    Calls Tryd.prog 43 #[.string a0, .string a1] w fun e w' => e = .returned (.bool r) ∧ Drawn0 w w' := by
  unfold strings_Contains.f at h
  split at h
  case isFalse => cases h
  rename_i h1
  obtain rfl := Option.some.inj h
  clear h
  generalize hc : a1.data.getD 0 0 = c
  obtain rfl : a1 = ⟨#[c]⟩ := by rw [← hc]; exact one_sep a1 h1
  clear h1 hc
  obtain ⟨i, hi⟩ : ∃ i, Lib.indexByte a0.data.toList c = i := ⟨_, rfl⟩
  have H := Lib.hid (show Calls Tryd.prog 59 #[.string a0, .string ⟨#[c]⟩] w fun e w' => e = .returned (.int .i64 i) ∧ w' = w from by
    have := Any.strings_Index_one Tryd.lays143 a0 c w
    rw [hi] at this
    exact this)
  rw [hi]
  clear hi
  by_cases h0 : 0 ≤ i
  · have hd : decide (0 ≤ i) = true := decide_eq_true h0
    rw [hd]
    go_enter Tryd.func43, Tryd.ntmps43
    go_wp2_with (go_at_call 59; (refine (H.out).mono ?_); rintro e w' ⟨rfl, rfl⟩)
    go_ret
    exact ⟨by first | rfl | (rw [hd]), Drawn0.refl _⟩
  · have hd : decide (0 ≤ i) = false := decide_eq_false h0
    rw [hd]
    go_enter Tryd.func43, Tryd.ntmps43
    go_wp2_with (go_at_call 59; (refine (H.out).mono ?_); rintro e w' ⟨rfl, rfl⟩)
    go_ret
    exact ⟨by first | rfl | (rw [hd]), Drawn0.refl _⟩
end Go.Proofs.YthaimkdnddmokaaDoor.P
namespace Go.Proofs.YthaimkdnddmokaaDoor.P
open Go.RowKit Go.Proofs.YthaimkdnddmokaaDoorW.PrintWords Go.Proofs.YthaimkdnddmokaaDoorW.PrintLast Go.Proofs.YthaimkdnddmokaaDoorW.PrintMore
set_option linter.unusedVariables false
set_option linter.unusedSimpArgs false
theorem own_pieces (W : World) (base : Nat) (t : TypeId) (xs : List ByteArray) (N : Nat) (hb : base ≤ W.heap.size) (hle : xs.length ≤ N) (hN : N ≤ maxLen) :
    (W.alloc (.cells (Lib.cellsOf xs N) t)).ownsRow base t 1 (.slice (some ⟨W.heap.size, 0, none⟩) xs.length N) xs.length (encs Value.string xs) := by
  refine ⟨by simp [encs], .inr ⟨W.heap.size, N, _, rfl, hb, heap_alloc_new W _, hle, hN, by rw [Lib.cellsOf_size hle, Nat.mul_one], ?_⟩⟩
  rw [Nat.mul_one, Lib.cellsOf, List.take_append_of_le_length (by simp), List.take_of_length_le (by simp)]
  rfl
end Go.Proofs.YthaimkdnddmokaaDoor.P

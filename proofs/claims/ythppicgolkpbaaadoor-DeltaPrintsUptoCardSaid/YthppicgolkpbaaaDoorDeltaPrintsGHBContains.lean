/- what this claim needs of the words and the printed functions; conditions: as each statement says -/
import Derived.Test.YthppicgolkpbaaaDoorDeltaPrintsPx0
import Derived.Test.YthppicgolkpbaaaDoorDeltaPrintsHShelf
import Derived.Lib.Hide
import Derived.IntWalk
namespace Go.Proofs.YthppicgolkpbaaaDoor.P
open Go.RowKit Go.Proofs.YthppicgolkpbaaaDoorW.PrintWords Go.Proofs.YthppicgolkpbaaaDoorW.PrintLast Go.Proofs.YthppicgolkpbaaaDoorW.PrintMore
set_option linter.unusedVariables false
set_option linter.unusedSimpArgs false
def baOf (l : List UInt8) : ByteArray := ⟨l.toArray⟩
theorem baOf_data (l : List UInt8) : (baOf l).data.toList = l := rfl
theorem one_sep (a1 : ByteArray) (h : a1.size = 1) : a1 = ⟨#[a1.data.getD 0 0]⟩ := by
  obtain ⟨c, rfl⟩ := Lib.one_byte a1 h
  rfl
end Go.Proofs.YthppicgolkpbaaaDoor.P
namespace Go.Proofs.YthppicgolkpbaaaDoor.P
open Go.RowKit Go.Proofs.YthppicgolkpbaaaDoorW.PrintWords Go.Proofs.YthppicgolkpbaaaDoorW.PrintLast Go.Proofs.YthppicgolkpbaaaDoorW.PrintMore
set_option linter.unusedVariables false
set_option linter.unusedSimpArgs false
def strings_Contains.f (a0 a1 : ByteArray) : Option Bool := if a1.size = 1 then some (decide (0 ≤ Lib.indexByte a0.data.toList (a1.data.getD 0 0))) else none
set_option maxHeartbeats 1000000 in
theorem strings_Contains.calls (a0 a1 : ByteArray) (r : Bool) (w : World) (h : strings_Contains.f a0 a1 = some r) :
    Calls Tryd.prog 54 #[.string a0, .string a1] w fun e w' => e = .returned (.bool r) ∧ Drawn0 w w' := by
  unfold strings_Contains.f at h
  split at h
  case isFalse => cases h
  rename_i h1
  obtain rfl := Option.some.inj h
  clear h
  generalize hc : a1.data.getD 0 0 = c
  obtain rfl : a1 = ⟨#[c]⟩ := by rw [← hc]; exact one_sep a1 h1
  clear h1 hc
  obtain ⟨i, hi⟩ : ∃ i, Lib.indexByte a0.data.toList c = i := ⟨_, rfl⟩
  have H := Lib.hid (show Calls Tryd.prog 64 #[.string a0, .string ⟨#[c]⟩] w fun e w' => e = .returned (.int .i64 i) ∧ w' = w from by
    have := Any.strings_Index_one Tryd.lays143 a0 c w
    rw [hi] at this
    exact this)
  rw [hi]
  clear hi
  by_cases h0 : 0 ≤ i
  · have hd : decide (0 ≤ i) = true := decide_eq_true h0
    rw [hd]
    go_enter Tryd.func54, Tryd.ntmps54
    go_wp2_with (go_at_call 64; (refine (H.out).mono ?_); rintro e w' ⟨rfl, rfl⟩)
    go_ret
    exact ⟨by first | rfl | (rw [hd]), Drawn0.refl _⟩
  · have hd : decide (0 ≤ i) = false := decide_eq_false h0
    rw [hd]
    go_enter Tryd.func54, Tryd.ntmps54
    go_wp2_with (go_at_call 64; (refine (H.out).mono ?_); rintro e w' ⟨rfl, rfl⟩)
    go_ret
    exact ⟨by first | rfl | (rw [hd]), Drawn0.refl _⟩
end Go.Proofs.YthppicgolkpbaaaDoor.P

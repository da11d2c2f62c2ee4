/- strings.Join's contract, in the print's form, out of the shelf's; condition: the whole result takes at most 2^47 bytes. -/
import Derived.Test.YthaimkdnddmokaaDoorWireRequestsGHWBytes
import Derived.Test.YthaimkdnddmokaaDoorWireRequestsHShelfB
import Derived.Lib.Hide
namespace Go.Proofs.YthaimkdnddmokaaDoor.P
open Go.RowKit Go.Proofs.YthaimkdnddmokaaDoorW.PrintWords Go.Proofs.YthaimkdnddmokaaDoorW.PrintLast Go.Proofs.YthaimkdnddmokaaDoorW.PrintMore
set_option linter.unusedVariables false
set_option linter.unusedSimpArgs false
def joinB (l : List ByteArray) (sep : ByteArray) : List UInt8 := Lib.join (l.map (·.data.toList)) sep.data.toList
def strings_Join.f (l0 : List ByteArray) (a1 : ByteArray) : Option ByteArray := if l0.length ≤ 140737488355328 then (if (joinB l0 a1).length ≤ 140737488355328 then some ⟨(joinB l0 a1).toArray⟩ else none) else none
theorem join_X : Builder.Extra Tryd.prog Tryd.lays156_ren where
  sizeBuilder := by kernel_rfl
  liesBuilder := by kernel_rfl
  t5 := Tryd.underlying5
  a5 := Tryd.isAgg5
  z5 := Tryd.sizeOf5
  v5 := Tryd.zeroValue5
  infoByte := by kernel_rfl
  cellsByte := by kernel_rfl
  sizeByte := by kernel_rfl
  neB5 := by decide
theorem cell_plain {w : World} {a : Addr} {v : Value} (h : w.cell? a = some v) : a.spot = none := by
  unfold World.cell? at h
  split at h
  · split at h
    · cases h
    · rename_i h2
      cases hs : a.spot with
      | none => rfl
      | some x => rw [hs] at h2; simp at h2
  · cases h
theorem strings_Join.calls (A0 : Option Addr) (c0 : Nat) (l0 : List ByteArray) (a1 : ByteArray) (r : ByteArray) (w : World) (hr0 : Kd.C Kd.string w A0 l0.length l0) (hc0 : l0.length ≤ c0) (h : strings_Join.f l0 a1 = some r) :
    Calls Tryd.prog 39 #[.slice A0 l0.length c0, .string a1] w fun e w' => e = .returned (.string r) ∧ Below w.heap.size w w' := by
  unfold strings_Join.f at h
  split at h
  case isFalse => cases h
  rename_i h1
  split at h
  case isFalse => cases h
  rename_i h2
  obtain rfl := Option.some.inj h
  rcases l0 with _ | ⟨x, xs⟩
  · refine (Any.strings_Join_none Tryd.lays156 join_X A0 c0 a1 w).mono fun e w' ⟨he, hw⟩ => ⟨he, by rw [hw]; exact Below.refl _ _⟩
  · obtain ⟨ad, rfl, hcell⟩ := (Kd.reads_of_C (enc := Value.string) (d := (⟨#[]⟩ : ByteArray)) (h1 := fun _ => rfl) hr0).2.2 (by simp)
    have h0 := hcell 0 (by simp)
    have hsp : ad.spot = none := by
      have := cell_plain h0
      rw [Addr.add, if_pos rfl] at this
      exact this
    obtain ⟨bk, o, sp⟩ := ad
    obtain rfl : sp = none := hsp
    refine (Any.strings_Join Tryd.lays156 join_X bk o c0 (x :: xs) a1 w (fun j y hj => ?_) ?_ h1 hc0 h2).mono fun e w' ⟨he, hw⟩ => ⟨he, hw⟩
    · have hlt : j < (x :: xs).length := (List.getElem?_eq_some_iff.1 hj).1
      have := hcell j hlt
      have e : (⟨bk, o, none⟩ : Addr).add j = ⟨bk, o + j, none⟩ := by
        unfold Addr.add
        split
        · rename_i h9; rw [h9]; rfl
        · rfl
      rw [e] at this
      rw [this, List.getD_eq_getElem?_getD, hj]; rfl
    · have := World.block_lt_of_cell? w _ h0
      simpa [Addr.add] using this
end Go.Proofs.YthaimkdnddmokaaDoor.P

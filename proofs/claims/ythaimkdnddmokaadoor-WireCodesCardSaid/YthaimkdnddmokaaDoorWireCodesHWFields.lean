/- contract of Go's strings.Fields at a text of ASCII bytes; conditions: such a text, of fewer than 2^32 - 15 bytes, with a word in it; the table of blanks lies as it was laid. -/
import Derived.Test.YthaimkdnddmokaaDoorWireCodesHShelf
import Derived.Test.YthaimkdnddmokaaDoorWireCodesGHTabs
import Derived.Test.YthaimkdnddmokaaDoorWireCodesGHSplitN
import Derived.Lib.Fields
namespace Go.Proofs.YthaimkdnddmokaaDoor.P
open Go.RowKit Go.Proofs.YthaimkdnddmokaaDoorW.PrintWords Go.Proofs.YthaimkdnddmokaaDoorW.PrintLast Go.Proofs.YthaimkdnddmokaaDoorW.PrintMore
set_option linter.unusedVariables false
set_option linter.unusedSimpArgs false
def asciiAll (s : ByteArray) : Bool := s.data.toList.all fun b => decide (b.toNat < 128)
def strings_Fields.f (a0 : ByteArray) : Option (List ByteArray) := if (asciiAll a0 && decide (a0.size < 4294967281) && decide ((Lib.fields a0.data.toList).length ≤ 4294967296)) = true then some ((Lib.fields a0.data.toList).map baOf) else none
set_option maxHeartbeats 1000000 in
theorem strings_Fields.calls (a0 : ByteArray) (r : List ByteArray) (w : World) (hT : Tabs w) (h : strings_Fields.f a0 = some r) :
    Calls Tryd.prog 53 #[.string a0] w fun e w' => ∃ v0_ : Value, e = .returned v0_ ∧ Kd.R Kd.string 9 w' w.heap.size (fun _ => True) v0_ r ∧ Below w.heap.size w w' := by
  unfold strings_Fields.f at h
  split at h
  case isFalse => cases h
  rename_i h1
  obtain rfl := Option.some.inj h
  clear h
  simp only [Bool.and_eq_true, decide_eq_true_eq] at h1
  obtain ⟨⟨h2, h3⟩, h4⟩ := h1
  have hascii : ∀ (j : Nat) b, a0.data.toList[j]? = some b → b.toNat < 128 := by
    intro j b hj
    unfold asciiAll at h2
    have := List.all_eq_true.1 h2 b (List.mem_of_getElem? hj)
    simpa using this
  have H := Any.strings_Fields_core Tryd.lays157 (by kernel_rfl) a0 w h3 hascii (fun c hc => hT.asc c hc)
  refine H.mono ?_
  rintro e w' ⟨rfl, rfl⟩
  have hlen : ((Lib.fields a0.data.toList).map baOf).length = (Lib.fields a0.data.toList).length := List.length_map _
  have hown := own_pieces w w.heap.size 9 ((Lib.fields a0.data.toList).map baOf) (Lib.fields a0.data.toList).length (Nat.le_refl _) (by rw [hlen]; exact Nat.le_refl _) (by unfold maxLen; omega)
  have hcells : (Lib.cellsOf ((Lib.fields a0.data.toList).map baOf) (Lib.fields a0.data.toList).length) = ((Lib.fields a0.data.toList).map fun l => Value.string ⟨l.toArray⟩).toArray := by
    unfold Lib.cellsOf
    rw [hlen, Nat.sub_self]
    simp [baOf]
  rw [hcells] at hown
  exact ⟨.slice (some ⟨w.heap.size, 0, none⟩) ((Lib.fields a0.data.toList).map baOf).length (Lib.fields a0.data.toList).length, by rw [hlen], Kd.R_of_own hown (fun _ _ => trivial), below_alloc (Below.refl _ _) _⟩
end Go.Proofs.YthaimkdnddmokaaDoor.P

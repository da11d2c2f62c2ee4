/- wire.Read's contract: the response of bytes; conditions: bytes, fewer than 2^47 of them; a nil slice has no room. -/
import Derived.Test.YthaimkdnddmokaaDoorWireParsesHWRead
namespace Go.Proofs.YthaimkdnddmokaaDoor.P
open Go.RowKit Go.Proofs.YthaimkdnddmokaaDoorW.PrintWords Go.Proofs.YthaimkdnddmokaaDoorW.PrintLast Go.Proofs.YthaimkdnddmokaaDoorW.PrintMore
set_option linter.unusedVariables false
set_option linter.unusedSimpArgs false
def bytesB (l : List Int) : Bool := l.all fun z => decide (0 ≤ z) && decide (z < 256)
theorem bytesB_iff {l : List Int} : bytesB l = true ↔ ∀ z ∈ l, 0 ≤ z ∧ z < 256 := by
  unfold bytesB
  simp [List.all_eq_true]
/-- what bytes.Cut leaves of bytes that lie -/
theorem cut_calls (A0 : Option Addr) (c0 : Nat) (l0 : List Int) (w : World) (hg : bytesB l0 = true) (hl : l0.length ≤ 140737488355328) (hr0 : Kd.C (Kd.int .u8) w A0 l0.length l0) (hc0 : l0.length ≤ c0) (hn0 : A0 = none → c0 = 0) :
    ∃ (A2 : Option Addr) (c2 : Nat) (sv body : List Int) (more : Bool), (more = true → cutI l0 = (sv, body, true)) ∧ (more = false → cutI l0 = (l0, [], false) ∧ sv = l0 ∧ body = []) ∧ sv.length ≤ l0.length ∧ body.length ≤ l0.length ∧ sv.length ≤ c0 ∧
      Kd.C (Kd.int .u8) w A0 sv.length sv ∧ Kd.C (Kd.int .u8) w A2 body.length body ∧ body.length ≤ c2 ∧
      ∀ (W : World) (g : Nat), Below w.heap.size w W → W.cell? ⟨g, 0, none⟩ = some (.int .u8 10) → Calls Tryd.prog 24 #[.slice A0 l0.length c0, .slice (some ⟨g, 0, none⟩) 1 1] W fun e w' => e = .returned (.tuple #[.slice A0 sv.length c0, .slice A2 body.length c2, .bool more]) ∧ ∃ q, w' = W.drewN q := by
  obtain ⟨h1, h2⟩ := cut_at l0 (bytesB_iff.1 hg) _ rfl
  have hge := Lib.indexByte_ge (Lib.bytesOf l0) 10
  have hlies : ∀ W, Below w.heap.size w W → Lib.BytesIn W A0 l0.length l0 := fun W hb => by
    obtain ⟨_, _, h3⟩ := Kd.reads_of_C (enc := Value.int .u8) (d := (0 : Int)) (h1 := fun _ => rfl) (Kd.C_below hr0 hb)
    intro hn
    obtain ⟨ad, rfl, hcell⟩ := h3 hn
    exact Lib.BytesIn.of_cells (fun i hi => hcell i hi) hn
  have hC := fun (W : World) (g : Nat) (hb : Below w.heap.size w W) (hten : W.cell? ⟨g, 0, none⟩ = some (.int .u8 10)) => bytes_Cut.line A0 l0.length c0 g 0 1 l0 W rfl (hlies W hb) hn0 hc0 (by omega) hten
  generalize Lib.indexByte (Lib.bytesOf l0) 10 = i at h1 h2 hge hC
  by_cases hi : 0 ≤ i
  · obtain ⟨g1, g2⟩ := h1 hi
    obtain ⟨A2, e2, hB2, hc2⟩ := fromV_C (k := i.toNat + 1) hr0 hc0 g2
    have hlt : (l0.take i.toNat).length = i.toNat := by rw [List.length_take]; omega
    have hld : (l0.drop (i.toNat + 1)).length = l0.length - (i.toNat + 1) := List.length_drop
    refine ⟨A2, c0 - (i.toNat + 1), l0.take i.toNat, l0.drop (i.toNat + 1), true, fun _ => g1, (fun h => by cases h), by omega, by omega, by omega, take_C hr0 (by omega), hB2, hc2, fun W g hb hten => ?_⟩
    have := hC W g hb hten
    unfold Lib.cutV at this
    rw [if_pos hi, e2] at this
    rw [hlt]
    exact this
  · have g1 := h2 (by omega)
    refine ⟨none, 0, l0, [], false, (fun h => by cases h), fun _ => ⟨g1, rfl, rfl⟩, Nat.le_refl _, Nat.zero_le _, hc0, hr0, Kd.C_nil _ _, Nat.le_refl _, fun W g hb hten => ?_⟩
    have := hC W g hb hten
    unfold Lib.cutV at this
    rw [if_neg hi] at this
    exact this
end Go.Proofs.YthaimkdnddmokaaDoor.P

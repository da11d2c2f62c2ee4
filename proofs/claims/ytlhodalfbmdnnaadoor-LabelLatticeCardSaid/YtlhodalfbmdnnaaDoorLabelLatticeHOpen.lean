/- arguments laid open: what is read of each as data, it holds as a value of the print's own kinds; and its bulk -/
import Derived.Test.YtlhodalfbmdnnaaDoorLabelLatticePx0
import Derived.Test.YtlhodalfbmdnnaaDoorRows
import Derived.WalkKit
import Derived.ProofKit
import Derived.OpenShut
namespace Go.Proofs.YtlhodalfbmdnnaaDoor
open Go.RowKit Go.ChangeShapes Go.WideShapes Go.ChangeAt Go.Proofs.YtlhodalfbmdnnaaDoorW.PrintWords Go.Proofs.YtlhodalfbmdnnaaDoor.P
set_option linter.unusedVariables false
theorem bulk_one_le {H : Type} (d : DataW H) : 1 ≤ Rows.uptoBulk d := by
  cases d with
  | lit l => cases l <;> simp [Rows.uptoBulk]
  | nil => simp [Rows.uptoBulk]
  | ptr d => simp [Rows.uptoBulk]
  | slice elems spare => simp [Rows.uptoBulk]
  | agg parts => simp [Rows.uptoBulk]
  | iface t d => simp [Rows.uptoBulk]
  | map entries => simp [Rows.uptoBulk]
  | held h => simp [Rows.uptoBulk]
/-- what is read of type t is a value of the kind d -/
def Opens {α : Type} (P : Program) (t : TypeId) (d : Kd α) (good : α → Prop) (bulk : α → Nat) : Prop :=
  ∀ {H : Type} (enc : TypeId × Value → H) (w : World) (base : Nat) (sp : Nat → Bool) (held : Bool) (fuel : Nat) (cs : List Value) (x : DataW H × List MemPlace),
    DataW.trod enc P w base sp held fuel t cs = some x → ∃ a, d.K w a cs ∧ good a ∧ bulk a ≤ Rows.uptoBulk x.1
theorem opens_int {P : Program} {t : TypeId} {k : IntKind} (ht : P.underlying t = some (.int k)) : Opens P t (Kd.int k) (fun n => (Lit.int k n).wf = true) (fun _ => 1) := by
  intro H enc w base sp held fuel cs x h
  obtain ⟨n, rfl, rfl, hw⟩ := DataW.trod_int ht h
  exact ⟨n, rfl, hw, bulk_one_le _⟩
/-- a struct of two fields -/
theorem opens_struct2 {α β γ : Type} {P : Program} {t : TypeId} {a : Kd α} {b : Kd β} {ga : α → Prop} {gb : β → Prop} {ba : α → Nat} {bb : β → Nat} {f0 f1 : Field} (ht : P.underlying t = some (.struct #[f0, f1]))
    (o0 : f0.offset = 0) (c0 : P.cellsOf f0.type = a.sz) (o1 : f1.offset = a.sz) (c1 : P.cellsOf f1.type = b.sz) (ct : P.cellsOf t = a.sz + b.sz) (h0 : Opens P f0.type a ga ba) (h1 : Opens P f1.type b gb bb)
    (f : γ → α × β) (g : α → β → γ) (hfg : ∀ x y, f (g x y) = (x, y)) :
    Opens P t (Kd.iso (Kd.pair a b) f) (fun z => ga (f z).1 ∧ gb (f z).2) (fun z => ba (f z).1 + bb (f z).2 + 1) := by
  intro H enc w base sp held fuel cs x h
  obtain ⟨y0, y1, n, rfl, hl, e0, e1⟩ := trod_struct2 ht h
  obtain ⟨p, k0, g0, b0⟩ := h0 enc w base sp held n _ _ e0
  obtain ⟨q, k1, g1, b1⟩ := h1 enc w base sp held n _ _ e1
  rw [o0, c0] at k0
  rw [o1, c1] at k1
  refine ⟨g p q, ⟨_, _, ?_, by rw [hfg]; exact k0, by rw [hfg]; exact k1⟩, by show ga (f (g p q)).1 ∧ gb (f (g p q)).2; rw [hfg]; exact ⟨g0, g1⟩, by show ba (f (g p q)).1 + bb (f (g p q)).2 + 1 ≤ _; rw [hfg]; simp only [Rows.uptoBulk, Rows.uptoBulkAll]; omega⟩
  rw [List.drop_zero]
  have : (cs.drop a.sz).take b.sz = cs.drop a.sz := List.take_of_length_le (by rw [List.length_drop]; omega)
  rw [this, List.take_append_drop]
/-! ### this program's types -/
end Go.Proofs.YtlhodalfbmdnnaaDoor

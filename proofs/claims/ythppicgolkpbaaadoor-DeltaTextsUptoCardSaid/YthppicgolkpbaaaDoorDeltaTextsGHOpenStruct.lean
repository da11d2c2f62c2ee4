/- what this claim needs of the words and the printed functions; conditions: as each statement says -/
import Derived.Test.YthppicgolkpbaaaDoorDeltaTextsHOpen
import Derived.Test.YthppicgolkpbaaaDoorDeltaTextsGHBits
import Derived.Lib.LaidTab
import Derived.MakeChecks
import Derived.Test.YthppicgolkpbaaaDoorDeltaTextsPx0
import Derived.Test.YthppicgolkpbaaaDoorRows
import Derived.WalkKit
import Derived.ProofKit
import Derived.OpenShut
namespace Go.Proofs.YthppicgolkpbaaaDoor
open Go.RowKit Go.ChangeShapes Go.WideShapes Go.ChangeAt Go.Proofs.YthppicgolkpbaaaDoorW.PrintWords Go.Proofs.YthppicgolkpbaaaDoor.P
set_option linter.unusedVariables false
set_option linter.unusedSimpArgs false
theorem tabs_of_laid {W : World} {rest : List (String × DataW Unit)} (h : laidMet Tryd.prog (("math/bits.deBruijn64tab", Rows.laid_math_bits_deBruijn64tab) :: rest) W) : Tabs W := by
  have ht : Lib.TabIs Tryd.prog W "math/bits.deBruijn64tab" .u8 (Lib.deBruijn64tab.map Int.ofNat) := Lib.tabIs_of_head (g := 1) (t := 114) (e := 5) (n := 64) (by kernel_rfl) (by kernel_rfl) (by kernel_rfl) (by kernel_rfl) (by kernel_rfl) (by kernel_rfl) (show laidMet Tryd.prog (("math/bits.deBruijn64tab", Lib.tabData .u8 (Lib.deBruijn64tab.map Int.ofNat)) :: rest) W from h)
  refine ⟨fun j hj => ?_⟩
  have := ht.cell (g := 1) (by kernel_rfl) j (by rw [List.length_map]; exact hj)
  rw [this]
  simp [List.getD_eq_getElem?_getD, List.getElem?_map]
  cases Lib.deBruijn64tab[j]? <;> rfl
end Go.Proofs.YthppicgolkpbaaaDoor
namespace Go.Proofs.YthppicgolkpbaaaDoor
open Go.RowKit Go.ChangeShapes Go.WideShapes Go.ChangeAt Go.Proofs.YthppicgolkpbaaaDoorW.PrintWords Go.Proofs.YthppicgolkpbaaaDoor.P
set_option linter.unusedVariables false
/-- what is read of fields that lie from off on is a value of the kind d -/
def OpensFs {α : Type} (P : Program) (fs : List Field) (off : Nat) (d : Kd α) (good : α → Prop) (bulk : α → Nat) : Prop :=
  ∀ {H : Type} (enc : TypeId × Value → H) (w : World) (base : Nat) (sp : Nat → Bool) (held : Bool) (n : Nat) (cs : List Value) (ys : List (DataW H × List MemPlace)), ys.length = fs.length →
    (∀ (i : Nat) (f : Field), fs[i]? = some f → DataW.trod enc P w base sp held n f.type ((cs.drop f.offset).take (P.cellsOf f.type)) = ys[i]?) →
    ∃ a, d.K w a ((cs.drop off).take d.sz) ∧ good a ∧ bulk a ≤ Rows.uptoBulkAll (ys.map (·.1))
theorem ofs_one {α : Type} {P : Program} {f : Field} {off : Nat} {d : Kd α} {good : α → Prop} {bulk : α → Nat} (hoff : f.offset = off) (hc : P.cellsOf f.type = d.sz) (h : Opens P f.type d good bulk) : OpensFs P [f] off d good bulk := by
  intro H enc w base sp held n cs ys hl hf
  match ys, hl with
  | [y], _ =>
    have h0 := hf 0 f rfl
    rw [hoff, hc] at h0
    obtain ⟨a, hk, hg, hb⟩ := h enc w base sp held n _ _ (by simpa using h0)
    exact ⟨a, hk, hg, by simp only [List.map_cons, List.map_nil, Rows.uptoBulkAll]; omega⟩
theorem ofs_cons {α β : Type} {P : Program} {f : Field} {fs : List Field} {off : Nat} {a : Kd α} {b : Kd β} {ga : α → Prop} {gb : β → Prop} {ba : α → Nat} {bb : β → Nat} (hoff : f.offset = off) (hc : P.cellsOf f.type = a.sz)
    (h : Opens P f.type a ga ba) (ht : OpensFs P fs (off + a.sz) b gb bb) : OpensFs P (f :: fs) off (Kd.pair a b) (fun z => ga z.1 ∧ gb z.2) (fun z => ba z.1 + bb z.2) := by
  intro H enc w base sp held n cs ys hl hf
  match ys, hl with
  | y :: ys, hl =>
    have h0 := hf 0 f rfl
    rw [hoff, hc] at h0
    obtain ⟨p, hk, hg, hb⟩ := h enc w base sp held n _ _ (by simpa using h0)
    obtain ⟨q, hk2, hg2, hb2⟩ := ht enc w base sp held n cs ys (by simpa using hl) (fun i g hi => by have := hf (i + 1) g (by simpa using hi); simpa using this)
    refine ⟨(p, q), ⟨_, _, ?_, hk, hk2⟩, ⟨hg, hg2⟩, by simp only [List.map_cons, Rows.uptoBulkAll]; omega⟩
    show (cs.drop off).take (a.sz + b.sz) = _
    rw [List.take_add, List.drop_drop]
theorem opens_fields {α γ : Type} {P : Program} {t : TypeId} {fs : Array Field} {d : Kd α} {good : α → Prop} {bulk : α → Nat} (ht : P.underlying t = some (.struct fs)) (hc : P.cellsOf t = d.sz) (ho : OpensFs P fs.toList 0 d good bulk) (f : γ → α) (g : α → γ) (hfg : ∀ x, f (g x) = x) :
    Opens P t (Kd.iso d f) (fun z => good (f z)) (fun z => bulk (f z) + 1) := by
  intro H enc w base sp held fuel cs x h
  obtain ⟨xs, n, _, rfl, hl, hlen, hf⟩ := DataW.trod_struct ht h
  obtain ⟨a, hk, hg, hb⟩ := ho enc w base sp held n cs xs (by simpa using hlen) (fun i f hi => hf i f (by simpa using hi))
  rw [List.drop_zero, List.take_of_length_le (by omega)] at hk
  refine ⟨g a, by show d.K w (f (g a)) cs; rw [hfg]; exact hk, by show good (f (g a)); rw [hfg]; exact hg, by show bulk (f (g a)) + 1 ≤ _; rw [hfg]; simp only [Rows.uptoBulk]; omega⟩
theorem op_klabel : Opens Tryd.prog 37 k37 (fun z => (Lit.int .i64 z.f0).wf = true ∧ (Lit.int .u64 z.f1).wf = true) (fun z => 1 + 1 + 1) :=
  opens_fields Tryd.underlying37 (by kernel_rfl) (ofs_cons rfl (by kernel_rfl) (opens_int Tryd.underlying3) (ofs_one rfl (by kernel_rfl) (opens_int Tryd.underlying35))) (fun x : S37 => (x.f0, x.f1)) (fun z => ⟨z.1, z.2⟩) (fun _ => rfl)
theorem op_item : Opens Tryd.prog 41 k41 (fun z => (Lit.int .i64 z.f0).wf = true ∧ ((Lit.int .i64 z.f1.f0).wf = true ∧ (Lit.int .u64 z.f1.f1).wf = true) ∧ True ∧ (z.f3.f0.size ≤ maxLen ∧ True)) (fun z => 1 + ((1 + 1 + 1) + (1 + (z.f3.f0.size + 1 + 1 + 1))) + 1) :=
  opens_fields Tryd.underlying41 (by kernel_rfl) (ofs_cons rfl (by kernel_rfl) (opens_int Tryd.underlying3) (ofs_cons rfl (by kernel_rfl) op_klabel (ofs_cons rfl (by kernel_rfl) (opens_bool Tryd.underlying4) (ofs_one rfl (by kernel_rfl) op_line)))) (fun x : S41 => (x.f0, x.f1, x.f2, x.f3)) (fun z => ⟨z.1, z.2.1, z.2.2.1, z.2.2.2⟩) (fun _ => rfl)
theorem op_items : Opens Tryd.prog 22 (Kd.slice 41 k41) (fun l => l.length ≤ maxLen ∧ ∀ z ∈ l, (Lit.int .i64 z.f0).wf = true ∧ ((Lit.int .i64 z.f1.f0).wf = true ∧ (Lit.int .u64 z.f1.f1).wf = true) ∧ True ∧ (z.f3.f0.size ≤ maxLen ∧ True)) (fun l => (l.map fun z => 1 + ((1 + 1 + 1) + (1 + (z.f3.f0.size + 1 + 1 + 1))) + 1).sum + 1) := opens_slice Tryd.underlying22 (by kernel_rfl) op_item
theorem op_part : Opens Tryd.prog 27 k27 (fun p => (Lit.int .i64 p.f0).wf = true ∧ (Lit.int .i64 p.f1).wf = true ∧ (p.f2.length ≤ maxLen ∧ ∀ z ∈ p.f2, (Lit.int .i64 z.f0).wf = true ∧ ((Lit.int .i64 z.f1.f0).wf = true ∧ (Lit.int .u64 z.f1.f1).wf = true) ∧ True ∧ (z.f3.f0.size ≤ maxLen ∧ True))) (fun p => 1 + (1 + ((p.f2.map fun z => 1 + ((1 + 1 + 1) + (1 + (z.f3.f0.size + 1 + 1 + 1))) + 1).sum + 1)) + 1) :=
  opens_fields Tryd.underlying27 (by kernel_rfl) (ofs_cons rfl (by kernel_rfl) (opens_int Tryd.underlying3) (ofs_cons rfl (by kernel_rfl) (opens_int Tryd.underlying3) (ofs_one rfl (by kernel_rfl) op_items))) (fun x : S27 => (x.f0, x.f1, x.f2)) (fun z => ⟨z.1, z.2.1, z.2.2⟩) (fun _ => rfl)
theorem op_parts : Opens Tryd.prog 24 (Kd.slice 27 k27) (fun l => l.length ≤ maxLen ∧ ∀ p ∈ l, (Lit.int .i64 p.f0).wf = true ∧ (Lit.int .i64 p.f1).wf = true ∧ (p.f2.length ≤ maxLen ∧ ∀ z ∈ p.f2, (Lit.int .i64 z.f0).wf = true ∧ ((Lit.int .i64 z.f1.f0).wf = true ∧ (Lit.int .u64 z.f1.f1).wf = true) ∧ True ∧ (z.f3.f0.size ≤ maxLen ∧ True))) (fun l => (l.map fun p => 1 + (1 + ((p.f2.map fun z => 1 + ((1 + 1 + 1) + (1 + (z.f3.f0.size + 1 + 1 + 1))) + 1).sum + 1)) + 1).sum + 1) := opens_slice Tryd.underlying24 (by kernel_rfl) op_part
end Go.Proofs.YthppicgolkpbaaaDoor

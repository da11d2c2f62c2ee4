/- what this claim needs of the words and the printed functions; conditions: as each statement says -/
import Derived.Test.YthaimkdnddmokaaDoorWireAnswersHOpen
import Derived.Test.YthaimkdnddmokaaDoorWireAnswersHOpenLabel
namespace Go.Proofs.YthaimkdnddmokaaDoor
open Go.RowKit Go.ChangeShapes Go.WideShapes Go.ChangeAt Go.Proofs.YthaimkdnddmokaaDoorW.PrintWords Go.Proofs.YthaimkdnddmokaaDoor.P
set_option linter.unusedVariables false
/-- what is read of fields that lie from off on is a value of the kind d -/
def OpensFs {α : Type} (P : Program) (fs : List Field) (off : Nat) (d : Kd α) (good : α → Prop) (bulk : α → Nat) : Prop :=
  ∀ {H : Type} (enc : TypeId × Value → H) (w : World) (base : Nat) (sp : Nat → Bool) (held : Bool) (n : Nat) (cs : List Value) (ys : List (DataW H × List MemPlace)), ys.length = fs.length →
    (∀ (i : Nat) (f : Field), fs[i]? = some f → DataW.trod enc P w base sp held n f.type ((cs.drop f.offset).take (P.cellsOf f.type)) = ys[i]?) →
    ∃ a, d.K w a ((cs.drop off).take d.sz) ∧ good a ∧ bulk a ≤ Rows.uptoBulkAll (ys.map (·.1))
theorem ofs_one {α : Type} {P : Program} {f : Field} {off : Nat} {d : Kd α} {good : α → Prop} {bulk : α → Nat} (hoff : f.offset = off) (hc : P.cellsOf f.type = d.sz) (h : Opens P f.type d good bulk) : OpensFs P [f] off d good bulk := by
  intro H enc w base sp held n cs ys hl hf
  match ys, hl with
  | [y], _ =>
    have h0 := hf 0 f rfl
    rw [hoff, hc] at h0
    obtain ⟨a, hk, hg, hb⟩ := h enc w base sp held n _ _ (by simpa using h0)
    exact ⟨a, hk, hg, by simp only [List.map_cons, List.map_nil, Rows.uptoBulkAll]; omega⟩
theorem ofs_cons {α β : Type} {P : Program} {f : Field} {fs : List Field} {off : Nat} {a : Kd α} {b : Kd β} {ga : α → Prop} {gb : β → Prop} {ba : α → Nat} {bb : β → Nat} (hoff : f.offset = off) (hc : P.cellsOf f.type = a.sz)
    (h : Opens P f.type a ga ba) (ht : OpensFs P fs (off + a.sz) b gb bb) : OpensFs P (f :: fs) off (Kd.pair a b) (fun z => ga z.1 ∧ gb z.2) (fun z => ba z.1 + bb z.2) := by
  intro H enc w base sp held n cs ys hl hf
  match ys, hl with
  | y :: ys, hl =>
    have h0 := hf 0 f rfl
    rw [hoff, hc] at h0
    obtain ⟨p, hk, hg, hb⟩ := h enc w base sp held n _ _ (by simpa using h0)
    obtain ⟨q, hk2, hg2, hb2⟩ := ht enc w base sp held n cs ys (by simpa using hl) (fun i g hi => by have := hf (i + 1) g (by simpa using hi); simpa using this)
    refine ⟨(p, q), ⟨_, _, ?_, hk, hk2⟩, ⟨hg, hg2⟩, by simp only [List.map_cons, Rows.uptoBulkAll]; omega⟩
    show (cs.drop off).take (a.sz + b.sz) = _
    rw [List.take_add, List.drop_drop]
theorem opens_fields {α γ : Type} {P : Program} {t : TypeId} {fs : Array Field} {d : Kd α} {good : α → Prop} {bulk : α → Nat} (ht : P.underlying t = some (.struct fs)) (hc : P.cellsOf t = d.sz) (ho : OpensFs P fs.toList 0 d good bulk) (f : γ → α) (g : α → γ) (hfg : ∀ x, f (g x) = x) :
    Opens P t (Kd.iso d f) (fun z => good (f z)) (fun z => bulk (f z) + 1) := by
  intro H enc w base sp held fuel cs x h
  obtain ⟨xs, n, _, rfl, hl, hlen, hf⟩ := DataW.trod_struct ht h
  obtain ⟨a, hk, hg, hb⟩ := ho enc w base sp held n cs xs (by simpa using hlen) (fun i f hi => hf i f (by simpa using hi))
  rw [List.drop_zero, List.take_of_length_le (by omega)] at hk
  refine ⟨g a, by show d.K w (f (g a)) cs; rw [hfg]; exact hk, by show good (f (g a)); rw [hfg]; exact hg, by show bulk (f (g a)) + 1 ≤ _; rw [hfg]; simp only [Rows.uptoBulk]; omega⟩
end Go.Proofs.YthaimkdnddmokaaDoor
namespace Go.Proofs.YthaimkdnddmokaaDoor
open Go.RowKit Go.ChangeShapes Go.WideShapes Go.ChangeAt Go.Proofs.YthaimkdnddmokaaDoorW.PrintWords Go.Proofs.YthaimkdnddmokaaDoor.P
set_option linter.unusedVariables false
set_option linter.unusedSimpArgs false
theorem slice_none {H : Type} {P : Program} {t e : TypeId} {enc : TypeId × Value → H} {W : World} {b : Nat} {sp : Nat → Bool} {held : Bool} {A : Option Addr} {n c : Nat} {dd : DataW H} {ps : List MemPlace} (ht : P.underlying t = some (.slice e)) (h : DataW.Trod enc P W b sp held t (.slice A n c) dd ps) : A = none → c = 0 := by
  intro hA
  obtain ⟨fuel, hf⟩ := h
  have e0 : (Value.slice A n c).cells.toList = [Value.slice A n c] := rfl
  rcases DataW.trod_slice ht hf with ⟨h1, _⟩ | ⟨a, len, cap, elems, rest, m, _, h1, _⟩
  · rw [e0] at h1
    injection h1 with h1 _
    injection h1
  · rw [e0] at h1
    injection h1 with h1 _
    injection h1 with h1 _
    rw [hA] at h1
    cases h1
theorem op_resp : Opens Tryd.prog 36 (Kd.iso (Kd.pair (Kd.int .i64) (Kd.slice 5 (Kd.int .u8))) (fun x : Int × List Int => x)) (fun z => (Lit.int .i64 z.1).wf = true ∧ (z.2.length ≤ maxLen ∧ ∀ x ∈ z.2, (Lit.int .u8 x).wf = true)) (fun z => 1 + ((z.2.map fun _ => 1).sum + 1) + 1) :=
  opens_fields Tryd.underlying36 (by kernel_rfl) (ofs_cons rfl (by kernel_rfl) (opens_int Tryd.underlying29) (ofs_one rfl (by kernel_rfl) op_bytes)) (fun x : Int × List Int => x) (fun z => z) (fun _ => rfl)
set_option maxRecDepth 100000 in
theorem open_resp {H : Type} {enc : TypeId × Value → H} {W : World} {r : Reach} {b0 b : Nat} {sp : Nat → Bool} {held : Bool} {v : Value} {dd : DataW H} {ps : List MemPlace}
    (hval : Value.okWide Tryd.prog W r b0 36 v) (h : DataW.Trod enc Tryd.prog W b sp held 36 v dd ps) :
    ∃ en A c l, v = .agg #[.int .i64 en, .slice A l.length c] ∧ (Lit.int .i64 en).wf = true ∧ Kd.C (Kd.int .u8) W A l.length l ∧ l.length ≤ c ∧ (∀ x ∈ l, (Lit.int .u8 x).wf = true) ∧ l.length ≤ maxLen ∧ l.length + 3 ≤ Rows.uptoBulk dd := by
  obtain ⟨cs, rfl, hsz⟩ := okWide_struct Tryd.underlying36 hval
  obtain ⟨fuel, hf⟩ := h
  obtain ⟨⟨en, l⟩, hk, hg, hb⟩ := op_resp enc W b sp held fuel _ _ hf
  obtain ⟨xs, ys, e, k1, k2⟩ := hk
  have k1' : xs = [.int .i64 en] := k1
  obtain ⟨A, c, k2', hc, hC⟩ := k2
  have k2'' : ys = [.slice A l.length c] := k2'
  subst k1' k2''
  have e' : cs.toList = [.int .i64 en, .slice A l.length c] := e
  have hb' : 1 + ((l.map fun _ => 1).sum + 1) + 1 ≤ Rows.uptoBulk dd := hb
  rw [sum_ones] at hb'
  exact ⟨en, A, c, l, congrArg Value.agg (Array.toList_inj.1 e'), hg.1, hC, hc, hg.2.2, hg.2.1, by omega⟩
end Go.Proofs.YthaimkdnddmokaaDoor

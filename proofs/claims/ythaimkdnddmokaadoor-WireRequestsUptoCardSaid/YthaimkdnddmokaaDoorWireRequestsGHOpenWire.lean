/- what this claim needs of the words and the printed functions; conditions: as each statement says -/
import Derived.Test.YthaimkdnddmokaaDoorWireRequestsGHOpenLabel
namespace Go.Proofs.YthaimkdnddmokaaDoor
open Go.RowKit Go.ChangeShapes Go.WideShapes Go.ChangeAt Go.Proofs.YthaimkdnddmokaaDoorW.PrintWords Go.Proofs.YthaimkdnddmokaaDoor.P
set_option linter.unusedVariables false
/-- what is read of fields that lie from off on is a value of the kind d -/
def OpensFs {α : Type} (P : Program) (fs : List Field) (off : Nat) (d : Kd α) (good : α → Prop) (bulk : α → Nat) : Prop :=
  ∀ {H : Type} (enc : TypeId × Value → H) (w : World) (base : Nat) (sp : Nat → Bool) (held : Bool) (n : Nat) (cs : List Value) (ys : List (DataW H × List MemPlace)), ys.length = fs.length →
    (∀ (i : Nat) (f : Field), fs[i]? = some f → DataW.trod enc P w base sp held n f.type ((cs.drop f.offset).take (P.cellsOf f.type)) = ys[i]?) →
    ∃ a, d.K w a ((cs.drop off).take d.sz) ∧ good a ∧ bulk a ≤ Rows.uptoBulkAll (ys.map (·.1))
theorem ofs_one {α : Type} {P : Program} {f : Field} {off : Nat} {d : Kd α} {good : α → Prop} {bulk : α → Nat} (hoff : f.offset = off) (hc : P.cellsOf f.type = d.sz) (h : Opens P f.type d good bulk) : OpensFs P [f] off d good bulk := by
  intro H enc w base sp held n cs ys hl hf
  match ys, hl with
  | [y], _ =>
    have h0 := hf 0 f rfl
    rw [hoff, hc] at h0
    obtain ⟨a, hk, hg, hb⟩ := h enc w base sp held n _ _ (by simpa using h0)
    exact ⟨a, hk, hg, by simp only [List.map_cons, List.map_nil, Rows.uptoBulkAll]; omega⟩
theorem ofs_cons {α β : Type} {P : Program} {f : Field} {fs : List Field} {off : Nat} {a : Kd α} {b : Kd β} {ga : α → Prop} {gb : β → Prop} {ba : α → Nat} {bb : β → Nat} (hoff : f.offset = off) (hc : P.cellsOf f.type = a.sz)
    (h : Opens P f.type a ga ba) (ht : OpensFs P fs (off + a.sz) b gb bb) : OpensFs P (f :: fs) off (Kd.pair a b) (fun z => ga z.1 ∧ gb z.2) (fun z => ba z.1 + bb z.2) := by
  intro H enc w base sp held n cs ys hl hf
  match ys, hl with
  | y :: ys, hl =>
    have h0 := hf 0 f rfl
    rw [hoff, hc] at h0
    obtain ⟨p, hk, hg, hb⟩ := h enc w base sp held n _ _ (by simpa using h0)
    obtain ⟨q, hk2, hg2, hb2⟩ := ht enc w base sp held n cs ys (by simpa using hl) (fun i g hi => by have := hf (i + 1) g (by simpa using hi); simpa using this)
    refine ⟨(p, q), ⟨_, _, ?_, hk, hk2⟩, ⟨hg, hg2⟩, by simp only [List.map_cons, Rows.uptoBulkAll]; omega⟩
    show (cs.drop off).take (a.sz + b.sz) = _
    rw [List.take_add, List.drop_drop]
theorem opens_fields {α γ : Type} {P : Program} {t : TypeId} {fs : Array Field} {d : Kd α} {good : α → Prop} {bulk : α → Nat} (ht : P.underlying t = some (.struct fs)) (hc : P.cellsOf t = d.sz) (ho : OpensFs P fs.toList 0 d good bulk) (f : γ → α) (g : α → γ) (hfg : ∀ x, f (g x) = x) :
    Opens P t (Kd.iso d f) (fun z => good (f z)) (fun z => bulk (f z) + 1) := by
  intro H enc w base sp held fuel cs x h
  obtain ⟨xs, n, _, rfl, hl, hlen, hf⟩ := DataW.trod_struct ht h
  obtain ⟨a, hk, hg, hb⟩ := ho enc w base sp held n cs xs (by simpa using hlen) (fun i f hi => hf i f (by simpa using hi))
  rw [List.drop_zero, List.take_of_length_le (by omega)] at hk
  refine ⟨g a, by show d.K w (f (g a)) cs; rw [hfg]; exact hk, by show good (f (g a)); rw [hfg]; exact hg, by show bulk (f (g a)) + 1 ≤ _; rw [hfg]; simp only [Rows.uptoBulk]; omega⟩
end Go.Proofs.YthaimkdnddmokaaDoor
namespace Go.Proofs.YthaimkdnddmokaaDoor
open Go.RowKit Go.ChangeShapes Go.WideShapes Go.ChangeAt Go.Proofs.YthaimkdnddmokaaDoorW.PrintWords Go.Proofs.YthaimkdnddmokaaDoor.P
set_option linter.unusedVariables false
set_option linter.unusedSimpArgs false
theorem op_req : Opens Tryd.prog 28 (Kd.iso (Kd.pair (Kd.int .i64) (Kd.pair (Kd.iso (Kd.pair (Kd.int .i64) (Kd.int .u64)) (fun x : Int × Int => x)) (Kd.pair Kd.string (Kd.pair (Kd.int .i64) (Kd.pair (Kd.int .i64) (Kd.pair (Kd.int .i64) (Kd.slice 5 (Kd.int .u8)))))))) (fun x : Int × (Int × Int) × ByteArray × Int × Int × Int × List Int => x))
    (fun z => (Lit.int .i64 z.1).wf = true ∧ ((Lit.int .i64 z.2.1.1).wf = true ∧ (Lit.int .u64 z.2.1.2).wf = true) ∧ z.2.2.1.size ≤ maxLen ∧ (Lit.int .i64 z.2.2.2.1).wf = true ∧ (Lit.int .i64 z.2.2.2.2.1).wf = true ∧ (Lit.int .i64 z.2.2.2.2.2.1).wf = true ∧ (z.2.2.2.2.2.2.length ≤ maxLen ∧ ∀ x ∈ z.2.2.2.2.2.2, (Lit.int .u8 x).wf = true))
    (fun z => 1 + ((1 + 1 + 1) + ((z.2.2.1.size + 1) + (1 + (1 + (1 + ((z.2.2.2.2.2.2.map fun _ => 1).sum + 1)))))) + 1) :=
  opens_fields Tryd.underlying28 (by kernel_rfl) (ofs_cons rfl (by kernel_rfl) (opens_int Tryd.underlying23) (ofs_cons rfl (by kernel_rfl) op_label (ofs_cons rfl (by kernel_rfl) (opens_string Tryd.underlying9) (ofs_cons rfl (by kernel_rfl) (opens_int Tryd.underlying3) (ofs_cons rfl (by kernel_rfl) (opens_int Tryd.underlying3) (ofs_cons rfl (by kernel_rfl) (opens_int Tryd.underlying3) (ofs_one rfl (by kernel_rfl) op_bytes)))))))
    (fun x : Int × (Int × Int) × ByteArray × Int × Int × Int × List Int => x) (fun z => z) (fun _ => rfl)
set_option maxRecDepth 100000 in
theorem open_req {H : Type} {enc : TypeId × Value → H} {W : World} {r : Reach} {b0 b : Nat} {sp : Nat → Bool} {held : Bool} {v : Value} {dd : DataW H} {ps : List MemPlace}
    (hval : Value.okWide Tryd.prog W r b0 28 v) (h : DataW.Trod enc Tryd.prog W b sp held 28 v dd ps) :
    ∃ vb lv cat f x y z A c l, v = .agg #[.int .i64 vb, .int .i64 lv, .int .u64 cat, .string f, .int .i64 x, .int .i64 y, .int .i64 z, .slice A l.length c] ∧ (Lit.int .u64 cat).wf = true ∧ f.size ≤ maxLen ∧ Kd.C (Kd.int .u8) W A l.length l ∧ l.length ≤ c ∧ (∀ x ∈ l, (Lit.int .u8 x).wf = true) ∧ l.length ≤ maxLen ∧ l.length + f.size + 4 ≤ Rows.uptoBulk dd := by
  obtain ⟨cs, rfl, hsz⟩ := okWide_struct Tryd.underlying28 hval
  obtain ⟨fuel, hf⟩ := h
  obtain ⟨⟨vb, ⟨lv, cat⟩, f, x, y, z, l⟩, hk, hg, hb⟩ := op_req enc W b sp held fuel _ _ hf
  obtain ⟨c1, d1, e1, k1, m1⟩ := hk
  obtain ⟨c2, d2, e2, k2, m2⟩ := m1
  obtain ⟨c3, d3, e3, k3, m3⟩ := m2
  obtain ⟨c4, d4, e4, k4, m4⟩ := m3
  obtain ⟨c5, d5, e5, k5, m5⟩ := m4
  obtain ⟨c6, d6, e6, k6, m6⟩ := m5
  obtain ⟨A, c, m7, hc, hC⟩ := m6
  obtain ⟨p1, p2, ep, kp, kq⟩ := k2
  have q1 : c1 = [.int .i64 vb] := k1
  have q2 : p1 = [.int .i64 lv] := kp
  have q3 : p2 = [.int .u64 cat] := kq
  have q4 : c3 = [.string f] := k3
  have q5 : c4 = [.int .i64 x] := k4
  have q6 : c5 = [.int .i64 y] := k5
  have q7 : c6 = [.int .i64 z] := k6
  have q8 : d6 = [.slice A l.length c] := m7
  have ep' : c2 = p1 ++ p2 := ep
  subst q1 q2 q3 q4 q5 q6 q7 q8 ep'
  have e' : cs.toList = [.int .i64 vb, .int .i64 lv, .int .u64 cat, .string f, .int .i64 x, .int .i64 y, .int .i64 z, .slice A l.length c] := by
    have h0 : cs.toList = [.int .i64 vb] ++ d1 := e1
    rw [h0, e2, e3, e4, e5, e6]
    rfl
  have hb' : 1 + ((1 + 1 + 1) + ((f.size + 1) + (1 + (1 + (1 + ((l.map fun _ => 1).sum + 1)))))) + 1 ≤ Rows.uptoBulk dd := hb
  rw [sum_ones] at hb'
  exact ⟨vb, lv, cat, f, x, y, z, A, c, l, congrArg Value.agg (Array.toList_inj.1 e'), hg.2.1.2, hg.2.2.1, hC, hc, hg.2.2.2.2.2.2.2, hg.2.2.2.2.2.2.1, by omega⟩
end Go.Proofs.YthaimkdnddmokaaDoor

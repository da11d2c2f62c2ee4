/- what this claim needs of the words and the printed functions; conditions: as each statement says -/
import Derived.Test.YthaimkdnddmokaaDoorWireParsesGHTabs
import Derived.Test.YthaimkdnddmokaaDoorRows
import Derived.WalkKit
import Derived.ProofKit
import Derived.OpenShut
import Derived.Lib.LaidTab
import Derived.MakeChecks
namespace Go.Proofs.YthaimkdnddmokaaDoor
open Go.RowKit Go.ChangeShapes Go.WideShapes Go.ChangeAt Go.Proofs.YthaimkdnddmokaaDoorW.PrintWords Go.Proofs.YthaimkdnddmokaaDoor.P
set_option linter.unusedVariables false
theorem bulk_one_le {H : Type} (d : DataW H) : 1 ≤ Rows.uptoBulk d := by
  cases d with
  | lit l => cases l <;> simp [Rows.uptoBulk]
  | nil => simp [Rows.uptoBulk]
  | ptr d => simp [Rows.uptoBulk]
  | slice elems spare => simp [Rows.uptoBulk]
  | agg parts => simp [Rows.uptoBulk]
  | iface t d => simp [Rows.uptoBulk]
  | map entries => simp [Rows.uptoBulk]
  | held h => simp [Rows.uptoBulk]
theorem bulk_bound {H : Type} {l : List (DataW H)} (hk : Rows.uptoSmall H l = true) : Rows.uptoBulkAll l ≤ 1048576 := by
  unfold Rows.uptoSmall at hk
  exact of_decide_eq_true hk
/-- what is read of type t is a value of the kind d -/
def Opens {α : Type} (P : Program) (t : TypeId) (d : Kd α) (good : α → Prop) (bulk : α → Nat) : Prop :=
  ∀ {H : Type} (enc : TypeId × Value → H) (w : World) (base : Nat) (sp : Nat → Bool) (held : Bool) (fuel : Nat) (cs : List Value) (x : DataW H × List MemPlace),
    DataW.trod enc P w base sp held fuel t cs = some x → ∃ a, d.K w a cs ∧ good a ∧ bulk a ≤ Rows.uptoBulk x.1
theorem opens_int {P : Program} {t : TypeId} {k : IntKind} (ht : P.underlying t = some (.int k)) : Opens P t (Kd.int k) (fun n => (Lit.int k n).wf = true) (fun _ => 1) := by
  intro H enc w base sp held fuel cs x h
  obtain ⟨n, rfl, rfl, hw⟩ := DataW.trod_int ht h
  exact ⟨n, rfl, hw, bulk_one_le _⟩
theorem add_add (a : Addr) (m i : Nat) : (a.add m).add i = a.add (m + i) := by
  unfold Addr.add
  by_cases hi : i = 0
  · subst hi; simp
  · by_cases hm : m = 0
    · subst hm; simp [hi]
    · simp [hi, hm, Nat.add_assoc]
theorem mapM_gets {α β : Type} (f : α → Option β) : ∀ (l : List α) (r : List β), l.mapM f = some r → r.length = l.length ∧ ∀ (i : Nat) (x : α), l[i]? = some x → f x = r[i]?
  | [], r, h => by
    simp at h; subst h; exact ⟨rfl, fun i x hx => by simp at hx⟩
  | y :: l, r, h => by
    rw [List.mapM_cons] at h
    cases hy : f y with
    | none => rw [hy] at h; cases h
    | some b =>
      rw [hy] at h
      cases hr : l.mapM f with
      | none => rw [hr] at h; cases h
      | some r' =>
        rw [hr] at h
        have e : b :: r' = r := Option.some.inj h
        subst e
        obtain ⟨h1, h2⟩ := mapM_gets f l r' hr
        refine ⟨by simp [h1], fun i x hx => ?_⟩
        cases i with
        | zero => simp at hx; subst hx; simpa using hy
        | succ i => simp at hx ⊢; exact h2 i x hx
theorem cells_get {w : World} {base : Nat} {a : Addr} {n : Nat} {cs : List Value} (h : w.cells? base a n = some cs) : cs.length = n ∧ ∀ (i : Nat) (u : Value), cs[i]? = some u → w.cell? (a.add i) = some u := by
  unfold World.cells? at h
  split at h
  case isFalse => cases h
  obtain ⟨h1, h2⟩ := mapM_gets _ _ _ h
  have hl : cs.length = n := by simpa using h1
  refine ⟨hl, fun i u hu => ?_⟩
  have hi : i < n := by rw [← hl]; exact (List.getElem?_eq_some_iff.1 hu).1
  rw [h2 i i (by simp [hi]), hu]
theorem sum_le {α H : Type} (bulk : α → Nat) : ∀ (l : List α) (ys : List (DataW H)), l.length = ys.length → (∀ (i : Nat) (a : α) (y : DataW H), l[i]? = some a → ys[i]? = some y → bulk a ≤ Rows.uptoBulk y) → (l.map bulk).sum ≤ Rows.uptoBulkAll ys
  | [], ys, _, _ => by simp
  | a :: l, [], h, _ => by simp at h
  | a :: l, y :: ys, h, hb => by
    have h0 := hb 0 a y rfl rfl
    have h1 := sum_le bulk l ys (by simpa using h) (fun i a' y' ha hy => hb (i + 1) a' y' (by simpa using ha) (by simpa using hy))
    simp only [List.map_cons, List.sum_cons, Rows.uptoBulkAll]
    omega
theorem opens_slice {α : Type} {P : Program} {t e : TypeId} {d : Kd α} {good : α → Prop} {bulk : α → Nat} (ht : P.underlying t = some (.slice e)) (hc : P.cellsOf e = d.sz) (ho : Opens P e d good bulk) :
    Opens P t (Kd.slice e d) (fun l => l.length ≤ maxLen ∧ ∀ x ∈ l, good x) (fun l => (l.map bulk).sum + 1) := by
  intro H enc w base sp held fuel cs x h
  rcases DataW.trod_slice ht h with ⟨rfl, rfl⟩ | ⟨a, len, cap, elems, rest, n, _, rfl, rfl, hb, hl, hm, hlen, hel, hsp, hns⟩
  · exact ⟨[], ⟨none, 0, rfl, Nat.le_refl _, Kd.C_nil _ _⟩, ⟨by simp, fun x hx => by cases hx⟩, by simp [Rows.uptoBulk]⟩
  · have each : ∀ i : Fin len, ∃ p : α, (∃ c, c.length = d.sz ∧ d.K w p c ∧ ∀ (j : Nat) (u : Value), c[j]? = some u → w.cell? (a.add (i.1 * d.sz + j)) = some u) ∧ good p ∧ ∀ y, (elems.map (·.1))[i.1]? = some y → bulk p ≤ Rows.uptoBulk y := by
      intro i
      have hi := hel i.1 i.2
      rw [hc] at hi
      have hlt : i.1 < elems.length := by rw [hlen]; exact i.2
      rw [List.getElem?_eq_getElem hlt] at hi
      cases hcell : w.cells? base (a.add (i.1 * d.sz)) d.sz with
      | none => rw [hcell] at hi; cases hi
      | some c =>
        rw [hcell] at hi
        obtain ⟨p, h1, h2, h3⟩ := ho enc w base sp held n c _ hi
        obtain ⟨g1, g2⟩ := cells_get hcell
        refine ⟨p, ⟨c, g1, h1, fun j u hu => by rw [← add_add]; exact g2 j u hu⟩, h2, fun y hy => ?_⟩
        rw [List.getElem?_map, List.getElem?_eq_getElem hlt] at hy
        simp at hy
        subst hy
        exact h3
    have hget : ∀ (j : Nat) (p : α), (List.ofFn fun i : Fin len => Classical.choose (each i))[j]? = some p → ∃ i : Fin len, i.1 = j ∧ p = Classical.choose (each i) := by
      intro j p hp
      obtain ⟨hj, e⟩ := List.getElem?_eq_some_iff.1 hp
      simp at hj
      exact ⟨⟨j, hj⟩, rfl, by rw [← e]; simp⟩
    refine ⟨List.ofFn fun i : Fin len => Classical.choose (each i), ⟨some a, cap, by simp, by simpa using hl, by simp, ?_, fun _ => ⟨a, rfl, fun j p hp => ?_⟩⟩, ⟨by simp; unfold maxLen at *; omega, fun p hp => ?_⟩, ?_⟩
    · simp; unfold maxLen at hm; omega
    · obtain ⟨i, rfl, rfl⟩ := hget j p hp
      exact (Classical.choose_spec (each i)).1
    · obtain ⟨j, hj⟩ := List.getElem?_of_mem hp
      obtain ⟨i, rfl, rfl⟩ := hget j p hj
      exact (Classical.choose_spec (each i)).2.1
    · have := sum_le bulk (List.ofFn fun i : Fin len => Classical.choose (each i)) (elems.map (·.1)) (by simp [hlen]) (fun j p y hp hy => by
        obtain ⟨i, rfl, rfl⟩ := hget j p hp
        exact (Classical.choose_spec (each i)).2.2 y hy)
      simp only [Rows.uptoBulk]
      omega
/-- a slice that came in -/
theorem open_slice {α H : Type} {P : Program} {t e : TypeId} {d : Kd α} {good : List α → Prop} {bulk : List α → Nat} {enc : TypeId × Value → H} {W : World} {r : Reach} {b0 b : Nat} {sp : Nat → Bool} {held : Bool} {v : Value} {dd : DataW H} {ps : List MemPlace}
    (ht : P.underlying t = some (.slice e)) (ho : Opens P t (Kd.slice e d) good bulk) (hval : Value.okWide P W r b0 t v) (h : DataW.Trod enc P W b sp held t v dd ps) :
    ∃ A c l, v = .slice A l.length c ∧ Kd.C d W A l.length l ∧ l.length ≤ c ∧ good l ∧ bulk l ≤ Rows.uptoBulk dd := by
  obtain ⟨a, len, cap, rfl⟩ := okWide_slice ht hval
  obtain ⟨fuel, hf⟩ := h
  obtain ⟨l, ⟨A, c, e, hc, hC⟩, hg, hb⟩ := ho enc W b sp held fuel _ _ hf
  have e' : Value.slice a len cap = Value.slice A l.length c := by
    have : (Value.slice a len cap).cells.toList = [Value.slice a len cap] := rfl
    rw [this] at e
    exact (List.cons.inj e).1
  exact ⟨A, c, l, e', hC, hc, hg, hb⟩
/-! ### this program's types -/
theorem op_bytes : Opens Tryd.prog 22 (Kd.slice 5 (Kd.int .u8)) (fun l => l.length ≤ maxLen ∧ ∀ x ∈ l, (Lit.int .u8 x).wf = true) (fun l => (l.map fun _ => 1).sum + 1) := opens_slice Tryd.underlying22 (by kernel_rfl) (opens_int Tryd.underlying5)
theorem sum_ones {α : Type} (l : List α) : (l.map fun _ => 1).sum = l.length := by
  induction l with
  | nil => rfl
  | cons x l ih => simp [ih]; omega
end Go.Proofs.YthaimkdnddmokaaDoor
namespace Go.Proofs.YthaimkdnddmokaaDoor
open Go.RowKit Go.ChangeShapes Go.WideShapes Go.ChangeAt Go.Proofs.YthaimkdnddmokaaDoorW.PrintWords Go.Proofs.YthaimkdnddmokaaDoor.P
set_option linter.unusedVariables false
set_option linter.unusedSimpArgs false
theorem tabs_of_laid {W : World} {rest : List (String × DataW Unit)} (h : laidMet Tryd.prog (("math/bits.deBruijn64tab", Rows.laid_math_bits_deBruijn64tab) :: rest) W)
  (asc : ∀ c, c < 256 → W.cell? ⟨1, c, none⟩ = some (.int .u8 (if Lib.isSp (UInt8.ofNat c) then 1 else 0)))
    : Tabs W := by
  have ht : Lib.TabIs Tryd.prog W "math/bits.deBruijn64tab" .u8 (Lib.deBruijn64tab.map Int.ofNat) := Lib.tabIs_of_head (g := 3) (t := 113) (e := 5) (n := 64) (by kernel_rfl) (by kernel_rfl) (by kernel_rfl) (by kernel_rfl) (by kernel_rfl) (by kernel_rfl) (show laidMet Tryd.prog (("math/bits.deBruijn64tab", Lib.tabData .u8 (Lib.deBruijn64tab.map Int.ofNat)) :: rest) W from h)
  refine ⟨fun j hj => ?_
  , asc
    ⟩
  have := ht.cell (g := 3) (by kernel_rfl) j (by rw [List.length_map]; exact hj)
  rw [this]
  simp [List.getD_eq_getElem?_getD, List.getElem?_map]
  cases Lib.deBruijn64tab[j]? <;> rfl
end Go.Proofs.YthaimkdnddmokaaDoor

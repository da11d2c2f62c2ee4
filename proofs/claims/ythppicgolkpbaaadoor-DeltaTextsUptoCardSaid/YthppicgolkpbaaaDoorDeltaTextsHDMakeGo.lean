/- how the older list comes from the newer one, as a plain function of lists -/
import Derived.Test.YthppicgolkpbaaaDoorDeltaTextsGHDLeft
import Derived.Test.YthppicgolkpbaaaDoorDeltaTextsHDMakerIn
namespace Go.Proofs.YthppicgolkpbaaaDoor.P
open Go.RowKit Go.Proofs.YthppicgolkpbaaaDoorW.PrintWords Go.Proofs.YthppicgolkpbaaaDoorW.PrintLast Go.Proofs.YthppicgolkpbaaaDoorW.PrintMore
set_option linter.unusedVariables false
set_option linter.unusedSimpArgs false
def mkGo : Nat → Int → List S41 → List S41 → Int → List S27 → List S27
  | 0, _, _, _, _, ps => ps
  | _ + 1, _, [], [], _, ps => ps
  | k + 1, i, [], y :: os, s, ps => mkGo k i [] os 3 (inP ps s y)
  | k + 1, i, _ :: ns, [], _, ps => mkGo k (i + 1) ns [] 2 ps
  | k + 1, i, x :: ns, y :: os, s, ps => if eqIt x y = true then mkGo k (i + 1) ns os 1 (keepP ps s i) else if cntIt (x :: ns) y = 0 then mkGo k i (x :: ns) os 3 (inP ps s y) else mkGo k (i + 1) ns (y :: os) 2 ps
def makeOf (newer older : List S41) : List S27 := mkGo (newer.length + older.length) 0 newer older 0 []
theorem it_drop (l : List S41) (i : Nat) (h : i < l.length) : l.drop i = rd_T41 l (i : Int) :: l.drop (i + 1) := by
  rw [List.drop_eq_getElem_cons h]
  have := it_at l i h
  rw [List.getElem?_eq_getElem h] at this
  rw [Option.some.inj this]
theorem cnt_drop (l : List S41) (i : Nat) (h : i < l.length) : (fun y => if eqIt y (rd_T41 l (i : Int)) = true then cntIt (l.drop i) (rd_T41 l (i : Int)) - 1 else cntIt (l.drop i) y) = cntIt (l.drop (i + 1)) := by
  rw [it_drop l i h]
  generalize rd_T41 l (i : Int) = x
  funext y
  unfold cntIt
  by_cases e : eqIt y x = true
  · rw [if_pos e, (eqIt_iff _ _).1 e]
    have : eqIt x x = true := (eqIt_iff _ _).2 rfl
    simp [this]
  · rw [if_neg e]
    have : eqIt y x = false := by simpa using e
    simp [this]
theorem cnt_bd (l : List S41) (i : Nat) (x : S41) : 0 ≤ cntIt (l.drop i) x ∧ cntIt (l.drop i) x ≤ l.length := by
  unfold cntIt
  have := List.length_filter_le (eqIt x) (l.drop i)
  have h2 : (l.drop i).length = l.length - i := List.length_drop
  omega
def partsFit (ps : List S27) (n : Nat) : Prop := ps.length ≤ n ∧ ∀ p ∈ ps, 0 ≤ p.f1 ∧ p.f1 ≤ n ∧ p.f2.length ≤ n
def lastFit (s : Int) (ps : List S27) : Prop := s = 1 ∨ s = 3 → ps ≠ []
theorem parts_last {ps : List S27} (h : ps ≠ []) : ∃ qs q, ps = qs ++ [q] := ⟨ps.dropLast, ps.getLast h, (List.dropLast_concat_getLast h).symm⟩
theorem keepP_snoc (qs : List S27) (q : S27) (i : Int) : keepP (qs ++ [q]) 1 i = qs ++ [⟨q.f0, q.f1 + 1, q.f2⟩] := by simp [keepP]
theorem inP_snoc (qs : List S27) (q : S27) (x : S41) : inP (qs ++ [q]) 3 x = qs ++ [⟨q.f0, q.f1, q.f2 ++ [x]⟩] := by simp [inP]
theorem keepP_fit {ps : List S27} {n : Nat} {s i : Int} (h : partsFit ps n) (hs : lastFit s ps) : partsFit (keepP ps s i) (n + 1) ∧ lastFit 1 (keepP ps s i) := by
  by_cases e : s = 1
  · subst e
    obtain ⟨qs, q, rfl⟩ := parts_last (hs (.inl rfl))
    rw [keepP_snoc]
    refine ⟨⟨by have := h.1; simp at this ⊢; omega, fun p hp => ?_⟩, fun _ => by simp⟩
    rcases List.mem_append.1 hp with hp | hp
    · have := h.2 p (by simp [hp]); omega
    · have := h.2 q (by simp)
      rw [List.mem_singleton.1 hp]
      simp only
      omega
  · unfold keepP
    rw [if_neg e]
    refine ⟨⟨by have := h.1; simp; omega, fun p hp => ?_⟩, fun _ => by simp⟩
    rcases List.mem_append.1 hp with hp | hp
    · have := h.2 p hp; omega
    · rw [List.mem_singleton.1 hp]
      simp only [List.length_nil]
      omega
theorem inP_fit {ps : List S27} {n : Nat} {s : Int} {x : S41} (h : partsFit ps n) (hs : lastFit s ps) : partsFit (inP ps s x) (n + 1) ∧ lastFit 3 (inP ps s x) := by
  by_cases e : s = 3
  · subst e
    obtain ⟨qs, q, rfl⟩ := parts_last (hs (.inr rfl))
    rw [inP_snoc]
    refine ⟨⟨by have := h.1; simp at this ⊢; omega, fun p hp => ?_⟩, fun _ => by simp⟩
    rcases List.mem_append.1 hp with hp | hp
    · have := h.2 p (by simp [hp]); omega
    · have := h.2 q (by simp)
      rw [List.mem_singleton.1 hp]
      simp only [List.length_append, List.length_cons, List.length_nil]
      omega
  · unfold inP
    rw [if_neg e]
    refine ⟨⟨by have := h.1; simp; omega, fun p hp => ?_⟩, fun _ => by simp⟩
    rcases List.mem_append.1 hp with hp | hp
    · have := h.2 p hp; omega
    · rw [List.mem_singleton.1 hp]
      simp only [List.length_cons, List.length_nil]
      omega
theorem keep_calls (W : World) (B g : Nat) (ps : List S27) (s i : Int) (n : Nat) (hn : n ≤ 900000) (hM : Maker W B g ps s) (hf : partsFit ps n) (hs : lastFit s ps) (hBW : B ≤ W.heap.size) :
    Calls Tryd.prog 24 #[.pointer (some ⟨g, 0, none⟩), .int .i64 i] W (KeepPost B g W (keepP ps s i) 1) := by
  by_cases e : s = 1
  · subst e
    obtain ⟨qs, q, rfl⟩ := parts_last (hs (.inl rfl))
    rw [keepP_snoc]
    have h1 := hf.1
    have h2 := hf.2 q (by simp)
    rw [List.length_append] at h1
    exact keep_more W B g qs q i hM (by omega) (by omega) (by omega) hBW
  · have := keep_new W B g ps s i hM e (by have := hf.1; omega) hBW
    unfold keepP
    rw [if_neg e]
    exact this
theorem in_calls (W : World) (B g : Nat) (ps : List S27) (s : Int) (x : S41) (n : Nat) (hn : n ≤ 900000) (hM : Maker W B g ps s) (hf : partsFit ps n) (hs : lastFit s ps) (hBW : B ≤ W.heap.size) :
    Calls Tryd.prog 25 #[.pointer (some ⟨g, 0, none⟩), .agg #[.int .i64 x.f0, .int .i64 x.f1.f0, .int .u64 x.f1.f1, .bool x.f2, .string x.f3.f0, .bool x.f3.f1]] W (KeepPost B g W (inP ps s x) 3) := by
  by_cases e : s = 3
  · subst e
    obtain ⟨qs, q, rfl⟩ := parts_last (hs (.inr rfl))
    rw [inP_snoc]
    have h1 := hf.1
    have h2 := hf.2 q (by simp)
    rw [List.length_append] at h1
    exact in_more W B g qs q x hM (by omega) (by omega) hBW
  · have := in_new W B g ps s x hM e (by have := hf.1; omega) hBW
    unfold inP
    rw [if_neg e]
    exact this
theorem CntMap.keptMaps {W W' : World} {b n : Nat} {f : S41 → Int} (h : CntMap W b n f) (hk : keptMaps W W') : CntMap W' b n f := by
  obtain ⟨D, ⟨es, c, hb, r⟩, hf⟩ := h
  exact ⟨D, ⟨es, c, hk _ _ _ hb, r⟩, hf⟩
theorem CntMap.mono {W : World} {b n n' : Nat} {f : S41 → Int} (h : CntMap W b n f) (hn : n ≤ n') : CntMap W b n' f := by
  obtain ⟨D, ho, hf⟩ := h
  exact ⟨D, ho.mono hn, hf⟩
theorem CntMap.block {W : World} {b n : Nat} {f : S41 → Int} (h : CntMap W b n f) : ∃ es c, W.heap[b]? = some (.map es c) := by
  obtain ⟨D, ⟨es, c, hb, r⟩, hf⟩ := h
  exact ⟨es, c, hb⟩
theorem Maker.setLast {W : World} {B g : Nat} {ps : List S27} {s : Int} (h : Maker W B g ps s) (s' : Int) : Maker (W.setCell ⟨g, 1, none⟩ (.int .i64 s')) B g ps s' ∧ keptMaps W (W.setCell ⟨g, 1, none⟩ (.int .i64 s')) ∧ W.cell? ⟨g, 1, none⟩ = some (.int .i64 s) ∧ W.frozen? ⟨g, 1, none⟩ = false ∧ B ≤ g := by
  obtain ⟨v, hB, hg, hp⟩ := h
  refine ⟨⟨v, hB, ?_, hp.set hg (by decide)⟩, keptMaps.set hg _ _, (blk_cell hg 1).trans rfl, blk_frozen hg 1, hB⟩
  have := blk_set hg 1 (.int .i64 s')
  have e : (#[v, Value.int .i64 s].setIfInBounds 1 (.int .i64 s')) = #[v, .int .i64 s'] := by simp
  rw [e] at this
  exact this
theorem not_eq_fields {x y : S41} (h : ¬ eqIt x y = true) : (x.f0 == y.f0 && ((x.f1.f0 == y.f1.f0 && (x.f1.f1 == y.f1.f1)) && (x.f2 == y.f2 && ((x.f3.f0.toList == y.f3.f0.toList && (x.f3.f1 == y.f3.f1)))))) = false := by
  unfold eqIt at h
  simpa using h
def CellsAt (W : World) (p : Addr) (x : S41) : Prop := W.cell? p = some (.int .i64 x.f0) ∧ W.cell? ⟨p.block, p.off + 1, none⟩ = some (.int .i64 x.f1.f0) ∧ W.cell? ⟨p.block, p.off + 2, none⟩ = some (.int .u64 x.f1.f1) ∧ W.cell? ⟨p.block, p.off + 3, none⟩ = some (.bool x.f2) ∧ W.cell? ⟨p.block, p.off + 4, none⟩ = some (.string x.f3.f0) ∧ W.cell? ⟨p.block, p.off + 5, none⟩ = some (.bool x.f3.f1)
theorem CellsAt.below {w W : World} {p : Addr} {x : S41} (h : CellsAt w p x) (hb : Below w.heap.size w W) : CellsAt W p x :=
  ⟨pw_cell_below hb h.1, pw_cell_below hb h.2.1, pw_cell_below hb h.2.2.1, pw_cell_below hb h.2.2.2.1, pw_cell_below hb h.2.2.2.2.1, pw_cell_below hb h.2.2.2.2.2⟩
theorem cells_at {w : World} {A : Option Addr} {n : Nat} {l : List S41} (h : Kd.C k41 w A n l) (i : Nat) (hi : i < n) : ∃ ad, A = some ad ∧ CellsAt w (ad.add (i * 6)) (rd_T41 l (i : Int)) := by
  obtain ⟨ad, e, r⟩ := at_T41 h (i : Int) (by omega) (by omega)
  rw [Int.toNat_natCast] at r
  exact ⟨ad, e, r⟩
end Go.Proofs.YthppicgolkpbaaaDoor.P

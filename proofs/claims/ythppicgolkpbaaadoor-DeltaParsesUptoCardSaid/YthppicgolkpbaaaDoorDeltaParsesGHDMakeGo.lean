/- what this claim needs of the words and the printed functions; conditions: as each statement says -/
import Derived.Test.YthppicgolkpbaaaDoorDeltaParsesHDMaker
import Derived.Test.YthppicgolkpbaaaDoorDeltaParsesGHDLeft
namespace Go.Proofs.YthppicgolkpbaaaDoor.P
open Go.RowKit Go.Proofs.YthppicgolkpbaaaDoorW.PrintWords Go.Proofs.YthppicgolkpbaaaDoorW.PrintLast Go.Proofs.YthppicgolkpbaaaDoorW.PrintMore
set_option linter.unusedVariables false
set_option linter.unusedSimpArgs false
theorem six_two (v s a b : Value) : (#[v, s].setIfInBounds 0 a).setIfInBounds 1 b = #[a, b] := by simp
theorem three_one (a b : Int) : ∀ u ∈ [Value.int .i64 a, Value.int .i64 b, Value.slice none 0 0], u.oneCell' = true := by
 intro u hu
 rcases List.mem_cons.1 hu with rfl | hu
 ·
  rfl
 rcases List.mem_cons.1 hu with rfl | hu
 ·
  rfl
 rcases List.mem_cons.1 hu with rfl | hu
 ·
  rfl
 cases hu
set_option maxHeartbeats 8000000 in
set_option maxRecDepth 100000 in
theorem in_new (W : World) (B g : Nat) (ps : List S27) (s : Int) (x : S41) (hM : Maker W B g ps s) (hs : ¬ s = 3) (hl : ps.length ≤ 1000000) (hBW : B ≤ W.heap.size) :
  Calls Tryd.prog 25 #[.pointer (some ⟨g, 0, none⟩), .agg #[.int .i64 x.f0, .int .i64 x.f1.f0, .int .u64 x.f1.f1, .bool x.f2, .string x.f3.f0, .bool x.f3.f1]] W (KeepPost B g W (ps ++ [⟨0, 0, [x]⟩]) 3) := by
 obtain ⟨v, hBg, hg, hp⟩ := hM
 have HG := Lib.hid hg
 have hglt := blk_lt hg
 have m0 : W.cell? ⟨g, 0, none⟩ = some v := (blk_cell hg 0).trans rfl
 have m1 : W.cell? ⟨g, 1, none⟩ = some (.int .i64 s) := (blk_cell hg 1).trans rfl
 have hs1 : (s != 3) = true := by simpa using hs
 have mixed : Tryd.prog.follows Departure.mixedOrders = true := by kernel_rfl
 have hbytes0 : (ps.length + 1) * 40 ≤ 140737488355328 := by omega
 obtain ⟨xs, ho, hr⟩ := hp.own
 obtain ⟨A0, c0, rfl⟩ := own_slice ho
 have HNE := Lib.hid (own_ne ho hg (by decide))
 have HO := Lib.hid ho
 have HR := Lib.hid hr
 have HBX := Lib.hid (below_alloc (Below.refl W.heap.size W) (.cells (itemCells x) 41 (0, 0)))
 have HXX := Lib.hid (blk_new W (.cells (itemCells x) 41 (0, 0)))
 have HKX := Lib.hid (keptMaps.alloc W (.cells (itemCells x) 41 (0, 0)))
 unfold itemCells at HBX HXX HKX
 have T1 := Lib.hid (pw_own_below HO.out HBX.out)
 have T2 := Lib.hid (HBX.out.mono hBW)
 have T3 := Lib.hid (Nat.le_trans hBW HBX.out.size)
 have T4 := Lib.hid (hr.imp_ (fun _ _ hm => Kd.M_step hm (fun k _ hk => HBX.out.block k hk)))
 clear hg hp hs ho hr
 go_enter Tryd.func25, Tryd.ntmps25
 go_wp2_with (at_builtin; go_loud (refine print_append_cells (w0 := W) (W := W.alloc (.cells #[.int .i64 x.f0, .int .i64 x.f1.f0, .int .u64 x.f1.f1, .bool x.f2, .string x.f3.f0, .bool x.f3.f1] 41 (0, 0))) B rfl (.tmp 15) (.tmp 17) 24 27 _ 3 _ rfl Tryd.underlying24 info27 rfl (by decide) (by decide) (.slice A0 ps.length c0) ps.length xs [.int .i64 0, .int .i64 0, .slice none 0 0] rfl ?hx rfl (three_one 0 0) T1.out T2.out T3.out hbytes0 ?_); (case hx => go_loud (go_simp)); go_loud (intro v1 w1 ho1 hb1 hg1 hat1; obtain ⟨A1, c1, rfl⟩ := own_slice ho1; obtain ⟨gv, cap, _, _, he1, _⟩ := (PartsRow.snoc 0 0 T4.out ho1 hg1 hat1).last; (injection he1 with he1 _ he2; subst he1 he2); have HG1 := Lib.hid (blk_grown (blk_below HG.out HBX.out) hg1 HNE.out); have HX1 := Lib.hid (blk_grown HXX.out hg1 (own_ne (pw_own_below HO.out HBX.out) HXX.out (by decide))); have HP1 := Lib.hid (PartsRow.snoc 0 0 T4.out ho1 hg1 hat1); have n0 : w1.cell? ⟨g, 0, none⟩ = some (.slice A0 ps.length c0) := (blk_cell HG1.out 0).trans rfl; have n1 : w1.cell? ⟨g, 1, none⟩ = some (.int .i64 s) := (blk_cell HG1.out 1).trans rfl; have z0 := blk_frozen HG1.out 0; have z1 := blk_frozen HG1.out 1; have HB1 := Lib.hid hb1; have HK1 := Lib.hid (HKX.out.trans (keptMaps.grown (pw_own_below HO.out HBX.out) hg1)); clear ho1 hb1 hg1 hat1))
 have HG3 := Lib.hid (blk_set (blk_set HG1.out 0 (.slice (some ⟨gv, 0, none⟩) (ps.length + 1) c1)) 1 (.int .i64 3))
 have HX3 := Lib.hid (blk_far (blk_far HX1.out (p := ⟨g, 0, none⟩) (Nat.ne_of_gt hglt) (.slice (some ⟨gv, 0, none⟩) (ps.length + 1) c1)) (p := ⟨g, 1, none⟩) (Nat.ne_of_gt hglt) (.int .i64 3))
 have HP3 := Lib.hid ((HP1.out.set HG1.out (i := 0) (u := .slice (some ⟨gv, 0, none⟩) (ps.length + 1) c1) (by decide)).set (blk_set HG1.out 0 _) (i := 1) (u := .int .i64 3) (by decide))
 have HB3 := Lib.hid ((HB1.out.setCell (p := ⟨g, 0, none⟩) hBg (.slice (some ⟨gv, 0, none⟩) (ps.length + 1) c1)).setCell (p := ⟨g, 1, none⟩) hBg (.int .i64 3))
 have HK3 := Lib.hid ((HK1.out.trans (keptMaps.set HG1.out 0 (.slice (some ⟨gv, 0, none⟩) (ps.length + 1) c1))).trans (keptMaps.set (blk_set HG1.out 0 _) 1 (.int .i64 3)))
 generalize ((w1.setCell ⟨g, 0, none⟩ (.slice (some ⟨gv, 0, none⟩) (ps.length + 1) c1)).setCell ⟨g, 1, none⟩ (.int .i64 3)) = W3 at HG3 HX3 HP3 HB3 HK3 ⊢
 clear n0 n1 z0 z1 m0 m1 HG1 HX1 HP1 HB1 HK1 T1 T2 T3 T4 HBX HXX HKX HO HR HNE HG
 rw [six_two] at HG3
 obtain ⟨gv2, cap2, cur, vq, he, hBgv, hgv, hc1, hc2, hR, hcap, hset, hput⟩ := HP3.out.last
 injection he with he1 _ he2
 injection he1 with he1
 injection he1 with he1
 subst he1 he2
 have HGV := Lib.hid hgv
 have HP := Lib.hid hput
 have HRR := Lib.hid hR
 have hglt3 := blk_lt HG3.out
 have hgvlt := blk_lt hgv
 have m0 : W3.cell? ⟨g, 0, none⟩ = some (.slice (some ⟨gv, 0, none⟩) (ps.length + 1) c1) := (blk_cell HG3.out 0).trans rfl
 have hw2 : IntKind.i64.wrap (((ps.length + 1 : Nat) : Int) - 1) = (ps.length : Int) := by rw [show ((ps.length + 1 : Nat) : Int) - 1 = (ps.length : Int) by omega]; exact IntWalk.i64_in _ (by omega)
 clear hgv hput hset hc1 hR
 go_region_o
 go_wp2
 obtain ⟨y0, y1, y2, y3, y4, y5⟩ := itemCells_at HX3.out
 have hgb := blk_lt HX3.out
 have hcur : cur[ps.length * 3 + 2]? = some vq := by rw [← blk_cell HGV.out]; exact hc2
 have HCU := Lib.hid hcur
 have hB3 : B ≤ W3.heap.size := Nat.le_trans hBg (Nat.le_of_lt hglt3)
 have hbytes : (([] : List S41).length + 1) * 56 ≤ 140737488355328 := by decide
 clear hcur m0
 go_region_law (refine Kd.R_append_step k41 (w0 := W) B rfl (.tmp 38) (.tmp 40) 22 41 _ _ rfl Tryd.underlying22 info41 rfl (by decide) (by decide) vq [] x [.int .i64 x.f0, .int .i64 x.f1.f0, .int .u64 x.f1.f1, .bool x.f2, .string x.f3.f0, .bool x.f3.f1] (fun _ => True) (fun _ => False) rfl rfl (item_M _ B _ x) (fun _ h => h.elim) (fun _ _ => trivial) (W := W3.drew.drew) HRR.out (below_drew (below_drew HB3.out)) hB3 hbytes ?_; intro v5 w5 ho1 hb1 hg1 hat1; obtain ⟨A5, c5, rfl⟩ := Kd.R_slice ho1; have HQ1 := Lib.hid (HP.out w5 _ _ ho1 (undrew (undrew hg1)) hat1); have n0 : w5.cell? ⟨gv, ps.length * 3 + 2, none⟩ = some vq := (blk_cell HQ1.out.2 _).trans HCU.out; have n1 := blk_frozen HQ1.out.2 (ps.length * 3 + 2); have HGG := Lib.hid (blk_grown (blk_drew (blk_drew HG3.out)) hg1 (by have := own_ne (Kd.R_own HRR.out).choose_spec HG3.out (by decide); exact this)); have HKG := Lib.hid (HK3.out.trans (keptMaps.grown (show W3.ownsRow _ _ _ vq _ _ from (Kd.R_own HRR.out).choose_spec) (undrew (undrew hg1)))); have HB5 := Lib.hid hb1; clear ho1 hb1 hg1 hat1)
 all_goals
  go_wp2
  go_end0
  have hne : g ≠ gv := blk_ne HG3.out HGV.out (by decide)
  exact ⟨rfl, ⟨_, hBg, blk_far HGG.out hne _, HQ1.out.1⟩, HB5.out.setCell (p := ⟨gv, _, none⟩) hBgv _, HKG.out.trans (keptMaps.set HQ1.out.2 _ _)⟩
end Go.Proofs.YthppicgolkpbaaaDoor.P
namespace Go.Proofs.YthppicgolkpbaaaDoor.P
open Go.RowKit Go.Proofs.YthppicgolkpbaaaDoorW.PrintWords Go.Proofs.YthppicgolkpbaaaDoorW.PrintLast Go.Proofs.YthppicgolkpbaaaDoorW.PrintMore
set_option linter.unusedVariables false
set_option linter.unusedSimpArgs false
def mkGo : Nat → Int → List S41 → List S41 → Int → List S27 → List S27
 | 0, _, _, _, _, ps => ps
 | _ + 1, _, [], [], _, ps => ps
 | k + 1, i, [], y :: os, s, ps => mkGo k i [] os 3 (inP ps s y)
 | k + 1, i, _ :: ns, [], _, ps => mkGo k (i + 1) ns [] 2 ps
 | k + 1, i, x :: ns, y :: os, s, ps => if eqIt x y = true then mkGo k (i + 1) ns os 1 (keepP ps s i) else if cntIt (x :: ns) y = 0 then mkGo k i (x :: ns) os 3 (inP ps s y) else mkGo k (i + 1) ns (y :: os) 2 ps
def makeOf (newer older : List S41) : List S27 := mkGo (newer.length + older.length) 0 newer older 0 []
theorem it_drop (l : List S41) (i : Nat) (h : i < l.length) : l.drop i = rd_T41 l (i : Int) :: l.drop (i + 1) := by
 rw [List.drop_eq_getElem_cons h]
 have := it_at l i h
 rw [List.getElem?_eq_getElem h] at this
 rw [Option.some.inj this]
theorem cnt_drop (l : List S41) (i : Nat) (h : i < l.length) : (fun y => if eqIt y (rd_T41 l (i : Int)) = true then cntIt (l.drop i) (rd_T41 l (i : Int)) - 1 else cntIt (l.drop i) y) = cntIt (l.drop (i + 1)) := by
 rw [it_drop l i h]
 generalize rd_T41 l (i : Int) = x
 funext y
 unfold cntIt
 by_cases e : eqIt y x = true
 ·
  rw [if_pos e, (eqIt_iff _ _).1 e]
  have : eqIt x x = true := (eqIt_iff _ _).2 rfl
  simp [this]
 ·
  rw [if_neg e]
  have : eqIt y x = false := by simpa using e
  simp [this]
theorem cnt_bd (l : List S41) (i : Nat) (x : S41) : 0 ≤ cntIt (l.drop i) x ∧ cntIt (l.drop i) x ≤ l.length := by
 unfold cntIt
 have := List.length_filter_le (eqIt x) (l.drop i)
 have h2 : (l.drop i).length = l.length - i := List.length_drop
 omega
def partsFit (ps : List S27) (n : Nat) : Prop := ps.length ≤ n ∧ ∀ p ∈ ps, 0 ≤ p.f1 ∧ p.f1 ≤ n ∧ p.f2.length ≤ n
def lastFit (s : Int) (ps : List S27) : Prop := s = 1 ∨ s = 3 → ps ≠ []
theorem parts_last {ps : List S27} (h : ps ≠ []) : ∃ qs q, ps = qs ++ [q] := ⟨ps.dropLast, ps.getLast h, (List.dropLast_concat_getLast h).symm⟩
theorem keepP_snoc (qs : List S27) (q : S27) (i : Int) : keepP (qs ++ [q]) 1 i = qs ++ [⟨q.f0, q.f1 + 1, q.f2⟩] := by simp [keepP]
theorem inP_snoc (qs : List S27) (q : S27) (x : S41) : inP (qs ++ [q]) 3 x = qs ++ [⟨q.f0, q.f1, q.f2 ++ [x]⟩] := by simp [inP]
theorem keepP_fit {ps : List S27} {n : Nat} {s i : Int} (h : partsFit ps n) (hs : lastFit s ps) : partsFit (keepP ps s i) (n + 1) ∧ lastFit 1 (keepP ps s i) := by
 by_cases e : s = 1
 ·
  subst e
  obtain ⟨qs, q, rfl⟩ := parts_last (hs (.inl rfl))
  rw [keepP_snoc]
  refine ⟨⟨by have := h.1; simp at this ⊢; omega, fun p hp => ?_⟩, fun _ => by simp⟩
  rcases List.mem_append.1 hp with hp | hp
  ·
   have := h.2 p (by simp [hp]); omega
  ·
   have := h.2 q (by simp)
   rw [List.mem_singleton.1 hp]
   simp only
   omega
 ·
  unfold keepP
  rw [if_neg e]
  refine ⟨⟨by have := h.1; simp; omega, fun p hp => ?_⟩, fun _ => by simp⟩
  rcases List.mem_append.1 hp with hp | hp
  ·
   have := h.2 p hp; omega
  ·
   rw [List.mem_singleton.1 hp]
   simp only [List.length_nil]
   omega
theorem inP_fit {ps : List S27} {n : Nat} {s : Int} {x : S41} (h : partsFit ps n) (hs : lastFit s ps) : partsFit (inP ps s x) (n + 1) ∧ lastFit 3 (inP ps s x) := by
 by_cases e : s = 3
 ·
  subst e
  obtain ⟨qs, q, rfl⟩ := parts_last (hs (.inr rfl))
  rw [inP_snoc]
  refine ⟨⟨by have := h.1; simp at this ⊢; omega, fun p hp => ?_⟩, fun _ => by simp⟩
  rcases List.mem_append.1 hp with hp | hp
  ·
   have := h.2 p (by simp [hp]); omega
  ·
   have := h.2 q (by simp)
   rw [List.mem_singleton.1 hp]
   simp only [List.length_append, List.length_cons, List.length_nil]
   omega
 ·
  unfold inP
  rw [if_neg e]
  refine ⟨⟨by have := h.1; simp; omega, fun p hp => ?_⟩, fun _ => by simp⟩
  rcases List.mem_append.1 hp with hp | hp
  ·
   have := h.2 p hp; omega
  ·
   rw [List.mem_singleton.1 hp]
   simp only [List.length_cons, List.length_nil]
   omega
theorem keep_calls (W : World) (B g : Nat) (ps : List S27) (s i : Int) (n : Nat) (hn : n ≤ 900000) (hM : Maker W B g ps s) (hf : partsFit ps n) (hs : lastFit s ps) (hBW : B ≤ W.heap.size) :
  Calls Tryd.prog 24 #[.pointer (some ⟨g, 0, none⟩), .int .i64 i] W (KeepPost B g W (keepP ps s i) 1) := by
 by_cases e : s = 1
 ·
  subst e
  obtain ⟨qs, q, rfl⟩ := parts_last (hs (.inl rfl))
  rw [keepP_snoc]
  have h1 := hf.1
  have h2 := hf.2 q (by simp)
  rw [List.length_append] at h1
  exact keep_more W B g qs q i hM (by omega) (by omega) (by omega) hBW
 ·
  have := keep_new W B g ps s i hM e (by have := hf.1; omega) hBW
  unfold keepP
  rw [if_neg e]
  exact this
theorem in_calls (W : World) (B g : Nat) (ps : List S27) (s : Int) (x : S41) (n : Nat) (hn : n ≤ 900000) (hM : Maker W B g ps s) (hf : partsFit ps n) (hs : lastFit s ps) (hBW : B ≤ W.heap.size) :
  Calls Tryd.prog 25 #[.pointer (some ⟨g, 0, none⟩), .agg #[.int .i64 x.f0, .int .i64 x.f1.f0, .int .u64 x.f1.f1, .bool x.f2, .string x.f3.f0, .bool x.f3.f1]] W (KeepPost B g W (inP ps s x) 3) := by
 by_cases e : s = 3
 ·
  subst e
  obtain ⟨qs, q, rfl⟩ := parts_last (hs (.inr rfl))
  rw [inP_snoc]
  have h1 := hf.1
  have h2 := hf.2 q (by simp)
  rw [List.length_append] at h1
  exact in_more W B g qs q x hM (by omega) (by omega) hBW
 ·
  have := in_new W B g ps s x hM e (by have := hf.1; omega) hBW
  unfold inP
  rw [if_neg e]
  exact this
theorem CntMap.keptMaps {W W' : World} {b n : Nat} {f : S41 → Int} (h : CntMap W b n f) (hk : keptMaps W W') : CntMap W' b n f := by
 obtain ⟨D, ⟨es, c, hb, r⟩, hf⟩ := h
 exact ⟨D, ⟨es, c, hk _ _ _ hb, r⟩, hf⟩
theorem CntMap.mono {W : World} {b n n' : Nat} {f : S41 → Int} (h : CntMap W b n f) (hn : n ≤ n') : CntMap W b n' f := by
 obtain ⟨D, ho, hf⟩ := h
 exact ⟨D, ho.mono hn, hf⟩
theorem CntMap.block {W : World} {b n : Nat} {f : S41 → Int} (h : CntMap W b n f) : ∃ es c, W.heap[b]? = some (.map es c) := by
 obtain ⟨D, ⟨es, c, hb, r⟩, hf⟩ := h
 exact ⟨es, c, hb⟩
theorem Maker.setLast {W : World} {B g : Nat} {ps : List S27} {s : Int} (h : Maker W B g ps s) (s' : Int) : Maker (W.setCell ⟨g, 1, none⟩ (.int .i64 s')) B g ps s' ∧ keptMaps W (W.setCell ⟨g, 1, none⟩ (.int .i64 s')) ∧ W.cell? ⟨g, 1, none⟩ = some (.int .i64 s) ∧ W.frozen? ⟨g, 1, none⟩ = false ∧ B ≤ g := by
 obtain ⟨v, hB, hg, hp⟩ := h
 refine ⟨⟨v, hB, ?_, hp.set hg (by decide)⟩, keptMaps.set hg _ _, (blk_cell hg 1).trans rfl, blk_frozen hg 1, hB⟩
 have := blk_set hg 1 (.int .i64 s')
 have e : (#[v, Value.int .i64 s].setIfInBounds 1 (.int .i64 s')) = #[v, .int .i64 s'] := by simp
 rw [e] at this
 exact this
theorem not_eq_fields {x y : S41} (h : ¬ eqIt x y = true) : (x.f0 == y.f0 && ((x.f1.f0 == y.f1.f0 && (x.f1.f1 == y.f1.f1)) && (x.f2 == y.f2 && ((x.f3.f0.toList == y.f3.f0.toList && (x.f3.f1 == y.f3.f1)))))) = false := by
 unfold eqIt at h
 simpa using h
def CellsAt (W : World) (p : Addr) (x : S41) : Prop := W.cell? p = some (.int .i64 x.f0) ∧ W.cell? ⟨p.block, p.off + 1, none⟩ = some (.int .i64 x.f1.f0) ∧ W.cell? ⟨p.block, p.off + 2, none⟩ = some (.int .u64 x.f1.f1) ∧ W.cell? ⟨p.block, p.off + 3, none⟩ = some (.bool x.f2) ∧ W.cell? ⟨p.block, p.off + 4, none⟩ = some (.string x.f3.f0) ∧ W.cell? ⟨p.block, p.off + 5, none⟩ = some (.bool x.f3.f1)
theorem CellsAt.below {w W : World} {p : Addr} {x : S41} (h : CellsAt w p x) (hb : Below w.heap.size w W) : CellsAt W p x :=
 ⟨pw_cell_below hb h.1, pw_cell_below hb h.2.1, pw_cell_below hb h.2.2.1, pw_cell_below hb h.2.2.2.1, pw_cell_below hb h.2.2.2.2.1, pw_cell_below hb h.2.2.2.2.2⟩
theorem cells_at {w : World} {A : Option Addr} {n : Nat} {l : List S41} (h : Kd.C k41 w A n l) (i : Nat) (hi : i < n) : ∃ ad, A = some ad ∧ CellsAt w (ad.add (i * 6)) (rd_T41 l (i : Int)) := by
 obtain ⟨ad, e, r⟩ := at_T41 h (i : Int) (by omega) (by omega)
 rw [Int.toNat_natCast] at r
 exact ⟨ad, e, r⟩
end Go.Proofs.YthppicgolkpbaaaDoor.P

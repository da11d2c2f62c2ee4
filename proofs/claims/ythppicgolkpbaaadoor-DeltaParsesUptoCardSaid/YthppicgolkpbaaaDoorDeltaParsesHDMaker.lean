/- the maker of a delta's parts, as memory: its parts' row, the last part's items' own row; and its methods keep and in; conditions: sizes far below 2^47. -/
import Derived.Test.YthppicgolkpbaaaDoorDeltaParsesGHDLeft
import Derived.Shelf.RegionOpenPlain
import Derived.Deep.RegionLaw
import Derived.IntWalk
namespace Go.Proofs.YthppicgolkpbaaaDoor.P
open Go.RowKit Go.Proofs.YthppicgolkpbaaaDoorW.PrintWords Go.Proofs.YthppicgolkpbaaaDoorW.PrintLast Go.Proofs.YthppicgolkpbaaaDoorW.PrintMore
set_option linter.unusedVariables false
set_option linter.unusedSimpArgs false
def keptMaps (w w' : World) : Prop := ∀ (k : Nat) es c, w.heap[k]? = some (.map es c) → w'.heap[k]? = some (.map es c)
theorem keptMaps.trans {a b c : World} (h : keptMaps a b) (k : keptMaps b c) : keptMaps a c := fun i es cl hi => k i es cl (h i es cl hi)
theorem keptMaps.drew (w : World) : keptMaps w w.drew := fun _ _ _ h => h
theorem keptMaps.set {w : World} {g t : Nat} {cs : Array Value} (h : w.heap[g]? = some (.cells cs t (0, 0))) (i : Nat) (u : Value) : keptMaps w (w.setCell ⟨g, i, none⟩ u) := by
 intro k es c hk
 have : k ≠ g := by rintro rfl; rw [h] at hk; cases hk
 rw [Below.heap_setCell w ⟨g, i, none⟩ u k this]
 exact hk
theorem keptMaps.grown {w w' : World} {base n size : Nat} {e : TypeId} {v : Value} {xs : List Value} (ho : w.ownsRow base e size v n xs) (hg : w.grownBy w' v.ownBlock) : keptMaps w w' := by
 intro k es c hk
 rw [hg.block k (blk_lt hk) (fun e1 => ?_)]
 ·
  exact hk
 ·
  obtain ⟨cells, hc⟩ := own_typed ho k e1.symm
  rw [hk] at hc; cases hc
theorem keptMaps.alloc (w : World) (o : Obj) : keptMaps w (w.alloc o) := fun k es c hk => (Below.heap_alloc w o k (blk_lt hk)).trans hk
def PartsRow (W : World) (B : Nat) (v : Value) (ps : List S27) : Prop :=
 (ps = [] ∧ W.ownsRow B 27 3 v 0 []) ∨ ∃ qs q inner vq, ps = qs ++ [q] ∧ W.ownsRow B 27 3 v (qs.length + 1) (inner ++ [.int .i64 q.f0, .int .i64 q.f1, vq]) ∧
  Reps (k27.M W B (fun k => some k ≠ v.ownBlock ∧ some k ≠ vq.ownBlock)) 3 qs inner ∧ k41.R 41 W B (fun k => some k ≠ v.ownBlock) vq q.f2
theorem part_M {W : World} {B : Nat} {ok : Nat → Prop} {q : S27} {vq : Value} (h : k41.R 41 W B ok vq q.f2) : k27.M W B ok q [.int .i64 q.f0, .int .i64 q.f1, vq] :=
 ⟨_, _, rfl, rfl, _, _, rfl, rfl, vq, rfl, h⟩
theorem PartsRow.all {W : World} {B : Nat} {v : Value} {ps : List S27} (h : PartsRow W B v ps) : k27.R 27 W B (fun _ => True) v ps := by
 rcases h with ⟨rfl, ho⟩ | ⟨qs, q, inner, vq, rfl, ho, hr, hq⟩
 ·
  exact ⟨fun _ _ => trivial, [], ho, Reps.none _ _⟩
 ·
  refine ⟨fun _ _ => trivial, inner ++ [.int .i64 q.f0, .int .i64 q.f1, vq], by rw [List.length_append]; exact ho, ?_⟩
  exact (hr.imp_ (fun _ _ h => k27.M_mono (fun k hk => ⟨trivial, hk.1⟩) h)).snoc (part_M (Kd.R_mono hq (fun k hk => ⟨trivial, hk⟩))) rfl
theorem PartsRow.own {W : World} {B : Nat} {v : Value} {ps : List S27} (h : PartsRow W B v ps) : ∃ xs, W.ownsRow B 27 3 v ps.length xs ∧ Reps (k27.M W B (fun k => some k ≠ v.ownBlock)) 3 ps xs := by
 obtain ⟨_, inner, ho, hr⟩ := h.all
 exact ⟨inner, ho, hr.imp_ (fun _ _ h => k27.M_mono (fun k hk => hk.2) h)⟩
theorem PartsRow.move {W W' : World} {B : Nat} {v : Value} {ps : List S27} (h : PartsRow W B v ps) (hm : ∀ k, k < W.heap.size → (∃ cs t, (t = 27 ∨ t = 41) ∧ W.heap[k]? = some (.cells cs t (0, 0))) → W'.heap[k]? = W.heap[k]?) : PartsRow W' B v ps := by
 have mv : ∀ {e s n : Nat} {v : Value} {xs : List Value}, (e = 27 ∨ e = 41) → W.ownsRow B e s v n xs → W'.ownsRow B e s v n xs := fun he ho =>
  own_move ho (fun k hk => hm k (own_lt ho k hk) (by obtain ⟨c, hc⟩ := own_typed ho k hk; exact ⟨c, _, he, hc⟩))
 have mi : ∀ {ok : Nat → Prop} {v : Value} {l : List S41}, k41.R 41 W B ok v l → k41.R 41 W' B ok v l := fun hq =>
  Kd.R_mono (Kd.R_move (Kd.R_bound hq) (fun k hk => hm k hk.2.2.1 (by
   obtain ⟨_, _, _, t, ht, c, hc⟩ := hk
   have ht' : t = 41 := by
    have e : k41.E = [] := by rfl
    rw [e] at ht
    simpa using ht
   exact ⟨c, t, .inr ht', hc⟩))) (fun k hk => hk.1)
 rcases h with ⟨rfl, ho⟩ | ⟨qs, q, inner, vq, rfl, ho, hr, hq⟩
 ·
  exact .inl ⟨rfl, mv (.inl rfl) ho⟩
 ·
  refine .inr ⟨qs, q, inner, vq, rfl, mv (.inl rfl) ho, hr.imp_ (fun p c hp => ?_), mi hq⟩
  obtain ⟨_, _, rfl, rfl, _, _, rfl, rfl, vp, rfl, hp⟩ := hp
  exact ⟨_, _, rfl, rfl, _, _, rfl, rfl, vp, rfl, mi hp⟩
def Maker (W : World) (B g : Nat) (ps : List S27) (s : Int) : Prop := ∃ v, B ≤ g ∧ W.heap[g]? = some (.cells #[v, .int .i64 s] 57 (0, 0)) ∧ PartsRow W B v ps
theorem PartsRow.set {W : World} {B g i t : Nat} {cs : Array Value} {v u : Value} {ps : List S27} (h : PartsRow W B v ps) (hg : W.heap[g]? = some (.cells cs t (0, 0))) (ht : t ≠ 27 ∧ t ≠ 41) : PartsRow (W.setCell ⟨g, i, none⟩ u) B v ps := by
 refine h.move fun k hk hc => ?_
 obtain ⟨cs', t', ht', hk'⟩ := hc
 refine Below.heap_setCell W ⟨g, i, none⟩ u k ?_
 rintro rfl
 have hk' : W.heap[k]? = some (.cells cs' t' (0, 0)) := hk'
 have hg : W.heap[k]? = some (.cells cs t (0, 0)) := hg
 rw [hg] at hk'
 injection hk' with hk'
 injection hk' with _ e
 rcases ht' with rfl | rfl
 ·
  exact ht.1 e
 ·
  exact ht.2 e
theorem Maker.below {W W' : World} {B g : Nat} {ps : List S27} {s : Int} (h : Maker W B g ps s) (hb : Below W.heap.size W W') : Maker W' B g ps s := by
 obtain ⟨v, hB, hg, hp⟩ := h
 exact ⟨v, hB, blk_below hg hb, hp.move fun k hk _ => hb.block k hk⟩
theorem Maker.mapTurned {W W' : World} {B g b : Nat} {ps : List S27} {s : Int} {es : Array MapEntry} {c : Nat} (h : Maker W B g ps s) (hm : W.heap[b]? = some (.map es c)) (hg : W.grownBy W' (some b)) : Maker W' B g ps s := by
 obtain ⟨v, hB, hgg, hp⟩ := h
 refine ⟨v, hB, blk_grown hgg hg ?_, hp.move fun k hk hc => hg.block k hk ?_⟩
 ·
  intro e; injection e with e; subst e; rw [hgg] at hm; cases hm
 ·
  obtain ⟨cs, t, _, hk'⟩ := hc
  intro e; injection e with e; subst e; rw [hk'] at hm; cases hm
def keepP (ps : List S27) (s : Int) (i : Int) : List S27 :=
 if s = 1 then ps.dropLast ++ (ps.getLast?.toList.map fun q => ⟨q.f0, q.f1 + 1, q.f2⟩) else ps ++ [⟨i, 1, []⟩]
def inP (ps : List S27) (s : Int) (x : S41) : List S27 :=
 if s = 3 then ps.dropLast ++ (ps.getLast?.toList.map fun q => ⟨q.f0, q.f1, q.f2 ++ [x]⟩) else ps ++ [⟨0, 0, [x]⟩]
theorem set_in_last (inner : List Value) (a b c b' : Value) : (inner ++ [a, b, c]).set (inner.length + 1) b' = inner ++ [a, b', c] := by
 rw [List.set_append_right _ _ (by omega)]
 simp
theorem set_in_last2 (inner : List Value) (a b c c' : Value) : (inner ++ [a, b, c]).set (inner.length + 2) c' = inner ++ [a, b, c'] := by
 rw [List.set_append_right _ _ (by omega)]
 simp
theorem PartsRow.last {W : World} {B : Nat} {v : Value} {qs : List S27} {q : S27} (h : PartsRow W B v (qs ++ [q])) :
  ∃ gv cap cur vq, v = .slice (some ⟨gv, 0, none⟩) (qs.length + 1) cap ∧ B ≤ gv ∧ W.heap[gv]? = some (.cells cur 27 (0, 0)) ∧ W.cell? ⟨gv, qs.length * 3 + 1, none⟩ = some (.int .i64 q.f1) ∧ W.cell? ⟨gv, qs.length * 3 + 2, none⟩ = some vq ∧
   k41.R 41 W B (fun _ => True) vq q.f2 ∧ qs.length + 1 ≤ cap ∧
   (∀ n : Int, PartsRow (W.setCell ⟨gv, qs.length * 3 + 1, none⟩ (.int .i64 n)) B v (qs ++ [⟨q.f0, n, q.f2⟩])) ∧
   (∀ (W' : World) (vq' : Value) (l : List S41), k41.R 41 W' B (fun _ => True) vq' l → W.grownBy W' vq.ownBlock → (vq'.ownBlock = vq.ownBlock ∨ ∃ b, vq'.ownBlock = some b ∧ W.heap.size ≤ b) → PartsRow (W'.setCell ⟨gv, qs.length * 3 + 2, none⟩ vq') B v (qs ++ [⟨q.f0, q.f1, l⟩]) ∧ W'.heap[gv]? = some (.cells cur 27 (0, 0))) := by
 rcases h with ⟨h0, _⟩ | ⟨qs', q', inner, vq, heq, ho, hr, hq⟩
 ·
  simp at h0
 obtain ⟨rfl, h2⟩ := List.append_inj' heq rfl
 obtain rfl : q = q' := by injection h2
 clear heq h2
 have hil : inner.length = qs.length * 3 := hr.1
 obtain ⟨ji, hoq⟩ := Kd.R_own hq
 have hot := own_type_ne ho hoq (by decide)
 have ho0 := ho
 rcases ho0.2 with ⟨_, hn⟩ | ⟨gv, cap, cur, rfl, hB, hh, hnc, hcm, hcs, htk⟩
 ·
  omega
 have hvo : (Value.slice (some ⟨gv, 0, none⟩) (qs.length + 1) cap).ownBlock = some gv := rfl
 have cell : ∀ j u, (inner ++ [.int .i64 q.f0, .int .i64 q.f1, vq])[j]? = some u → W.cell? ⟨gv, j, none⟩ = some u := by
  intro j u hu
  have := ho.cells (g := gv) rfl j u hu
  rwa [add_plain] at this
 refine ⟨gv, cap, cur, vq, rfl, hB, hh, cell _ _ ?_, cell _ _ ?_, Kd.R_mono hq (fun _ _ => trivial), hnc, ?_, ?_⟩
 ·
  rw [← hil, List.getElem?_append_right (by omega)]
  simp
 ·
  rw [← hil, List.getElem?_append_right (by omega)]
  simp
 ·
  intro n
  have hs := (ho.stored (qs.length * 3 + 1) (.int .i64 n)).1
  rw [← hil, set_in_last, hil] at hs
  refine .inr ⟨qs, ⟨q.f0, n, q.f2⟩, inner, vq, rfl, hs, hr.imp_ (fun p c hp => Kd.M_far hp (p := ⟨gv, _, none⟩) (fun k hk => ?_) _), Kd.R_far hq (p := ⟨gv, _, none⟩) (fun k hk => ?_) _⟩
  ·
   intro e; exact hk.1 (by rw [hvo, e])
  ·
   intro e; exact hk (by rw [hvo, e])
 ·
  intro W' vq' l hq' hg hat
  have ho1 := own_other ho hg hot
  have hh1 : W'.heap[gv]? = some (.cells cur 27 (0, 0)) := blk_grown hh hg (by
   intro e
   rcases hot with h0 | h0
   ·
    rw [hvo] at h0; cases h0
   ·
    exact h0 (hvo.trans e))
  refine ⟨?_, hh1⟩
  have hs := (ho1.stored (qs.length * 3 + 2) vq').1
  rw [← hil, set_in_last2, hil] at hs
  have hq2 := Kd.R_types hq' hh1 (by
   intro t ht
   have e : k41.E = [] := by rfl
   rw [e] at ht
   have : t = 41 := by simpa using ht
   rw [this]; decide)
  have hq3 : k41.R 41 W' B (fun k => some k ≠ (Value.slice (some ⟨gv, 0, none⟩) (qs.length + 1) cap).ownBlock) vq' l := Kd.R_mono hq2 (fun k hk e => hk.2 (by rw [hvo] at e; injection e))
  refine .inr ⟨qs, ⟨q.f0, q.f1, l⟩, inner, vq', rfl, hs, hr.imp_ (fun p c hp => ?_), Kd.R_far hq3 (p := ⟨gv, _, none⟩) (fun k hk e => hk (by rw [hvo, e])) _⟩
  have h1 := Kd.M_grown (k27.M_bound hp) hg (fun k hk => hk.1.2)
  refine Kd.M_far (k27.M_mono (ok' := fun k => some k ≠ (Value.slice (some ⟨gv, 0, none⟩) (qs.length + 1) cap).ownBlock ∧ some k ≠ vq'.ownBlock) (fun k hk => ⟨hk.1.1, fun e => ?_⟩) h1) (p := ⟨gv, _, none⟩) (fun k hk e => hk.1 (by rw [hvo, e])) _
  rcases hat with hat | ⟨b, hb, hle⟩
  ·
   exact hk.1.2 (e.trans hat)
  ·
   rw [hb] at e
   injection e with e
   have := hk.2.2.1
   omega
theorem PartsRow.snoc {W W' : World} {B : Nat} {v v' : Value} {ps : List S27} {xs : List Value} (i n : Int) (h : Reps (k27.M W B (fun k => some k ≠ v.ownBlock)) 3 ps xs)
  (ho : W'.ownsRow B 27 3 v' (ps.length + 1) (xs ++ [.int .i64 i, .int .i64 n, .slice none 0 0])) (hg : W.grownBy W' v.ownBlock) (hat : v'.ownBlock = v.ownBlock ∨ ∃ b, v'.ownBlock = some b ∧ W.heap.size ≤ b) :
  PartsRow W' B v' (ps ++ [⟨i, n, []⟩]) := by
 refine .inr ⟨ps, ⟨i, n, []⟩, xs, .slice none 0 0, rfl, ho, h.imp_ (fun p c hp => ?_), Kd.R_nil _ _ _ _ _⟩
 have h1 := Kd.M_grown (k27.M_bound hp) hg (fun k hk => hk.1)
 refine k27.M_mono (fun k hk => ⟨?_, by simp [Value.ownBlock]⟩) h1
 intro e
 rcases hat with hat | ⟨b, hb, hle⟩
 ·
  exact hk.1 (e.trans hat)
 ·
  rw [hb] at e
  injection e with e
  have := hk.2.2.1
  omega
def KeepPost (B g : Nat) (W : World) (ps : List S27) (s : Int) (e : Ending) (w' : World) : Prop := e = .returned (.tuple #[]) ∧ Maker w' B g ps s ∧ Below B W w' ∧ keptMaps W w'
set_option maxHeartbeats 4000000 in
set_option maxRecDepth 100000 in
theorem keep_more (W : World) (B g : Nat) (qs : List S27) (q : S27) (i : Int) (hM : Maker W B g (qs ++ [q]) 1) (hl : qs.length ≤ 1000000) (hq0 : 0 ≤ q.f1) (hq : q.f1 ≤ 1000000) (hBW : B ≤ W.heap.size) :
  Calls Tryd.prog 24 #[.pointer (some ⟨g, 0, none⟩), .int .i64 i] W (KeepPost B g W (qs ++ [⟨q.f0, q.f1 + 1, q.f2⟩]) 1) := by
 obtain ⟨v, hBg, hg, hp⟩ := hM
 obtain ⟨gv, cap, cur, vq, rfl, hBgv, hgv, hc1, hc2, hR, hcap, hset, hput⟩ := hp.last
 have HG := Lib.hid hg
 have m0 : W.cell? ⟨g, 0, none⟩ = some (.slice (some ⟨gv, 0, none⟩) (qs.length + 1) cap) := (blk_cell hg 0).trans rfl
 have m1 : W.cell? ⟨g, 1, none⟩ = some (.int .i64 1) := (blk_cell hg 1).trans rfl
 have z1 := blk_frozen hgv (qs.length * 3 + 1)
 have HS := Lib.hid (hset (q.f1 + 1))
 have HGV := Lib.hid hgv
 have hne : g ≠ gv := blk_ne hg hgv (by decide)
 have hw1 : IntKind.i64.wrap (q.f1 + 1) = q.f1 + 1 := IntWalk.i64_in _ (by omega)
 have hw2 : IntKind.i64.wrap (((qs.length + 1 : Nat) : Int) - 1) = (qs.length : Int) := by rw [show ((qs.length + 1 : Nat) : Int) - 1 = (qs.length : Int) by omega]; exact IntWalk.i64_in _ (by omega)
 have mixed : Tryd.prog.follows Departure.mixedOrders = true := by kernel_rfl
 clear hg hgv hput hset hc2 hR hp
 go_enter Tryd.func24, Tryd.ntmps24
 go_wp2
 go_region_o
 go_wp2
 go_end0
 exact ⟨rfl, ⟨_, hBg, blk_drew (blk_far HG.out hne _), HS.out.move (fun _ _ _ => rfl)⟩, below_drew ((Below.refl B W).setCell (p := ⟨gv, _, none⟩) hBgv _), (keptMaps.set HGV.out _ _).trans (keptMaps.drew _)⟩
set_option maxHeartbeats 4000000 in
set_option maxRecDepth 100000 in
theorem keep_new (W : World) (B g : Nat) (ps : List S27) (s i : Int) (hM : Maker W B g ps s) (hs : ¬ s = 1) (hl : ps.length ≤ 1000000) (hBW : B ≤ W.heap.size) :
  Calls Tryd.prog 24 #[.pointer (some ⟨g, 0, none⟩), .int .i64 i] W (KeepPost B g W (ps ++ [⟨i, 1, []⟩]) 1) := by
 obtain ⟨v, hBg, hg, hp⟩ := hM
 have HG := Lib.hid hg
 have m0 : W.cell? ⟨g, 0, none⟩ = some v := (blk_cell hg 0).trans rfl
 have m1 : W.cell? ⟨g, 1, none⟩ = some (.int .i64 s) := (blk_cell hg 1).trans rfl
 obtain ⟨xs, ho, hr⟩ := hp.own
 have HO := Lib.hid ho
 have HR := Lib.hid hr
 have HNE := Lib.hid (own_ne ho hg (by decide))
 have hs1 : (s == 1) = false := by simpa using hs
 have hbytes : (ps.length + 1) * 40 ≤ 140737488355328 := by omega
 clear hg ho hr hp hs
 go_enter Tryd.func24, Tryd.ntmps24
 go_wp2_with (at_builtin; refine print_append_cells (w0 := W) B rfl (.tmp 30) (.tmp 33) 24 27 _ 3 _ rfl Tryd.underlying24 info27 rfl (by decide) (by decide) v ps.length xs [.int .i64 i, .int .i64 1, .slice none 0 0] rfl rfl rfl (by intro u hu; simp at hu; rcases hu with rfl | rfl | rfl <;> rfl) HO.out (Below.refl _ _) hBW hbytes ?_; intro v1 w1 ho1 hb1 hg1 hat1; obtain ⟨A1, c1, rfl⟩ := own_slice ho1; have HG1 := Lib.hid (blk_grown HG.out hg1 HNE.out); have HP1 := Lib.hid (PartsRow.snoc i 1 HR.out ho1 hg1 hat1); have n0 : w1.cell? ⟨g, 0, none⟩ = some v := (blk_cell HG1.out 0).trans rfl; have n1 : w1.cell? ⟨g, 1, none⟩ = some (.int .i64 s) := (blk_cell HG1.out 1).trans rfl; have z0 := blk_frozen HG1.out 0; have z1 := blk_frozen HG1.out 1; have HB1 := Lib.hid hb1; have HK1 := Lib.hid (keptMaps.grown HO.out hg1); clear ho1 hb1 hg1 hat1)
 go_end0
 have hB := blk_set (blk_set HG1.out 0 (.slice A1 (ps.length + 1) c1)) 1 (.int .i64 1)
 exact ⟨rfl, ⟨_, hBg, hB, (HP1.out.set HG1.out (by decide)).set (blk_set HG1.out 0 _) (by decide)⟩, ((HB1.out.setCell (p := ⟨g, 0, none⟩) hBg _).setCell (p := ⟨g, 1, none⟩) hBg _), (HK1.out.trans (keptMaps.set HG1.out _ _)).trans (keptMaps.set (blk_set HG1.out 0 _) _ _)⟩
theorem undrew {W w1 : World} {r : Option Nat} (h : W.drew.grownBy w1 r) : W.grownBy w1 r := ⟨h.os, h.tape, h.output, h.size, h.block⟩
theorem item_M (W : World) (B : Nat) (ok : Nat → Prop) (x : S41) : k41.M W B ok x [.int .i64 x.f0, .int .i64 x.f1.f0, .int .u64 x.f1.f1, .bool x.f2, .string x.f3.f0, .bool x.f3.f1] :=
 ⟨[_], [_, _, _, _, _], rfl, rfl, [_, _], [_, _, _], rfl, ⟨[_], [_], rfl, rfl, rfl⟩, [_], [_, _], rfl, rfl, [_], [_], rfl, rfl, rfl⟩
set_option maxHeartbeats 8000000 in
set_option maxRecDepth 100000 in
theorem in_more (W : World) (B g : Nat) (qs : List S27) (q : S27) (x : S41) (hM : Maker W B g (qs ++ [q]) 3) (hl : qs.length ≤ 1000000) (hq : q.f2.length ≤ 1000000) (hBW : B ≤ W.heap.size) :
  Calls Tryd.prog 25 #[.pointer (some ⟨g, 0, none⟩), .agg #[.int .i64 x.f0, .int .i64 x.f1.f0, .int .u64 x.f1.f1, .bool x.f2, .string x.f3.f0, .bool x.f3.f1]] W (KeepPost B g W (qs ++ [⟨q.f0, q.f1, q.f2 ++ [x]⟩]) 3) := by
 obtain ⟨v, hBg, hg, hp⟩ := hM
 obtain ⟨gv, cap, cur, vq, rfl, hBgv, hgv, hc1, hc2, hR, hcap, hset, hput⟩ := hp.last
 have HG := Lib.hid hg
 have HGV := Lib.hid hgv
 have HP := Lib.hid hput
 have HRR := Lib.hid hR
 have hglt := blk_lt hg
 have hgvlt := blk_lt hgv
 have m0 : W.cell? ⟨g, 0, none⟩ = some (.slice (some ⟨gv, 0, none⟩) (qs.length + 1) cap) := (blk_cell hg 0).trans rfl
 have m1 : W.cell? ⟨g, 1, none⟩ = some (.int .i64 3) := (blk_cell hg 1).trans rfl
 have hw2 : IntKind.i64.wrap (((qs.length + 1 : Nat) : Int) - 1) = (qs.length : Int) := by rw [show ((qs.length + 1 : Nat) : Int) - 1 = (qs.length : Int) by omega]; exact IntWalk.i64_in _ (by omega)
 have mixed : Tryd.prog.follows Departure.mixedOrders = true := by kernel_rfl
 have hbytes : (q.f2.length + 1) * 56 ≤ 140737488355328 := by omega
 clear hg hgv hput hset hc1 hR hp
 go_enter Tryd.func25, Tryd.ntmps25
 go_wp2
 go_region_o
 go_wp2
 have HX2 := Lib.hid (blk_drew (blk_new W (.cells (itemCells x) 41 (0, 0))))
 have HB2 := Lib.hid (below_drew (below_alloc (Below.refl W.heap.size W) (.cells (itemCells x) 41 (0, 0))))
 have HKM := Lib.hid ((keptMaps.alloc W (.cells (itemCells x) 41 (0, 0))).trans (keptMaps.drew _))
 unfold itemCells at HX2 HB2 HKM
 generalize (W.alloc (.cells #[.int .i64 x.f0, .int .i64 x.f1.f0, .int .u64 x.f1.f1, .bool x.f2, .string x.f3.f0, .bool x.f3.f1] 41 (0, 0))).drew = W2 at HX2 HB2 HKM ⊢
 have hs2 := HB2.out.size
 obtain ⟨y0, y1, y2, y3, y4, y5⟩ := itemCells_at HX2.out
 have hgb := blk_lt HX2.out
 have HGV2 := Lib.hid (blk_below HGV.out HB2.out)
 have c2 := pw_cell_below HB2.out hc2
 have hgv2 : gv < W2.heap.size := blk_lt HGV2.out
 have hcur : cur[qs.length * 3 + 2]? = some vq := by rw [← blk_cell HGV2.out]; exact c2
 have HCU := Lib.hid hcur
 have HR2 := Lib.hid (Kd.R_below HRR.out HB2.out)
 have HB3 := Lib.hid (HB2.out.mono hBW)
 clear m0 m1 hc2 hcur
 go_region_law (refine Kd.R_append_step k41 (w0 := W) B rfl (.tmp 38) (.tmp 40) 22 41 _ _ rfl Tryd.underlying22 info41 rfl (by decide) (by decide) vq q.f2 x [.int .i64 x.f0, .int .i64 x.f1.f0, .int .u64 x.f1.f1, .bool x.f2, .string x.f3.f0, .bool x.f3.f1] (fun _ => True) (fun _ => False) rfl rfl (item_M _ B _ x) (fun _ h => h.elim) (fun _ _ => trivial) (W := W2.drew) HR2.out (below_drew HB3.out) (Nat.le_trans hBW hs2) hbytes ?_; intro v1 w1 ho1 hb1 hg1 hat1; obtain ⟨A1, c1, rfl⟩ := Kd.R_slice ho1; have HQ1 := Lib.hid (HP.out w1 _ _ ho1 (World.grownBy.trans (grown_of_below HB2.out _) (undrew hg1)) (by rcases hat1 with h | ⟨b, h, hb⟩; exact .inl h; exact .inr ⟨b, h, Nat.le_trans hs2 hb⟩)); have n0 : w1.cell? ⟨gv, qs.length * 3 + 2, none⟩ = some vq := (blk_cell HQ1.out.2 _).trans HCU.out; have n1 := blk_frozen HQ1.out.2 (qs.length * 3 + 2); have HGG := Lib.hid (blk_grown (blk_drew (blk_below HG.out HB2.out)) hg1 (by have := own_ne (Kd.R_own HR2.out).choose_spec (blk_below HG.out HB2.out) (by decide); exact this)); have HKG := Lib.hid (HKM.out.trans (keptMaps.grown (show W2.ownsRow _ _ _ vq _ _ from (Kd.R_own HR2.out).choose_spec) (undrew hg1))); have HB1 := Lib.hid hb1; clear ho1 hb1 hg1 hat1)
 all_goals
  go_wp2
  go_end0
  have hne : g ≠ gv := blk_ne HG.out HGV.out (by decide)
  exact ⟨rfl, ⟨_, hBg, blk_far HGG.out hne _, by have := HQ1.out.1; rw [List.length_append] at this; exact this⟩, HB1.out.setCell (p := ⟨gv, _, none⟩) hBgv _, HKG.out.trans (keptMaps.set HQ1.out.2 _ _)⟩
end Go.Proofs.YthppicgolkpbaaaDoor.P

/- the maker's method in, where a part begins; conditions as in DMaker. -/
import Derived.Test.YthppicgolkpbaaaDoorDeltaTextsHDMaker
namespace Go.Proofs.YthppicgolkpbaaaDoor.P
open Go.RowKit Go.Proofs.YthppicgolkpbaaaDoorW.PrintWords Go.Proofs.YthppicgolkpbaaaDoorW.PrintLast Go.Proofs.YthppicgolkpbaaaDoorW.PrintMore
set_option linter.unusedVariables false
set_option linter.unusedSimpArgs false
theorem six_two (v s a b : Value) : (#[v, s].setIfInBounds 0 a).setIfInBounds 1 b = #[a, b] := by simp
theorem three_one (a b : Int) : ∀ u ∈ [Value.int .i64 a, Value.int .i64 b, Value.slice none 0 0], u.oneCell' = true := by
  intro u hu
  rcases List.mem_cons.1 hu with rfl | hu
  · rfl
  rcases List.mem_cons.1 hu with rfl | hu
  · rfl
  rcases List.mem_cons.1 hu with rfl | hu
  · rfl
  cases hu
set_option maxHeartbeats 8000000 in
set_option maxRecDepth 100000 in
theorem in_new (W : World) (B g : Nat) (ps : List S27) (s : Int) (x : S41) (hM : Maker W B g ps s) (hs : ¬ s = 3) (hl : ps.length ≤ 1000000) (hBW : B ≤ W.heap.size) :
    Calls Tryd.prog 25 #[.pointer (some ⟨g, 0, none⟩), .agg #[.int .i64 x.f0, .int .i64 x.f1.f0, .int .u64 x.f1.f1, .bool x.f2, .string x.f3.f0, .bool x.f3.f1]] W (KeepPost B g W (ps ++ [⟨0, 0, [x]⟩]) 3) := by
  obtain ⟨v, hBg, hg, hp⟩ := hM
  have HG := Lib.hid hg
  have hglt := blk_lt hg
  have m0 : W.cell? ⟨g, 0, none⟩ = some v := (blk_cell hg 0).trans rfl
  have m1 : W.cell? ⟨g, 1, none⟩ = some (.int .i64 s) := (blk_cell hg 1).trans rfl
  have hs1 : (s != 3) = true := by simpa using hs
  have mixed : Tryd.prog.follows Departure.mixedOrders = true := by kernel_rfl
  have hbytes0 : (ps.length + 1) * 40 ≤ 140737488355328 := by omega
  obtain ⟨xs, ho, hr⟩ := hp.own
  obtain ⟨A0, c0, rfl⟩ := own_slice ho
  have HNE := Lib.hid (own_ne ho hg (by decide))
  have HO := Lib.hid ho
  have HR := Lib.hid hr
  have HBX := Lib.hid (below_alloc (Below.refl W.heap.size W) (.cells (itemCells x) 41 (0, 0)))
  have HXX := Lib.hid (blk_new W (.cells (itemCells x) 41 (0, 0)))
  have HKX := Lib.hid (keptMaps.alloc W (.cells (itemCells x) 41 (0, 0)))
  unfold itemCells at HBX HXX HKX
  have T1 := Lib.hid (pw_own_below HO.out HBX.out)
  have T2 := Lib.hid (HBX.out.mono hBW)
  have T3 := Lib.hid (Nat.le_trans hBW HBX.out.size)
  have T4 := Lib.hid (hr.imp_ (fun _ _ hm => Kd.M_step hm (fun k _ hk => HBX.out.block k hk)))
  clear hg hp hs ho hr
  go_enter Tryd.func25, Tryd.ntmps25
  go_wp2_with (at_builtin; go_loud (refine print_append_cells (w0 := W) (W := W.alloc (.cells #[.int .i64 x.f0, .int .i64 x.f1.f0, .int .u64 x.f1.f1, .bool x.f2, .string x.f3.f0, .bool x.f3.f1] 41 (0, 0))) B rfl (.tmp 15) (.tmp 17) 24 27 _ 3 _ rfl Tryd.underlying24 info27 rfl (by decide) (by decide) (.slice A0 ps.length c0) ps.length xs [.int .i64 0, .int .i64 0, .slice none 0 0] rfl ?hx rfl (three_one 0 0) T1.out T2.out T3.out hbytes0 ?_); (case hx => go_loud (go_simp)); go_loud (intro v1 w1 ho1 hb1 hg1 hat1; obtain ⟨A1, c1, rfl⟩ := own_slice ho1; obtain ⟨gv, cap, _, _, he1, _⟩ := (PartsRow.snoc 0 0 T4.out ho1 hg1 hat1).last; (injection he1 with he1 _ he2; subst he1 he2); have HG1 := Lib.hid (blk_grown (blk_below HG.out HBX.out) hg1 HNE.out); have HX1 := Lib.hid (blk_grown HXX.out hg1 (own_ne (pw_own_below HO.out HBX.out) HXX.out (by decide))); have HP1 := Lib.hid (PartsRow.snoc 0 0 T4.out ho1 hg1 hat1); have n0 : w1.cell? ⟨g, 0, none⟩ = some (.slice A0 ps.length c0) := (blk_cell HG1.out 0).trans rfl; have n1 : w1.cell? ⟨g, 1, none⟩ = some (.int .i64 s) := (blk_cell HG1.out 1).trans rfl; have z0 := blk_frozen HG1.out 0; have z1 := blk_frozen HG1.out 1; have HB1 := Lib.hid hb1; have HK1 := Lib.hid (HKX.out.trans (keptMaps.grown (pw_own_below HO.out HBX.out) hg1)); clear ho1 hb1 hg1 hat1))
  have HG3 := Lib.hid (blk_set (blk_set HG1.out 0 (.slice (some ⟨gv, 0, none⟩) (ps.length + 1) c1)) 1 (.int .i64 3))
  have HX3 := Lib.hid (blk_far (blk_far HX1.out (p := ⟨g, 0, none⟩) (Nat.ne_of_gt hglt) (.slice (some ⟨gv, 0, none⟩) (ps.length + 1) c1)) (p := ⟨g, 1, none⟩) (Nat.ne_of_gt hglt) (.int .i64 3))
  have HP3 := Lib.hid ((HP1.out.set HG1.out (i := 0) (u := .slice (some ⟨gv, 0, none⟩) (ps.length + 1) c1) (by decide)).set (blk_set HG1.out 0 _) (i := 1) (u := .int .i64 3) (by decide))
  have HB3 := Lib.hid ((HB1.out.setCell (p := ⟨g, 0, none⟩) hBg (.slice (some ⟨gv, 0, none⟩) (ps.length + 1) c1)).setCell (p := ⟨g, 1, none⟩) hBg (.int .i64 3))
  have HK3 := Lib.hid ((HK1.out.trans (keptMaps.set HG1.out 0 (.slice (some ⟨gv, 0, none⟩) (ps.length + 1) c1))).trans (keptMaps.set (blk_set HG1.out 0 _) 1 (.int .i64 3)))
  generalize ((w1.setCell ⟨g, 0, none⟩ (.slice (some ⟨gv, 0, none⟩) (ps.length + 1) c1)).setCell ⟨g, 1, none⟩ (.int .i64 3)) = W3 at HG3 HX3 HP3 HB3 HK3 ⊢
  clear n0 n1 z0 z1 m0 m1 HG1 HX1 HP1 HB1 HK1 T1 T2 T3 T4 HBX HXX HKX HO HR HNE HG
  rw [six_two] at HG3
  obtain ⟨gv2, cap2, cur, vq, he, hBgv, hgv, hc1, hc2, hR, hcap, hset, hput⟩ := HP3.out.last
  injection he with he1 _ he2
  injection he1 with he1
  injection he1 with he1
  subst he1 he2
  have HGV := Lib.hid hgv
  have HP := Lib.hid hput
  have HRR := Lib.hid hR
  have hglt3 := blk_lt HG3.out
  have hgvlt := blk_lt hgv
  have m0 : W3.cell? ⟨g, 0, none⟩ = some (.slice (some ⟨gv, 0, none⟩) (ps.length + 1) c1) := (blk_cell HG3.out 0).trans rfl
  have hw2 : IntKind.i64.wrap (((ps.length + 1 : Nat) : Int) - 1) = (ps.length : Int) := by rw [show ((ps.length + 1 : Nat) : Int) - 1 = (ps.length : Int) by omega]; exact IntWalk.i64_in _ (by omega)
  clear hgv hput hset hc1 hR
  go_region_o
  go_wp2
  obtain ⟨y0, y1, y2, y3, y4, y5⟩ := itemCells_at HX3.out
  have hgb := blk_lt HX3.out
  have hcur : cur[ps.length * 3 + 2]? = some vq := by rw [← blk_cell HGV.out]; exact hc2
  have HCU := Lib.hid hcur
  have hB3 : B ≤ W3.heap.size := Nat.le_trans hBg (Nat.le_of_lt hglt3)
  have hbytes : (([] : List S41).length + 1) * 56 ≤ 140737488355328 := by decide
  clear hcur m0
  go_region_law (refine Kd.R_append_step k41 (w0 := W) B rfl (.tmp 38) (.tmp 40) 22 41 _ _ rfl Tryd.underlying22 info41 rfl (by decide) (by decide) vq [] x [.int .i64 x.f0, .int .i64 x.f1.f0, .int .u64 x.f1.f1, .bool x.f2, .string x.f3.f0, .bool x.f3.f1] (fun _ => True) (fun _ => False) rfl rfl (item_M _ B _ x) (fun _ h => h.elim) (fun _ _ => trivial) (W := W3.drew.drew) HRR.out (below_drew (below_drew HB3.out)) hB3 hbytes ?_; intro v5 w5 ho1 hb1 hg1 hat1; obtain ⟨A5, c5, rfl⟩ := Kd.R_slice ho1; have HQ1 := Lib.hid (HP.out w5 _ _ ho1 (undrew (undrew hg1)) hat1); have n0 : w5.cell? ⟨gv, ps.length * 3 + 2, none⟩ = some vq := (blk_cell HQ1.out.2 _).trans HCU.out; have n1 := blk_frozen HQ1.out.2 (ps.length * 3 + 2); have HGG := Lib.hid (blk_grown (blk_drew (blk_drew HG3.out)) hg1 (by have := own_ne (Kd.R_own HRR.out).choose_spec HG3.out (by decide); exact this)); have HKG := Lib.hid (HK3.out.trans (keptMaps.grown (show W3.ownsRow _ _ _ vq _ _ from (Kd.R_own HRR.out).choose_spec) (undrew (undrew hg1)))); have HB5 := Lib.hid hb1; clear ho1 hb1 hg1 hat1)
  all_goals
    go_wp2
    go_end0
    have hne : g ≠ gv := blk_ne HG3.out HGV.out (by decide)
    exact ⟨rfl, ⟨_, hBg, blk_far HGG.out hne _, HQ1.out.1⟩, HB5.out.setCell (p := ⟨gv, _, none⟩) hBgv _, HKG.out.trans (keptMaps.set HQ1.out.2 _ _)⟩
end Go.Proofs.YthppicgolkpbaaaDoor.P

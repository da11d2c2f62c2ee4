/- delta.Make's contract: the parts that mkGo tells; conditions: at most 400000 items each, the items' own bounds. -/
import Derived.Test.YthppicgolkpbaaaDoorDeltaParsesGHDMakeGo
import Derived.BigQuiet
import Derived.Test.YthppicgolkpbaaaDoorDeltaParsesPxEq37
namespace Go.Proofs.YthppicgolkpbaaaDoor.P
open Go.RowKit Go.Proofs.YthppicgolkpbaaaDoorW.PrintWords Go.Proofs.YthppicgolkpbaaaDoorW.PrintLast Go.Proofs.YthppicgolkpbaaaDoorW.PrintMore
set_option linter.unusedVariables false
set_option linter.unusedSimpArgs false
attribute [local go_sem high] eqA41
def MakeRel (w : World) (N O : List S41) (b g : Nat) (res : List S27) (v7 v8 : Value) (W : World) : Prop :=
 ∃ (i j : Nat) (s : Int) (ps : List S27) (k : Nat), v7 = .int .i64 (i : Int) ∧ v8 = .int .i64 (j : Int) ∧ i ≤ N.length ∧ j ≤ O.length ∧ CntMap W b (N.length + i) (cntIt (N.drop i)) ∧ Maker W w.heap.size g ps s ∧ Below w.heap.size w W ∧
  mkGo k (i : Int) (N.drop i) (O.drop j) s ps = res ∧ (N.drop i).length + (O.drop j).length ≤ k ∧ partsFit ps (i + j) ∧ lastFit s ps
def delta_Make.f (l0 l1 : List S41) : Option (List S27) := if (l0.all itemWf && l1.all itemWf && decide (l0.length ≤ 400000) && decide (l1.length ≤ 400000)) = true then some (makeOf l0 l1) else none
theorem wf_at {l : List S41} (h : l.all itemWf = true) (i : Nat) (hi : i < l.length) : itemWf (rd_T41 l (i : Int)) = true := List.all_eq_true.1 h _ (List.mem_of_getElem? (it_at l i hi))
set_option maxHeartbeats 8000000 in
set_option maxRecDepth 100000 in
theorem delta_Make.calls (A0 : Option Addr) (c0 : Nat) (l0 : List S41) (A1 : Option Addr) (c1 : Nat) (l1 : List S41) (r : List S27) (w : World) (hr0 : Kd.C k41 w A0 l0.length l0) (hc0 : l0.length ≤ c0) (hr1 : Kd.C k41 w A1 l1.length l1) (hc1 : l1.length ≤ c1) (h : delta_Make.f l0 l1 = some r) :
  Calls Tryd.prog 11 #[.slice A0 l0.length c0, .slice A1 l1.length c1] w fun e w' => ∃ v0_ : Value, e = .returned v0_ ∧ Kd.R k27 27 w' w.heap.size (fun _ => True) v0_ r ∧ Below w.heap.size w w' := by
 unfold delta_Make.f at h
 by_cases hall : (l0.all itemWf && l1.all itemWf && decide (l0.length ≤ 400000) && decide (l1.length ≤ 400000)) = true
 case neg => rw [if_neg hall] at h; cases h
 rw [if_pos hall] at h
 have hres := Option.some.inj h
 simp only [Bool.and_eq_true, decide_eq_true_eq] at hall
 obtain ⟨⟨⟨hw0, hw1⟩, hn0⟩, hn1⟩ := hall
 have HW0 := Lib.hid hw0
 have HW1 := Lib.hid hw1
 have HRES := Lib.hid hres
 have HR0 := Lib.hid hr0
 have HR1 := Lib.hid hr1
 clear h hw0 hw1 hres hr0 hr1
 have mixed : Tryd.prog.follows Departure.mixedOrders = true := by kernel_rfl
 go_enter Tryd.func11, Tryd.ntmps11
 go_wp2_with (go_at_call 23; (with_reducible refine (left_calls A0 c0 l0 _ HW0.out (by omega) HR0.out hc0).mono ?_); rintro e w1 ⟨b, rfl, hb, hcnt, hbel⟩; have HCNT := Lib.hid hcnt; have HB1 := Lib.hid hbel; clear hcnt hbel)
 obtain ⟨g, hg⟩ : ∃ g, g = w1.heap.size := ⟨_, rfl⟩
 have HG0 := Lib.hid (blk_new w1 (.cells #[.slice none 0 0, .int .i64 0] 57 (0, 0)))
 have HB2 := Lib.hid (below_alloc (below_step HB1.out (Below.refl _ _)) (.cells #[.slice none 0 0, .int .i64 0] 57 (0, 0)))
 have HC2 := Lib.hid (HCNT.out.below (below_alloc (Below.refl _ _) (.cells #[.slice none 0 0, .int .i64 0] 57 (0, 0))))
 rw [← hg] at HG0 ⊢
 have hgw : w.heap.size ≤ g := by rw [hg]; exact HB1.out.size
 clear HCNT hg
 generalize w1.alloc (.cells #[.slice none 0 0, .int .i64 0] 57 (0, 0)) = w2 at HG0 HB2 HC2 ⊢
 go_loopw [7, 8] (fun v7 v8 W => MakeRel w l0 l1 b g r v7 v8 W) (fun v7 v8 _ => (l0.length - (intOf v7).toNat) + (l1.length - (intOf v8).toNat))
 case atStart => exact ⟨0, 0, 0, [], l0.length + l1.length, rfl, rfl, Nat.zero_le _, Nat.zero_le _, HC2.out, ⟨_, hgw, HG0.out, .inl ⟨rfl, own_nil _ _ _ _⟩⟩, HB2.out, HRES.out, by simp, ⟨Nat.zero_le _, fun p hp => by cases hp⟩, fun h => by rcases h with h | h <;> cases h⟩
 case round =>
  obtain ⟨i, j, s, ps, k, rfl, rfl, hi, hj, hcnt, hM, HB, hgo, hk, hfit, hs⟩ := hrel
  have HM := Lib.hid hM
  have HCN := Lib.hid hcnt
  have HGO := Lib.hid hgo
  have HFIT := Lib.hid hfit
  have HS := Lib.hid hs
  clear hM hcnt hgo hfit hs
  have hBr := HB.size
  by_cases hi2 : i < l0.length
  ·
   have di1 : decide (i < l0.length) = true := by simpa using hi2
   have hxw := wf_at HW0.out i hi2
   have hdi := it_drop l0 i hi2
   have hli : (l0.drop i).length = l0.length - i := List.length_drop
   have hlj : (l1.drop j).length = l1.length - j := List.length_drop
   have HST := Lib.hid (cnt_drop l0 i hi2)
   have hbd := cnt_bd l0 i (rd_T41 l0 (i : Int))
   by_cases hj2 : j < l1.length
   ·
    have dj1 : decide (j < l1.length) = true := by simpa using hj2
    have hyw := wf_at HW1.out j hj2
    have hdj := it_drop l1 j hj2
    have HK := Lib.hid (show ∃ k', k = k' + 1 ∧ (if eqIt (rd_T41 l0 (i : Int)) (rd_T41 l1 (j : Int)) = true then mkGo k' ((i : Int) + 1) (l0.drop (i + 1)) (l1.drop (j + 1)) 1 (keepP ps s (i : Int)) else if cntIt (l0.drop i) (rd_T41 l1 (j : Int)) = 0 then mkGo k' (i : Int) (l0.drop i) (l1.drop (j + 1)) 3 (inP ps s (rd_T41 l1 (j : Int))) else mkGo k' ((i : Int) + 1) (l0.drop (i + 1)) (l1.drop j) 2 ps) = r by
     obtain ⟨k', rfl⟩ : ∃ k', k = k' + 1 := ⟨k - 1, by omega⟩
     exact ⟨k', rfl, by have := HGO.out; rw [hdi, hdj, mkGo, ← hdi, ← hdj] at this; exact this⟩)
    have hbdy := cnt_bd l0 i (rd_T41 l1 (j : Int))
    obtain ⟨ad, rfl, hcx⟩ := cells_at HR0.out i hi2
    obtain ⟨ae, rfl, hcy⟩ := cells_at HR1.out j hj2
    have HCX := Lib.hid hcx
    have HCY := Lib.hid hcy
    clear hdi hdj hcx hcy HGO
    generalize rd_T41 l0 (i : Int) = x at HCX hxw HK HST hbd
    generalize rd_T41 l1 (j : Int) = y at HCY hyw HK hbdy
    obtain ⟨x0, x1, x2, x3, x4, x5⟩ := HCX.out.below HB
    obtain ⟨y0, y1, y2, y3, y4, y5⟩ := HCY.out.below HB
    by_cases he : eqIt x y = true
    ·
     obtain rfl := (eqIt_iff _ _).1 he
     have HKE := Lib.hid (show ∃ k', k = k' + 1 ∧ mkGo k' ((i : Int) + 1) (l0.drop (i + 1)) (l1.drop (j + 1)) 1 (keepP ps s (i : Int)) = r by obtain ⟨k', h1, h2⟩ := HK.out; exact ⟨k', h1, by rwa [if_pos he] at h2⟩)
     have HKP := Lib.hid (fun W hM hB => keep_calls W w.heap.size g ps s (i : Int) (i + j) (by omega) hM HFIT.out HS.out hB)
     clear he HK
     go_wp2_with fail
     go_quiet (fail)
     go_wp2_with (go_at_call 24; (refine (HKP.out _ (HM.out.below (pw_below_drewN (Below.refl _ _) _)) hBr).mono ?_); rintro e w3 ⟨rfl, hM3, hB3, hk3⟩; have HM3 := Lib.hid hM3; have HB3 := Lib.hid ((pw_below_drewN HB _).trans hB3); have HC3 := Lib.hid ((HCN.out.below (pw_below_drewN (Below.refl _ _) _)).keptMaps hk3); clear hM3 hB3 hk3)
     clear x0 x1 x2 x3 x4 x5 y0 y1 y2 y3 y4 y5
     obtain ⟨x0, x1, x2, x3, x4, x5⟩ := HCX.out.below HB3.out
     obtain ⟨st, w5, w6, e1, e2, e3, e4, hc6, hg6⟩ := cnt_region HC3.out.drew (by unfold maxLen; omega) x hxw (cntIt (l0.drop i) x - 1) (wf_i64 (by omega) (by omega))
     have HC6 := Lib.hid hc6
     have HG6 := Lib.hid (undrew hg6)
     have HBD := Lib.hid hbd
     obtain ⟨c, HCc⟩ : ∃ c, Hid (cntIt (l0.drop i) x = c) := ⟨_, Lib.hid rfl⟩
     rw [HCc.out] at e1 e2 e3 e4 hbd
     unfold valOf at e1 e2 e3
     have hwc : IntKind.i64.wrap (c - 1) = c - 1 := IntWalk.i64_in _ (by omega)
     clear hc6 hg6 hxw
     go_region_o
     go_wp2
     go_roundw
     case rel =>
      obtain ⟨k', rfl, hgo'⟩ := HKE.out
      obtain ⟨es, cl, hbm⟩ := HC3.out.block
      have hfs := keepP_fit (i := (i : Int)) HFIT.out HS.out
      exact ⟨i + 1, j + 1, 1, keepP ps s (i : Int), k', by go_num, by go_num, by omega, by omega, by rw [← HST.out]; exact HC6.out, HM3.out.mapTurned hbm HG6.out, HB3.out.grown HG6.out HB3.out.size (fun k hk => by injection hk with hk; omega), hgo', by rw [List.length_drop, List.length_drop]; rw [hli, hlj] at hk; omega, ⟨by have := hfs.1.1; omega, fun p hp => by have := hfs.1.2 p hp; omega⟩, hfs.2⟩
     case measure => simp [intOf]; omega
    ·
     have hne := not_eq_fields he
     by_cases hc0 : cntIt (l0.drop i) y = 0
     ·
      have HKE := Lib.hid (show ∃ k', k = k' + 1 ∧ mkGo k' (i : Int) (l0.drop i) (l1.drop (j + 1)) 3 (inP ps s y) = r by obtain ⟨k', h1, h2⟩ := HK.out; exact ⟨k', h1, by rwa [if_neg he, if_pos hc0] at h2⟩)
      have HIN := Lib.hid (fun W hM hB => in_calls W w.heap.size g ps s y (i + j) (by omega) hM HFIT.out HS.out hB)
      have HC0 := Lib.hid hc0
      have hil : ((i : Int) == (l0.length : Int)) = false := by simp; omega
      clear he HK hc0
      go_wp2_with fail
      go_quiet (fail)
      have el := cnt_lookup (HCN.out.below (pw_below_drewN (Below.refl _ _) nq)) y hyw
      rw [HC0.out] at el
      unfold valOf at el
      go_wp2_with (go_at_call 25; (refine (HIN.out _ (HM.out.below (pw_below_drewN (Below.refl _ _) _)) hBr).mono ?_); rintro e w3 ⟨rfl, hM3, hB3, hk3⟩; have HM3 := Lib.hid hM3; have HB3 := Lib.hid ((pw_below_drewN HB _).trans hB3); have HC3 := Lib.hid ((HCN.out.below (pw_below_drewN (Below.refl _ _) _)).keptMaps hk3); clear hM3 hB3 hk3)
      go_roundw
      case rel =>
       obtain ⟨k', rfl, hgo'⟩ := HKE.out
       have hfs := inP_fit (x := y) HFIT.out HS.out
       exact ⟨i, j + 1, 3, inP ps s y, k', rfl, by go_num, hi, by omega, HC3.out, HM3.out, HB3.out, hgo', by rw [List.length_drop, List.length_drop]; rw [hli, hlj] at hk; omega, hfs.1, hfs.2⟩
      case measure => simp [intOf]; omega
     ·
      have HKE := Lib.hid (show ∃ k', k = k' + 1 ∧ mkGo k' ((i : Int) + 1) (l0.drop (i + 1)) (l1.drop j) 2 ps = r by obtain ⟨k', h1, h2⟩ := HK.out; exact ⟨k', h1, by rwa [if_neg he, if_neg hc0] at h2⟩)
      have hil : ((i : Int) == (l0.length : Int)) = false := by simp; omega
      obtain ⟨cy, HCY2⟩ : ∃ c, Hid (cntIt (l0.drop i) y = c) := ⟨_, Lib.hid rfl⟩
      have hcy : (cy == 0) = false := by rw [← HCY2.out]; simpa using hc0
      obtain ⟨_, _, l1c, l1f, hBg⟩ := HM.out.setLast 2
      clear he HK hc0 hbdy
      go_wp2_with fail
      go_quiet (fail)
      have el := cnt_lookup (HCN.out.below (pw_below_drewN (Below.refl _ _) nq)) y hyw
      rw [HCY2.out] at el
      unfold valOf at el
      go_wp2_with fail
      obtain ⟨hM2, hkm, _, _, _⟩ := (HM.out.below (pw_below_drewN (Below.refl _ _) nq)).setLast 2
      have HM3 := Lib.hid hM2
      have HC3 := Lib.hid ((HCN.out.below (pw_below_drewN (Below.refl _ _) nq)).keptMaps hkm)
      have HB3 := Lib.hid ((pw_below_drewN HB nq).setCell (p := ⟨g, 1, none⟩) hBg (.int .i64 2))
      generalize (wr.drewN nq).setCell ⟨g, 1, none⟩ (.int .i64 2) = W at HM3 HC3 HB3 ⊢
      clear l1c l1f hM2 hkm el x0 x1 x2 x3 x4 x5 y0 y1 y2 y3 y4 y5
      obtain ⟨x0, x1, x2, x3, x4, x5⟩ := HCX.out.below HB3.out
      obtain ⟨st, w5, w6, e1, e2, e3, e4, hc6, hg6⟩ := cnt_region HC3.out.drew (by unfold maxLen; omega) x hxw (cntIt (l0.drop i) x - 1) (wf_i64 (by omega) (by omega))
      have HC6 := Lib.hid hc6
      have HG6 := Lib.hid (undrew hg6)
      have HBD := Lib.hid hbd
      obtain ⟨c, HCc⟩ : ∃ c, Hid (cntIt (l0.drop i) x = c) := ⟨_, Lib.hid rfl⟩
      rw [HCc.out] at e1 e2 e3 e4 hbd
      unfold valOf at e1 e2 e3
      have hwc : IntKind.i64.wrap (c - 1) = c - 1 := IntWalk.i64_in _ (by omega)
      clear hc6 hg6 hxw
      go_region_o
      go_wp2
      go_roundw
      case rel =>
       obtain ⟨k', rfl, hgo'⟩ := HKE.out
       obtain ⟨es, cl, hbm⟩ := HC3.out.block
       exact ⟨i + 1, j, 2, ps, k', by go_num, rfl, by omega, hj, by rw [← HST.out]; exact HC6.out, HM3.out.mapTurned hbm HG6.out, HB3.out.grown HG6.out HB3.out.size (fun k hk => by injection hk with hk; omega), hgo', by rw [List.length_drop, List.length_drop]; rw [hli, hlj] at hk; omega, ⟨by have := HFIT.out.1; omega, fun p hp => by have := HFIT.out.2 p hp; omega⟩, fun h => by rcases h with h | h <;> cases h⟩
      case measure => simp [intOf]; omega
   ·
    obtain rfl : j = l1.length := by omega
    have dj1 : decide (l1.length < l1.length) = false := by simp
    have HK : Hid (∃ k', k = k' + 1 ∧ mkGo k' ((i : Int) + 1) (l0.drop (i + 1)) [] 2 ps = r) := by
     obtain ⟨k', rfl⟩ : ∃ k', k = k' + 1 := ⟨k - 1, by omega⟩
     exact ⟨k', rfl, by have := HGO.out; rw [List.drop_length, hdi, mkGo] at this; exact this⟩
    obtain ⟨ad, rfl, hcx⟩ := cells_at HR0.out i hi2
    have HCX := Lib.hid hcx
    clear hdi hcx
    generalize rd_T41 l0 (i : Int) = x at HCX hxw HK HST hbd
    obtain ⟨_, _, l1c, l1f, hBg⟩ := HM.out.setLast 2
    clear HGO
    go_wp2_with fail
    go_quiet (fail)
    go_wp2_with fail
    obtain ⟨hM2, hkm, _, _, _⟩ := (HM.out.below (pw_below_drewN (Below.refl _ _) nq)).setLast 2
    have HM3 := Lib.hid hM2
    have HC3 := Lib.hid ((HCN.out.below (pw_below_drewN (Below.refl _ _) nq)).keptMaps hkm)
    have HB3 := Lib.hid ((pw_below_drewN HB nq).setCell (p := ⟨g, 1, none⟩) hBg (.int .i64 2))
    generalize (wr.drewN nq).setCell ⟨g, 1, none⟩ (.int .i64 2) = W at HM3 HC3 HB3 ⊢
    clear l1c l1f hM2 hkm
    obtain ⟨x0, x1, x2, x3, x4, x5⟩ := HCX.out.below HB3.out
    obtain ⟨st, w5, w6, e1, e2, e3, e4, hc6, hg6⟩ := cnt_region HC3.out.drew (by unfold maxLen; omega) x hxw (cntIt (l0.drop i) x - 1) (wf_i64 (by omega) (by omega))
    have HC6 := Lib.hid hc6
    have HG6 := Lib.hid (undrew hg6)
    have HBD := Lib.hid hbd
    obtain ⟨c, HCc⟩ : ∃ c, Hid (cntIt (l0.drop i) x = c) := ⟨_, Lib.hid rfl⟩
    rw [HCc.out] at e1 e2 e3 e4 hbd
    unfold valOf at e1 e2 e3
    have hwc : IntKind.i64.wrap (c - 1) = c - 1 := IntWalk.i64_in _ (by omega)
    clear hc6 hg6 hxw
    go_region_o
    go_wp2
    go_roundw
    case rel =>
     obtain ⟨k', rfl, hgo'⟩ := HK.out
     obtain ⟨es, cl, hbm⟩ := HC3.out.block
     exact ⟨i + 1, l1.length, 2, ps, k', by go_num, rfl, by omega, Nat.le_refl _, by rw [← HST.out]; exact HC6.out, HM3.out.mapTurned hbm HG6.out, HB3.out.grown HG6.out HB3.out.size (fun k hk => by injection hk with hk; omega), by rw [List.drop_length]; exact hgo', by rw [List.length_drop, List.drop_length]; rw [hli, hlj] at hk; simp; omega, ⟨by have := HFIT.out.1; omega, fun p hp => by have := HFIT.out.2 p hp; omega⟩, fun h => by rcases h with h | h <;> cases h⟩
    case measure => simp [intOf]; omega
  ·
   obtain rfl : i = l0.length := by omega
   have di1 : decide (l0.length < l0.length) = false := by simp
   by_cases hj2 : j < l1.length
   ·
    have dj1 : decide (j < l1.length) = true := by simpa using hj2
    have hx := wf_at HW1.out j hj2
    have hdj := it_drop l1 j hj2
    have hdi : l0.drop l0.length = [] := List.drop_length
    have hdl : (l1.drop j).length = l1.length - j := List.length_drop
    have HK : Hid (∃ k', k = k' + 1 ∧ mkGo k' ((l0.length : Nat) : Int) [] (l1.drop (j + 1)) 3 (inP ps s (rd_T41 l1 (j : Int))) = r) := by
     obtain ⟨k', rfl⟩ : ∃ k', k = k' + 1 := ⟨k - 1, by omega⟩
     exact ⟨k', rfl, by have := HGO.out; rw [hdi, hdj, mkGo] at this; exact this⟩
    obtain ⟨ad, rfl, x0, x1, x2, x3, x4, x5⟩ := at_T41 (Kd.C_below HR1.out HB) (j : Int) (by omega) (by omega)
    rw [Int.toNat_natCast] at x0 x1 x2 x3 x4 x5
    clear hdj
    generalize rd_T41 l1 (j : Int) = x at x0 x1 x2 x3 x4 x5 hx HK
    have HIN := Lib.hid (fun W hM hB => in_calls W w.heap.size g ps s x (l0.length + j) (by omega) hM HFIT.out HS.out hB)
    clear HGO
    go_wp2_with fail
    go_quiet (fail)
    go_wp2_with (go_at_call 25; (refine (HIN.out _ (HM.out.below (pw_below_drewN (Below.refl _ _) _)) hBr).mono ?_); rintro e w3 ⟨rfl, hM3, hB3, hk3⟩; have HM3 := Lib.hid hM3; have HB3 := Lib.hid hB3; have HK3 := Lib.hid hk3; clear hM3 hB3 hk3)
    go_roundw
    case rel =>
     obtain ⟨k', rfl, hgo'⟩ := HK.out
     have hfs := inP_fit (x := x) HFIT.out HS.out
     exact ⟨l0.length, j + 1, 3, inP ps s x, k', rfl, by go_num, Nat.le_refl _, by omega, (HCN.out.below (pw_below_drewN (Below.refl _ _) _)).keptMaps HK3.out, HM3.out, (pw_below_drewN HB _).trans HB3.out, by rw [hdi]; exact hgo', by rw [hdi, List.length_drop]; rw [hdi, hdl] at hk; simp at hk ⊢; omega, hfs.1, hfs.2⟩
    case measure => simp [intOf]; omega
   ·
    obtain rfl : j = l1.length := by omega
    have dj1 : decide (l1.length < l1.length) = false := by simp
    have HE : Hid (ps = r) := by
     show _ = _
     have h2 := HGO.out
     rw [List.drop_length, List.drop_length] at h2
     rw [← h2]
     cases k <;> rfl
    obtain ⟨v, hgB, hgg, hp⟩ := HM.out
    have m0 : wr.cell? ⟨g, 0, none⟩ = some v := (blk_cell hgg 0).trans rfl
    have HP := Lib.hid hp.all
    clear hp hgg
    go_wp2
    go_ret
    exact ⟨_, rfl, by rw [← HE.out]; exact HP.out, HB⟩
end Go.Proofs.YthppicgolkpbaaaDoor.P

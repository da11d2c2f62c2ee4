/- jalousielaw15.DeltaApplies answers true: its printed function; conditions: at most 2000000 values and letters. -/
import Derived.Test.YthppicgolkpbaaaDoorDeltaAppliesHDApplyPlain
import Derived.Test.YthppicgolkpbaaaDoorDeltaAppliesHLive15
import Derived.Test.YthppicgolkpbaaaDoorDeltaAppliesHOpenStruct
import Derived.Test.YthppicgolkpbaaaDoorDeltaAppliesPxJalousieref04
namespace Go.Proofs.YthppicgolkpbaaaDoor.P
open Go.RowKit Go.Proofs.YthppicgolkpbaaaDoorW.PrintWords Go.Proofs.YthppicgolkpbaaaDoorW.PrintLast Go.Proofs.YthppicgolkpbaaaDoorW.PrintMore
set_option linter.unusedVariables false
set_option linter.unusedSimpArgs false
theorem apply_len (N : List S41) : ∀ (d : List S27) (acc : List S41), (applyGo N d acc).1.length ≤ acc.length + costOf N.length d
  | [], acc => by simp [applyGo]
  | p :: d, acc => by
    rw [applyGo, cost_cons]
    by_cases hw : wrongOf p.f0 p.f1 p.f2.length = 0
    · rw [if_pos hw]
      have hg := wrong_good hw
      by_cases h0 : 0 < p.f1
      · rw [if_pos h0]
        by_cases h2 : (N.length : Int) < p.f1 ∨ (N.length : Int) - p.f1 < p.f0
        · rw [if_pos h2]; simp
        · rw [if_neg h2]
          have ih := apply_len N d (acc ++ (N.take (p.f0 + p.f1).toNat).drop p.f0.toNat)
          have hl := cut_len N p.f0.toNat p.f1.toNat
          rw [show (p.f0 + p.f1).toNat = p.f0.toNat + p.f1.toNat by omega] at ih ⊢
          rw [List.length_append] at ih
          omega
      · rw [if_neg h0]
        have ih := apply_len N d (acc ++ p.f2)
        rw [List.length_append] at ih
        omega
    · rw [if_neg hw]; simp
theorem cost_le (n : Nat) (d : List S27) : costOf n d = n * d.length + ownOf d := by
  induction d with
  | nil => simp [costOf, ownOf]
  | cons p d ih =>
    rw [cost_cons, ih]
    have : ownOf (p :: d) = p.f2.length + ownOf d := by simp [ownOf]
    rw [this, List.length_cons, Nat.mul_succ]
    omega
def AppliesRel (w : World) (B1 gv n : Nat) (v7 : Value) (L : List S41) (v9 : Value) (W : World) : Prop :=
  ∃ (i : Nat) (cs : Array Value), v9 = .int .i64 (i : Int) ∧ i ≤ n ∧ W.heap[gv]? = some (.cells cs 41 (0, 0)) ∧ n * 6 ≤ cs.size ∧ k41.R 41 W B1 (fun k => k ≠ gv) v7 L ∧ Below w.heap.size w W
set_option maxHeartbeats 4000000 in
set_option maxRecDepth 100000 in
theorem DeltaApplies.walk (A0 : Option Addr) (c0 : Nat) (l0 : List S41) (A1 : Option Addr) (c1 : Nat) (l1 : List S27) (w : World) (hT : Tabs w)
    (hr0 : Kd.C k41 w A0 l0.length l0) (hc0 : l0.length ≤ c0) (hr1 : Kd.C k27 w A1 l1.length l1) (hc1 : l1.length ≤ c1) (hs0 : l0.length ≤ 1500000) (hs1 : l1.length ≤ 1500000) (ho : ownOf l1 ≤ 1500000) :
    Calls Tryd.prog 5 #[.slice A0 l0.length c0, .slice A1 l1.length c1] w fun e w' => e = .returned (.bool true) ∧ Below w.heap.size w w' := by
  have h1 : l0.length * l1.length ≤ 1500000 * 1500000 := Nat.mul_le_mul hs0 hs1
  have hcost : costOf l0.length l1 < 2513169434916 := by rw [cost_le]; omega
  have hlen := apply_len l0 l1 []
  simp only [List.length_nil, Nat.zero_add] at hlen
  obtain ⟨ka, hka⟩ := Ev.rounds (apply_tells l0 (by omega) l1 (by omega) hcost)
  obtain ⟨kr, hkr⟩ := Ev.rounds (ref_apply_tells l0 (by omega) l1 (by omega) hcost)
  obtain ⟨ks, hks⟩ := Ev.rounds (items_same (applyGo l0 l1 []).1 (by omega))
  have hLl : (applyGo l0 l1 []).1.length ≤ 2513169434916 := by omega
  obtain ⟨L, hL⟩ : ∃ L, (applyGo l0 l1 []).1 = L := ⟨_, rfl⟩
  obtain ⟨E, hE⟩ : ∃ E, (applyGo l0 l1 []).2 = E := ⟨_, rfl⟩
  have hpair : applyGo l0 l1 [] = (L, E) := by rw [← hL, ← hE]
  rw [hpair] at hka hkr hks hLl
  have HAP := Lib.hid hka
  have HAR := Lib.hid hkr
  have HKS := Lib.hid hks
  have HT := Lib.hid hT
  have HR0 := Lib.hid hr0
  have HR1 := Lib.hid hr1
  clear hka hkr hks hT hr0 hr1 hs0 hs1 ho h1 hcost hlen hL hE hpair
  have hee : (E != E) = false := by simp
  go_enter Tryd.func5, Tryd.ntmps5
  go_wp2_with (first
    | (go_at_call 16; (with_reducible refine (delta_Apply.calls ka A0 c0 l0 A1 c1 l1 L E _ HR0.out hc0 HR1.out hc1 HAP.out).mono ?_); rintro e w1 ⟨v5, rfl, hr, hb⟩; obtain ⟨A5, c5, rfl, hc5, hC5⟩ := Kd.R_reads hr; have HR5 := Lib.hid hr; have HC5 := Lib.hid hC5; have HB1 := Lib.hid hb; clear hr hb hC5)
    | (go_at_call 18; (with_reducible refine (jalousieref15_Apply.calls kr A0 c0 l0 A1 c1 l1 L E _ (Kd.C_below HR0.out HB1.out) hc0 (Kd.C_below HR1.out HB1.out) hc1 HAR.out).mono ?_); rintro e w2 ⟨v7, rfl, hr, hb⟩; obtain ⟨A7, c7, rfl, hc7, hC7⟩ := Kd.R_reads hr; have HR7 := Lib.hid hr; have HC7 := Lib.hid hC7; have HB2 := Lib.hid (below_step HB1.out hb); have HR52 := Lib.hid (Kd.R_below HR5.out hb); have HC52 := Lib.hid (Kd.C_below HC5.out hb); clear hr hb hC7)
    | (go_at_call 17; (with_reducible refine (jalousieref04_Same.calls ks A5 c5 L A7 c7 L true _ HC52.out hc5 HC7.out hc7 HKS.out).mono ?_); rintro e w3 ⟨rfl, hdr⟩; have HB3 := Lib.hid (below_step HB2.out (Drawn0.below hdr)); have HR53 := Lib.hid (Kd.R_below HR52.out (Drawn0.below hdr)); have HR73 := Lib.hid (Kd.R_below HR7.out (Drawn0.below hdr)); clear hdr))
  rcases Nat.eq_zero_or_pos L.length with hz | hpos
  · have hd0 : decide (0 < L.length) = false := by simp; exact List.eq_nil_of_length_eq_zero hz
    clear hz
    go_loopw [9] (fun v9 W => v9 = .int .i64 0 ∧ k41.R 41 W w1.heap.size (fun _ => True) (.slice A7 L.length c7) L ∧ Below w.heap.size w W) (fun _ _ => 0)
    case atStart => exact ⟨rfl, HR73.out, HB3.out⟩
    case round =>
      obtain ⟨rfl, hR, hBX⟩ := hrel
      have HBX := Lib.hid hBX
      have hC := (Kd.R_reads' hR).2.2
      have HMX := Lib.hid hC
      clear hR hBX hC
      go_wp2_with (first
        | (go_at_call 18; (with_reducible refine (jalousieref15_Apply.calls kr A0 c0 l0 A1 c1 l1 L E _ (Kd.C_below HR0.out HBX.out) hc0 (Kd.C_below HR1.out HBX.out) hc1 HAR.out).mono ?_); rintro e w5 ⟨v10, rfl, hr, hb⟩; obtain ⟨A10, c10, rfl, hc10, hC10⟩ := Kd.R_reads hr; have HC10 := Lib.hid hC10; have HB5 := Lib.hid (below_step HBX.out hb); have HM5 := Lib.hid (Kd.C_below HMX.out hb); clear hr hb hC10)
        | (go_at_call 12; (with_reducible refine (jalousielaw15_live.calls true _ (HT.out.below HB5.out) rfl).mono ?_); rintro e w6 ⟨rfl, hb⟩; have HB6 := Lib.hid (below_step HB5.out hb); have HM6 := Lib.hid (Kd.C_below HM5.out hb); have HC6 := Lib.hid (Kd.C_below HC10.out hb); clear hb)
        | (go_at_call 17; (with_reducible refine (jalousieref04_Same.calls ks A7 c7 L A10 c10 L true _ HM6.out hc7 HC6.out hc10 HKS.out).mono ?_); rintro e w7 ⟨rfl, hdr⟩; have HB7 := Lib.hid (below_step HB6.out (Drawn0.below hdr)); clear hdr))
      go_ret
      exact ⟨rfl, HB7.out⟩
  · obtain ⟨inner, hown⟩ := Kd.R_own HR53.out
    have hown0 := hown
    rcases hown0.2 with ⟨_, hn⟩ | ⟨gv, cap, cur, hv, hBg, hgv, hnc, _, hsz, _⟩
    · omega
    injection hv with hv1 hv2 hv3
    subst hv1 hv3
    have hgv1 : gv < w1.heap.size := own_lt (Kd.R_own HR5.out).choose_spec gv rfl
    have HR74 := Lib.hid (Kd.R_mono (Kd.R_bound HR73.out) (fun k hk => (show k ≠ gv by have := hk.2.1; omega)))
    have hsz6 : L.length * 6 ≤ cur.size := by rw [hsz]; exact Nat.mul_le_mul_right _ hnc
    go_loopw [9] (fun v9 W => AppliesRel w w1.heap.size gv L.length (.slice A7 L.length c7) L v9 W) (fun v9 _ => L.length - (intOf v9).toNat)
    case atStart => exact ⟨0, cur, rfl, Nat.zero_le _, hgv, hsz6, HR74.out, HB3.out⟩
    case round =>
      obtain ⟨i, cs, rfl, hi, hcs, hcsz, hR, hBX⟩ := hrel
      by_cases hil : i < L.length
      · have hd : decide (i < L.length) = true := by simpa using hil
        have hlt : i * 6 < cs.size := by omega
        have hcell : wr.cell? ⟨gv, i * 6, none⟩ = some cs[i * 6] := by rw [blk_cell hcs]; exact Array.getElem?_eq_getElem hlt
        have hfz := blk_frozen hcs (i * 6)
        have HCS := Lib.hid hcs
        have HRR := Lib.hid hR
        clear hcs hR
        go_wp2
        go_roundw
        case rel =>
          exact ⟨i + 1, _, by go_num, by omega, blk_set HCS.out (i * 6) _, by rw [Array.size_setIfInBounds]; exact hcsz, Kd.R_far HRR.out (p := ⟨gv, i * 6, none⟩) (fun k hk => hk) _, hBX.setCell (p := ⟨gv, i * 6, none⟩) hBg _⟩
        case measure => simp [intOf]; omega
      · have hd : decide (i < L.length) = false := by simpa using hil
        obtain rfl : i = L.length := by omega
        have HBX := Lib.hid hBX
        have hC := (Kd.R_reads' hR).2.2
        have HMX := Lib.hid hC
        clear hR hBX hC hcs
        go_wp2_with (first
          | (go_at_call 18; (with_reducible refine (jalousieref15_Apply.calls kr A0 c0 l0 A1 c1 l1 L E _ (Kd.C_below HR0.out HBX.out) hc0 (Kd.C_below HR1.out HBX.out) hc1 HAR.out).mono ?_); rintro e w5 ⟨v10, rfl, hr, hb⟩; obtain ⟨A10, c10, rfl, hc10, hC10⟩ := Kd.R_reads hr; have HC10 := Lib.hid hC10; have HB5 := Lib.hid (below_step HBX.out hb); have HM5 := Lib.hid (Kd.C_below HMX.out hb); clear hr hb hC10)
          | (go_at_call 12; (with_reducible refine (jalousielaw15_live.calls true _ (HT.out.below HB5.out) rfl).mono ?_); rintro e w6 ⟨rfl, hb⟩; have HB6 := Lib.hid (below_step HB5.out hb); have HM6 := Lib.hid (Kd.C_below HM5.out hb); have HC6 := Lib.hid (Kd.C_below HC10.out hb); clear hb)
          | (go_at_call 17; (with_reducible refine (jalousieref04_Same.calls ks A7 c7 L A10 c10 L true _ HM6.out hc7 HC6.out hc10 HKS.out).mono ?_); rintro e w7 ⟨rfl, hdr⟩; have HB7 := Lib.hid (below_step HB6.out (Drawn0.below hdr)); clear hdr))
        go_ret
        exact ⟨rfl, HB7.out⟩
theorem sum_ge_len {α : Type} (f : α → Nat) (h : ∀ x, 1 ≤ f x) : ∀ l : List α, l.length ≤ (l.map f).sum
  | [] => by simp
  | x :: l => by
    have := sum_ge_len f h l
    have := h x
    simp only [List.length_cons, List.map_cons, List.sum_cons]
    omega
theorem own_ge (d : List S27) : ownOf d ≤ (d.map fun p => 1 + (1 + ((p.f2.map fun z => 1 + ((1 + 1 + 1) + (1 + (z.f3.f0.size + 1 + 1 + 1))) + 1).sum + 1)) + 1).sum := by
  induction d with
  | nil => simp [ownOf]
  | cons p d ih =>
    have : ownOf (p :: d) = p.f2.length + ownOf d := by simp [ownOf]
    rw [this]
    have := sum_ge_len (fun z : S41 => 1 + ((1 + 1 + 1) + (1 + (z.f3.f0.size + 1 + 1 + 1))) + 1) (fun x => by omega) p.f2
    simp only [List.map_cons, List.sum_cons]
    omega
end Go.Proofs.YthppicgolkpbaaaDoor.P

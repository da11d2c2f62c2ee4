/- what this claim needs of the words and the printed functions; conditions: as each statement says -/
import Derived.Test.YthppicgolkpbaaaDoorDeltaParsesHDMake
import Derived.Test.YthppicgolkpbaaaDoorDeltaParsesHDBehind
import Derived.Test.YthppicgolkpbaaaDoorDeltaParsesPxDelta
import Derived.Test.YthppicgolkpbaaaDoorDeltaParsesPxDeltav1
import Derived.StillTailTactics
import Derived.Test.YthppicgolkpbaaaDoorDeltaParsesGHDParseFit
import Derived.Test.YthppicgolkpbaaaDoorDeltaParsesHDRefParse
namespace Go.Proofs.YthppicgolkpbaaaDoor.P
open Go.RowKit Go.Proofs.YthppicgolkpbaaaDoorW.PrintWords Go.Proofs.YthppicgolkpbaaaDoorW.PrintLast Go.Proofs.YthppicgolkpbaaaDoorW.PrintMore
set_option linter.unusedVariables false
set_option linter.unusedSimpArgs false
attribute [local go_sem high] eqA41
def jalousielaw15_live.f : Option Bool := some true
def lvA : S41 := ⟨1, ⟨0, 0⟩, false, ⟨⟨#[97]⟩, false⟩⟩
def lvB : S41 := ⟨2, ⟨0, 0⟩, false, ⟨⟨#[98, 32, 99]⟩, false⟩⟩
theorem live15_make : delta_Make.f [lvA] [lvA, lvB] = some [⟨0, 1, []⟩, ⟨0, 0, [lvB]⟩] := by kernel_rfl
theorem live15_print : delta_Print.f 3 [⟨0, 1, []⟩, ⟨0, 0, [lvB]⟩] = some ([99, 111, 112, 121, 32, 48, 32, 49, 10, 105, 116, 101, 109, 32, 50, 32, 48, 32, 108, 32, 98, 32, 99, 10], 0) := by decide +kernel
theorem live15_apply : delta_Apply.f 3 [lvA] [⟨0, 1, []⟩, ⟨0, 0, [lvB]⟩] = some ([lvA, lvB], 0) := by kernel_rfl
theorem live15_size : delta_Size.f 3 [⟨0, 1, []⟩, ⟨0, 0, [lvB]⟩] = some 1 := by decide +kernel
theorem rows_items {W : World} {g : Nat} (l : List S41) (hg : W.heap[g]? = some (.cells (l.map fun x => [Value.int .i64 x.f0, .int .i64 x.f1.f0, .int .u64 x.f1.f1, .bool x.f2, .string x.f3.f0, .bool x.f3.f1]).flatten.toArray 41 (0, 0))) (hl : l.length ≤ 9223372036854775807) :
  Kd.C k41 W (some ⟨g, 0, none⟩) l.length l := by
 have hr : Reps (k41.M W 0 (fun _ => True)) 6 l (l.map fun x => [Value.int .i64 x.f0, .int .i64 x.f1.f0, .int .u64 x.f1.f1, .bool x.f2, .string x.f3.f0, .bool x.f3.f1]).flatten := by
  clear hg hl
  have key : ∀ ps qs : List S41, Reps (k41.M W 0 (fun _ => True)) 6 ps (ps.map fun x => [Value.int .i64 x.f0, .int .i64 x.f1.f0, .int .u64 x.f1.f1, .bool x.f2, .string x.f3.f0, .bool x.f3.f1]).flatten → Reps (k41.M W 0 (fun _ => True)) 6 (ps ++ qs) ((ps ++ qs).map fun x => [Value.int .i64 x.f0, .int .i64 x.f1.f0, .int .u64 x.f1.f1, .bool x.f2, .string x.f3.f0, .bool x.f3.f1]).flatten := by
   intro ps qs
   induction qs generalizing ps with
   | nil => intro h; simpa using h
   | cons q qs ih =>
    intro h
    have := ih (ps ++ [q]) (by rw [List.map_append, List.flatten_append]; exact h.snoc (item_M W 0 _ q) rfl)
    simpa using this
  have := key [] l (Reps.none _ _)
  simpa using this
 refine ⟨rfl, hl, fun _ => ⟨_, rfl, fun j p hj => ?_⟩⟩
 refine ⟨_, ?_, k41.K_of_M (hr.2 j p hj), fun i u hu => ?_⟩
 ·
  have h1 := hr.1
  have h2 := (List.getElem?_eq_some_iff.1 hj).1
  show ((List.drop (j * 6) _).take 6).length = 6
  rw [List.length_take, List.length_drop, h1]
  omega
 ·
  rw [add_plain, blk_cell hg]
  have hi : i < 6 := by
   have := (List.getElem?_eq_some_iff.1 hu).1
   rw [List.length_take] at this
   omega
  rw [List.getElem?_take_of_lt hi, List.getElem?_drop] at hu
  have : k41.sz = 6 := rfl
  rw [this]
  simpa using hu
set_option maxHeartbeats 4000000 in
set_option maxRecDepth 100000 in
theorem jalousielaw15_live.calls (r : Bool) (w : World) (hT : Tabs w) (h : jalousielaw15_live.f = some r) :
  Calls Tryd.prog 12 #[] w fun e w' => e = .returned (.bool r) ∧ Below w.heap.size w w' := by
 obtain rfl := Option.some.inj h
 clear h
 have HT := Lib.hid hT
 clear hT
 go_enter Tryd.func12, Tryd.ntmps12
 go_upto_region 2 with (fail)
 obtain ⟨gA, hgA⟩ : ∃ g, g = w.heap.size := ⟨_, rfl⟩
 obtain ⟨gB, hgB⟩ : ∃ g, g = w.heap.size + 1 := ⟨_, rfl⟩
 have HA := Lib.hid (blk_alloc (blk_new w (.cells #[.int .i64 1, .int .i64 0, .int .u64 0, .bool false, .string ⟨#[97]⟩, .bool false] 41 (0, 0))) (.cells #[.int .i64 2, .int .i64 0, .int .u64 0, .bool false, .string ⟨#[98, 32, 99]⟩, .bool false] 41 (0, 0)))
 have HB := Lib.hid (blk_new (w.alloc (.cells #[.int .i64 1, .int .i64 0, .int .u64 0, .bool false, .string ⟨#[97]⟩, .bool false] 41 (0, 0))) (.cells #[.int .i64 2, .int .i64 0, .int .u64 0, .bool false, .string ⟨#[98, 32, 99]⟩, .bool false] 41 (0, 0)))
 have HBE := Lib.hid (below_alloc (below_alloc (Below.refl w.heap.size w) (.cells #[.int .i64 1, .int .i64 0, .int .u64 0, .bool false, .string ⟨#[97]⟩, .bool false] 41 (0, 0))) (.cells #[.int .i64 2, .int .i64 0, .int .u64 0, .bool false, .string ⟨#[98, 32, 99]⟩, .bool false] 41 (0, 0)))
 rw [show (w.alloc (.cells #[.int .i64 1, .int .i64 0, .int .u64 0, .bool false, .string ⟨#[97]⟩, .bool false] 41 (0, 0))).heap.size = w.heap.size + 1 by simp, ← hgB] at HB
 rw [← hgA] at HA
 rw [← hgB, ← hgA]
 clear hgA hgB
 generalize (w.alloc (.cells #[.int .i64 1, .int .i64 0, .int .u64 0, .bool false, .string ⟨#[97]⟩, .bool false] 41 (0, 0))).alloc (.cells #[.int .i64 2, .int .i64 0, .int .u64 0, .bool false, .string ⟨#[98, 32, 99]⟩, .bool false] 41 (0, 0)) = W0 at HA HB HBE ⊢
 have a0 : W0.cell? ⟨gA, 0, none⟩ = some (.int .i64 1) := (blk_cell HA.out 0).trans rfl
 have a1 : W0.cell? ⟨gA, 1, none⟩ = some (.int .i64 0) := (blk_cell HA.out 1).trans rfl
 have a2 : W0.cell? ⟨gA, 2, none⟩ = some (.int .u64 0) := (blk_cell HA.out 2).trans rfl
 have a3 : W0.cell? ⟨gA, 3, none⟩ = some (.bool false) := (blk_cell HA.out 3).trans rfl
 have a4 : W0.cell? ⟨gA, 4, none⟩ = some (.string ⟨#[97]⟩) := (blk_cell HA.out 4).trans rfl
 have a5 : W0.cell? ⟨gA, 5, none⟩ = some (.bool false) := (blk_cell HA.out 5).trans rfl
 have b0 : W0.cell? ⟨gB, 0, none⟩ = some (.int .i64 2) := (blk_cell HB.out 0).trans rfl
 have b1 : W0.cell? ⟨gB, 1, none⟩ = some (.int .i64 0) := (blk_cell HB.out 1).trans rfl
 have b2 : W0.cell? ⟨gB, 2, none⟩ = some (.int .u64 0) := (blk_cell HB.out 2).trans rfl
 have b3 : W0.cell? ⟨gB, 3, none⟩ = some (.bool false) := (blk_cell HB.out 3).trans rfl
 have b4 : W0.cell? ⟨gB, 4, none⟩ = some (.string ⟨#[98, 32, 99]⟩) := (blk_cell HB.out 4).trans rfl
 have b5 : W0.cell? ⟨gB, 5, none⟩ = some (.bool false) := (blk_cell HB.out 5).trans rfl
 have hgA := blk_lt HA.out
 have hgB := blk_lt HB.out
 have HR1 := Lib.hid (rows_items (W := (W0.alloc (.cells #[.int .i64 1, .int .i64 0, .int .u64 0, .bool false, .string ⟨#[97]⟩, .bool false] 41 (0, 0))).alloc (.cells #[.int .i64 1, .int .i64 0, .int .u64 0, .bool false, .string ⟨#[97]⟩, .bool false, .int .i64 2, .int .i64 0, .int .u64 0, .bool false, .string ⟨#[98, 32, 99]⟩, .bool false] 41 (0, 0))) [lvA] (blk_alloc (blk_new W0 (.cells #[.int .i64 1, .int .i64 0, .int .u64 0, .bool false, .string ⟨#[97]⟩, .bool false] 41 (0, 0))) _) (by decide))
 have HR2 := Lib.hid (rows_items (W := (W0.alloc (.cells #[.int .i64 1, .int .i64 0, .int .u64 0, .bool false, .string ⟨#[97]⟩, .bool false] 41 (0, 0))).alloc (.cells #[.int .i64 1, .int .i64 0, .int .u64 0, .bool false, .string ⟨#[97]⟩, .bool false, .int .i64 2, .int .i64 0, .int .u64 0, .bool false, .string ⟨#[98, 32, 99]⟩, .bool false] 41 (0, 0))) [lvA, lvB] (blk_new (W0.alloc (.cells #[.int .i64 1, .int .i64 0, .int .u64 0, .bool false, .string ⟨#[97]⟩, .bool false] 41 (0, 0))) (.cells #[.int .i64 1, .int .i64 0, .int .u64 0, .bool false, .string ⟨#[97]⟩, .bool false, .int .i64 2, .int .i64 0, .int .u64 0, .bool false, .string ⟨#[98, 32, 99]⟩, .bool false] 41 (0, 0))) (by decide))
 have HBX := Lib.hid (below_alloc (below_alloc (Below.refl W0.heap.size W0) (.cells #[.int .i64 1, .int .i64 0, .int .u64 0, .bool false, .string ⟨#[97]⟩, .bool false] 41 (0, 0))) (.cells #[.int .i64 1, .int .i64 0, .int .u64 0, .bool false, .string ⟨#[97]⟩, .bool false, .int .i64 2, .int .i64 0, .int .u64 0, .bool false, .string ⟨#[98, 32, 99]⟩, .bool false] 41 (0, 0)))
 have hz : (W0.alloc (.cells #[.int .i64 1, .int .i64 0, .int .u64 0, .bool false, .string ⟨#[97]⟩, .bool false] 41 (0, 0))).heap.size = W0.heap.size + 1 := by simp
 rw [hz] at HR2
 clear hz
 go_wp2_with (first
  | (go_at_call 11; (refine (delta_Make.calls (some ⟨W0.heap.size, 0, none⟩) 1 [lvA] (some ⟨W0.heap.size + 1, 0, none⟩) 2 [lvA, lvB] _ _ HR1.out (by decide) HR2.out (by decide) live15_make).mono ?_); rintro e w1 ⟨v0, rfl, hr, hb⟩; obtain ⟨A1, c1, rfl, hc1, hC1⟩ := Kd.R_reads hr; have HC1 := Lib.hid hC1; have HCC1 := Lib.hid hc1; have HB1 := Lib.hid (below_step HBX.out hb); clear hr hb hC1 hc1)
  | (go_at_call 19; (refine (delta_Print.calls 3 A1 c1 [⟨0, 1, []⟩, ⟨0, 0, [lvB]⟩] _ _ w1 HC1.out HCC1.out (HT.out.below (below_step HBE.out HB1.out)) live15_print).mono ?_); rintro e w2 ⟨v0, rfl, hr, hb⟩; obtain ⟨A2, c2, rfl, hc2, hC2⟩ := Kd.R_reads hr; have HC2 := Lib.hid hC2; have HB2 := Lib.hid (below_step HB1.out hb); have HCD := Lib.hid (Kd.C_below HC1.out hb); have HA2 := Lib.hid (blk_below HA.out HB2.out); have d0 : w2.cell? ⟨gA, 0, none⟩ = some (.int .i64 1) := (blk_cell HA2.out 0).trans rfl; have d1 : w2.cell? ⟨gA, 1, none⟩ = some (.int .i64 0) := (blk_cell HA2.out 1).trans rfl; have d2 : w2.cell? ⟨gA, 2, none⟩ = some (.int .u64 0) := (blk_cell HA2.out 2).trans rfl; have d3 : w2.cell? ⟨gA, 3, none⟩ = some (.bool false) := (blk_cell HA2.out 3).trans rfl; have d4 : w2.cell? ⟨gA, 4, none⟩ = some (.string ⟨#[97]⟩) := (blk_cell HA2.out 4).trans rfl; have d5 : w2.cell? ⟨gA, 5, none⟩ = some (.bool false) := (blk_cell HA2.out 5).trans rfl; have HR3 := Lib.hid (rows_items (W := w2.alloc (.cells #[.int .i64 1, .int .i64 0, .int .u64 0, .bool false, .string ⟨#[97]⟩, .bool false] 41 (0, 0))) [lvA] (blk_new w2 (.cells #[.int .i64 1, .int .i64 0, .int .u64 0, .bool false, .string ⟨#[97]⟩, .bool false] 41 (0, 0))) (by decide)); have HBY := Lib.hid (below_alloc (Below.refl w2.heap.size w2) (.cells #[.int .i64 1, .int .i64 0, .int .u64 0, .bool false, .string ⟨#[97]⟩, .bool false] 41 (0, 0))); clear hr hb hC2 hc2)
  | (go_at_call 16; (refine (delta_Apply.calls 3 (some ⟨w2.heap.size, 0, none⟩) 1 [lvA] A1 c1 [⟨0, 1, []⟩, ⟨0, 0, [lvB]⟩] _ _ _ HR3.out (by decide) (Kd.C_below HCD.out HBY.out) HCC1.out live15_apply).mono ?_); rintro e w3 ⟨v0, rfl, hr, hb⟩; obtain ⟨A3, c3, rfl, hc3, hC3⟩ := Kd.R_reads hr; have HC3 := Lib.hid hC3; have HB23 := Lib.hid (below_step HBY.out hb); have HB3 := Lib.hid (below_step HB2.out HB23.out); clear hr hb hC3 hc3))
 have HCD3 := Lib.hid (Kd.C_below HCD.out HB23.out)
 obtain ⟨ad, A9, c9, rfl, p0, p1, p2, _, _⟩ := at_T27 HCD3.out 0 (by decide) (by decide)
 obtain ⟨ae, rfl, q0, q1, q2, q3, q4, q5⟩ := at_T41 HC3.out 1 (by decide) (by decide)
 have HBB := Lib.hid (blk_below HB.out HB3.out)
 have b0 : w3.cell? ⟨gB, 0, none⟩ = some (.int .i64 2) := (blk_cell HBB.out 0).trans rfl
 have b1 : w3.cell? ⟨gB, 1, none⟩ = some (.int .i64 0) := (blk_cell HBB.out 1).trans rfl
 have b2 : w3.cell? ⟨gB, 2, none⟩ = some (.int .u64 0) := (blk_cell HBB.out 2).trans rfl
 have b3 : w3.cell? ⟨gB, 3, none⟩ = some (.bool false) := (blk_cell HBB.out 3).trans rfl
 have b4 : w3.cell? ⟨gB, 4, none⟩ = some (.string ⟨#[98, 32, 99]⟩) := (blk_cell HBB.out 4).trans rfl
 have b5 : w3.cell? ⟨gB, 5, none⟩ = some (.bool false) := (blk_cell HBB.out 5).trans rfl
 have hcv : (convert 43 9 (.slice A2 24 c2)).run Tryd.prog w3.drew = .ok (.string ⟨#[99, 111, 112, 121, 32, 48, 32, 49, 10, 105, 116, 101, 109, 32, 50, 32, 48, 32, 108, 32, 98, 32, 99, 10]⟩) w3.drew := Kd.C_string (P := Tryd.prog) (A := A2) (c := c2) (w := w3.drew) (xs := [99, 111, 112, 121, 32, 48, 32, 49, 10, 105, 116, 101, 109, 32, 50, 32, 48, 32, 108, 32, 98, 32, 99, 10]) Tryd.underlying43 Tryd.underlying5 Tryd.underlying9 (Kd.C_below HC2.out (below_drew HB23.out))
 have mixed : Tryd.prog.follows Departure.mixedOrders = true := by kernel_rfl
 have p1' : w3.cell? ⟨ad.block, ad.off + 1, none⟩ = some (.int .i64 1) := p1
 have q0' : w3.cell? ⟨ae.block, ae.off + 6, none⟩ = some (.int .i64 2) := q0
 have q1' : w3.cell? ⟨ae.block, ae.off + 7, none⟩ = some (.int .i64 0) := q1
 have q2' : w3.cell? ⟨ae.block, ae.off + 8, none⟩ = some (.int .u64 0) := q2
 have q3' : w3.cell? ⟨ae.block, ae.off + 9, none⟩ = some (.bool false) := q3
 have q4' : w3.cell? ⟨ae.block, ae.off + 10, none⟩ = some (.string ⟨#[98, 32, 99]⟩) := q4
 have q5' : w3.cell? ⟨ae.block, ae.off + 11, none⟩ = some (.bool false) := q5
 clear d0 d1 d2 d3 d4 d5 p0 p1 p2 q0 q1 q2 q3 q4 q5
 go_still_tail 37, (by kernel_rfl)
 change wpList _ _ _ _ _ w3.drew
 go_wp2_with (go_at_call 15; (refine (delta_Size.calls 3 (some ad) c1 [⟨0, 1, []⟩, ⟨0, 0, [lvB]⟩] _ w3.drew HCD3.out HCC1.out live15_size).mono ?_); rintro e w4 ⟨rfl, hb⟩; have HB4 := Lib.hid hb; clear hb)
 go_ret
 exact ⟨rfl, below_step (below_step HBE.out HB3.out) ((below_drew (Below.refl _ _)).trans HB4.out)⟩
end Go.Proofs.YthppicgolkpbaaaDoor.P
namespace Go.Proofs.YthppicgolkpbaaaDoor.P
open Go.RowKit Go.Proofs.YthppicgolkpbaaaDoorW.PrintWords Go.Proofs.YthppicgolkpbaaaDoorW.PrintLast Go.Proofs.YthppicgolkpbaaaDoorW.PrintMore
set_option linter.unusedVariables false
set_option linter.unusedSimpArgs false
theorem ref_parse_ev (l : List Int) (hl : l.length ≤ 2000000) (hg : ∀ z ∈ l, 0 ≤ z ∧ z < 256) : textFit l = true ∧ Ev (fun k => jalousieref15_Parse.f k l) (goParse l) := by
 have hle := linesOf_le l
 have hft : textFit l = true := by unfold textFit; simp only [Bool.and_eq_true, decide_eq_true_eq]; omega
 refine ⟨hft, ?_⟩
 have hf2 := hft
 unfold textFit at hf2
 simp only [Bool.and_eq_true, decide_eq_true_eq] at hf2
 have h := parse_go (linesOf l) hf2.2 (lines_fit hft) _ 0 [] false false rfl (Nat.zero_le _) ⟨Nat.zero_le _, fun p hp => by cases hp⟩ (fun e => by cases e)
 rw [List.drop_zero] at h
 rw [parse_same l hg]
 refine Ev.congr (fun k => ?_) h
 unfold jalousieref15_Parse.f jalousieref01_Lines.f
 rw [if_pos (by omega)]
 rfl
set_option maxHeartbeats 2000000 in
set_option maxRecDepth 100000 in
theorem DeltaParses.walk (A0 : Option Addr) (c0 : Nat) (l0 : List Int) (w : World) (hT : Tabs w) (hr0 : Kd.C (Kd.int .u8) w A0 l0.length l0) (hc0 : l0.length ≤ c0) (hg0 : ∀ z ∈ l0, 0 ≤ z ∧ z < 256) (hs0 : l0.length < 2000000) :
  Calls Tryd.prog 8 #[.slice A0 l0.length c0] w fun e w' => e = .returned (.bool true) ∧ Below w.heap.size w w' := by
 obtain ⟨hft, hev⟩ := ref_parse_ev l0 (by omega) hg0
 obtain ⟨kr, hkr⟩ := Ev.rounds hev
 have hroom := (go_fit hft).1
 obtain ⟨hl1, hl2⟩ := parts_lens (d := (goParse l0).1) (by omega)
 obtain ⟨ks, hks⟩ := Ev.rounds (parts_same (goParse l0).1 hl1 hl2)
 have hgo : delta_Parse.f l0 = some (goParse l0) := by unfold delta_Parse.f; rw [if_pos hft]
 clear hl1 hl2 hroom hev hft hg0
 generalize goParse l0 = g at hkr hks hgo
 obtain ⟨D, F⟩ := g
 simp only at hks
 have HGO := Lib.hid hgo
 have HRF := Lib.hid hkr
 have HKS := Lib.hid hks
 have HR0 := Lib.hid hr0
 have HT := Lib.hid hT
 have ef : (F == F) = true := by simp
 clear hkr hks hgo hr0 hT
 go_enter Tryd.func8, Tryd.ntmps8
 go_wp2_with (first
  | (go_at_call 21; (with_reducible refine (delta_Parse.calls A0 c0 l0 D F _ HR0.out hc0 HT.out HGO.out).mono ?_); rintro e w1 ⟨v1, rfl, hr, hb⟩; obtain ⟨A1, c1, rfl, hc1, hC1⟩ := Kd.R_reads hr; have HC1 := Lib.hid hC1; have HB1 := Lib.hid hb; clear hr hb hC1)
  | (go_at_call 22; (with_reducible refine (jalousieref15_Parse.calls kr A0 c0 l0 D F _ (Kd.C_below HR0.out HB1.out) hc0 HRF.out).mono ?_); rintro e w2 ⟨v2, rfl, hr, hb⟩; obtain ⟨A2, c2, rfl, hc2, hC2⟩ := Kd.N_reads hr; have HC2 := Lib.hid hC2; have HC12 := Lib.hid (Kd.C_below HC1.out hb); have HB2 := Lib.hid (below_step HB1.out hb); clear hr hb hC2)
  | (go_at_call 12; (with_reducible refine (jalousielaw15_live.calls true _ (HT.out.below HB2.out) rfl).mono ?_); rintro e w3 ⟨rfl, hb⟩; have HB3 := Lib.hid (below_step HB2.out hb); have HC13 := Lib.hid (Kd.C_below HC12.out hb); have HC23 := Lib.hid (Kd.C_below HC2.out hb); clear hb)
  | (go_at_call 13; (with_reducible refine (jalousieref15_Same.calls ks A1 c1 D A2 c2 D true _ HC13.out hc1 HC23.out hc2 HKS.out).mono ?_); rintro e w4 ⟨rfl, hdr⟩; have HB4 := Lib.hid (below_step HB3.out hdr.below); clear hdr))
 go_ret
 exact ⟨by first | rfl | simp, HB4.out⟩
end Go.Proofs.YthppicgolkpbaaaDoor.P

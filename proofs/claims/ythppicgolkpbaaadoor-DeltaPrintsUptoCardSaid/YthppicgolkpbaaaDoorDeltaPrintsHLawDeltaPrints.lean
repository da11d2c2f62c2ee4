/- the walk of jalousielaw15.DeltaPrints -/
import Derived.Test.YthppicgolkpbaaaDoorDeltaPrintsHDRefPrint
import Derived.Test.YthppicgolkpbaaaDoorDeltaPrintsHLive15
import Derived.Test.YthppicgolkpbaaaDoorDeltaPrintsHOpenStruct
namespace Go.Proofs.YthppicgolkpbaaaDoor.P
open Go.RowKit Go.Proofs.YthppicgolkpbaaaDoorW.PrintWords Go.Proofs.YthppicgolkpbaaaDoorW.PrintLast Go.Proofs.YthppicgolkpbaaaDoorW.PrintMore
set_option linter.unusedVariables false
set_option linter.unusedSimpArgs false
set_option maxHeartbeats 2000000 in
set_option maxRecDepth 100000 in
theorem DeltaPrints.walk (A0 : Option Addr) (c0 : Nat) (l0 : List S27) (w : World) (hT : Tabs w) (hr0 : Kd.C k27 w A0 l0.length l0) (hc0 : l0.length ≤ c0) (hok : partsOk l0) (hroom : roomP l0 < 140000000000000) :
    Calls Tryd.prog 6 #[.slice A0 l0.length c0] w fun e w' => e = .returned (.bool true) ∧ Below w.heap.size w w' := by
  have hlen := roomP_len l0
  obtain ⟨k, hk⟩ := Ev.rounds (print_tells l0 (by omega) hok (by omega))
  have HRP := Lib.hid (fun W (h : Below w.heap.size w W) => refPrint_calls A0 c0 l0 W (Kd.C_below hr0 h) hc0 hok hroom)
  unfold RPPost at HRP
  obtain ⟨X, hX⟩ : ∃ X, bytesL (printGo false l0 []).1 = X := ⟨_, rfl⟩
  obtain ⟨E, hE⟩ : ∃ E, (printGo false l0 []).2 = E := ⟨_, rfl⟩
  rw [hX, hE] at HRP hk
  have HPR := Lib.hid hk
  have HR0 := Lib.hid hr0
  have HT := Lib.hid hT
  obtain ⟨S, hS⟩ : ∃ S, strOfNums X = S := ⟨_, rfl⟩
  have HS := Lib.hid hS
  clear hk hX hE hok hroom hlen hT hr0 hS
  go_enter Tryd.func6, Tryd.ntmps6
  go_wp2_with (first
    | (go_at_call 19; (with_reducible refine (delta_Print.calls k A0 c0 l0 X E _ HR0.out hc0 HT.out HPR.out).mono ?_); rintro e w1 ⟨v0, rfl, hr, hb⟩; obtain ⟨A1, c1, rfl, hc1, hC1⟩ := Kd.R_reads hr; have HC1 := Lib.hid hC1; have HB1 := Lib.hid hb; clear hr hb hC1)
    | (go_at_call 20; (with_reducible refine (HRP.out _ HB1.out).mono ?_); rintro e w2 ⟨A2, c2, rfl, hc2, hC2, hb⟩; have HC2 := Lib.hid hC2; have HB2 := Lib.hid (below_step HB1.out hb); have HC12 := Lib.hid (Kd.C_below HC1.out hb); clear hb hC2)
    | (go_at_call 12; (with_reducible refine (jalousielaw15_live.calls true _ (HT.out.below HB2.out) rfl).mono ?_); rintro e w3 ⟨rfl, hb⟩; have HB3 := Lib.hid (below_step HB2.out hb); have hcv1 := Kd.C_string (P := Tryd.prog) (c := c1) Tryd.underlying43 Tryd.underlying5 Tryd.underlying9 (Kd.C_below HC12.out hb); have hcv2 := Kd.C_string (P := Tryd.prog) (c := c2) Tryd.underlying43 Tryd.underlying5 Tryd.underlying9 (Kd.C_below HC2.out hb); rw [HS.out] at hcv1 hcv2; clear hb))
  go_ret
  exact ⟨rfl, HB3.out⟩
theorem room_bulk (l : List S41) : roomL l ≤ 800 * (l.map fun z => 1 + ((1 + 1 + 1) + (1 + (z.f3.f0.size + 1 + 1 + 1))) + 1).sum := by
  induction l with
  | nil => simp [roomL]
  | cons x l ih =>
    have : roomL (x :: l) = x.f3.f0.size + 800 + roomL l := by simp [roomL]
    rw [this]
    simp only [List.map_cons, List.sum_cons]
    omega
theorem roomP_bulk (d : List S27) : roomP d ≤ 1000 * (d.map fun p => 1 + (1 + ((p.f2.map fun z => 1 + ((1 + 1 + 1) + (1 + (z.f3.f0.size + 1 + 1 + 1))) + 1).sum + 1)) + 1).sum := by
  induction d with
  | nil => simp [roomP]
  | cons p d ih =>
    have : roomP (p :: d) = roomL p.f2 + 1000 + roomP d := by simp [roomP]
    rw [this]
    have := room_bulk p.f2
    simp only [List.map_cons, List.sum_cons]
    omega
theorem item_size_le {x : S41} {l : List S41} (h : x ∈ l) : x.f3.f0.size + 800 ≤ roomL l := by
  induction l with
  | nil => cases h
  | cons y l ih =>
    have : roomL (y :: l) = y.f3.f0.size + 800 + roomL l := by simp [roomL]
    rw [this]
    rcases List.mem_cons.1 h with rfl | h
    · omega
    · have := ih h; omega
theorem part_room_le {p : S27} {d : List S27} (h : p ∈ d) : roomL p.f2 + 1000 ≤ roomP d := by
  induction d with
  | nil => cases h
  | cons y d ih =>
    have : roomP (y :: d) = roomL y.f2 + 1000 + roomP d := by simp [roomP]
    rw [this]
    rcases List.mem_cons.1 h with rfl | h
    · omega
    · have := ih h; omega
theorem ok_of_open {d : List S27} (h : ∀ p ∈ d, (Lit.int .i64 p.f0).wf = true ∧ (Lit.int .i64 p.f1).wf = true ∧ (p.f2.length ≤ maxLen ∧ ∀ z ∈ p.f2, (Lit.int .i64 z.f0).wf = true ∧ ((Lit.int .i64 z.f1.f0).wf = true ∧ (Lit.int .u64 z.f1.f1).wf = true) ∧ True ∧ (z.f3.f0.size ≤ maxLen ∧ True))) (hr : roomP d ≤ 90000000000) : partsOk d := by
  intro p hp
  have h2 := part_room_le hp
  unfold itemsFit
  rw [Bool.and_eq_true, List.all_eq_true, decide_eq_true_eq]
  refine ⟨fun x hx => ?_, by show roomL p.f2 ≤ _; omega⟩
  have h3 := item_size_le hx
  have hw := ((h p hp).2.2.2 x hx).2.1.2
  simp only [Lit.wf, Bool.and_eq_true, decide_eq_true_eq] at hw
  have h4 : (0 : Int) ≤ x.f1.f1 := hw.1
  have h5 : x.f1.f1 ≤ 18446744073709551615 := hw.2
  unfold itemGood
  simp only [Bool.and_eq_true, decide_eq_true_eq]
  omega
end Go.Proofs.YthppicgolkpbaaaDoor.P

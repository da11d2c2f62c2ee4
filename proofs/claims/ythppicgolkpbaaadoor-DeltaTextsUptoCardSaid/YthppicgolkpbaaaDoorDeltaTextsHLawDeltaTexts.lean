/- the walk of jalousielaw15.DeltaTexts -/
import Derived.Test.YthppicgolkpbaaaDoorDeltaTextsGHDParseFit
import Derived.Test.YthppicgolkpbaaaDoorDeltaTextsHLive15
namespace Go.Proofs.YthppicgolkpbaaaDoor.P
open Go.RowKit Go.Proofs.YthppicgolkpbaaaDoorW.PrintWords Go.Proofs.YthppicgolkpbaaaDoorW.PrintLast Go.Proofs.YthppicgolkpbaaaDoorW.PrintMore
set_option linter.unusedVariables false
set_option linter.unusedSimpArgs false
theorem print_len : ∀ (d : List S27) (nx : Bool) (acc : List UInt8), (printGo nx d acc).1.length ≤ acc.length + roomP d
  | [], nx, acc => by simp [printGo, roomP]
  | p :: d, nx, acc => by
    rw [printGo]
    have hr : roomP (p :: d) = roomL p.f2 + 1000 + roomP d := by simp [roomP]
    rw [hr]
    split
    · have h1 := print_len d (decide (0 < p.f2.length)) (acc ++ (partL p.f0 p.f1 p.f2 nx).1)
      have h2 := part_len p nx
      rw [List.length_append] at h1
      omega
    · simp
theorem print_bad : ∀ (d : List S27) (nx : Bool) (acc : List UInt8), ¬ (printGo nx d acc).2 = 0 → (printGo nx d acc).1 = []
  | [], nx, acc, h => absurd rfl h
  | p :: d, nx, acc, h => by
    rw [printGo] at h ⊢
    split
    · rename_i he
      rw [if_pos he] at h
      exact print_bad d _ _ h
    · rfl
theorem lines_room : ∀ (d : List S27) (nx : Bool), 800 * (allLines nx d).length ≤ roomP d
  | [], nx => by simp [allLines]
  | p :: d, nx => by
    have hr : roomP (p :: d) = roomL p.f2 + 1000 + roomP d := by simp [roomP]
    have h1 := lines_room d (decide (0 < p.f2.length))
    have h2 := room_len p.f2
    rw [allLines, List.length_append, hr]
    have h3 : (partLines p nx).length ≤ p.f2.length + 1 := by
      unfold partLines
      split
      · simp
      · cases nx <;> simp
    omega
theorem cats_open {d : List S27} (h : ∀ p ∈ d, (Lit.int .i64 p.f0).wf = true ∧ (Lit.int .i64 p.f1).wf = true ∧ (p.f2.length ≤ maxLen ∧ ∀ z ∈ p.f2, (Lit.int .i64 z.f0).wf = true ∧ ((Lit.int .i64 z.f1.f0).wf = true ∧ (Lit.int .u64 z.f1.f1).wf = true) ∧ True ∧ (z.f3.f0.size ≤ maxLen ∧ True))) : ∀ p ∈ d, ∀ x ∈ p.f2, catsFit x := by
  intro p hp x hx
  have hw := ((h p hp).2.2.2 x hx).2.1.2
  simp only [Lit.wf, Bool.and_eq_true, decide_eq_true_eq] at hw
  have h4 : (0 : Int) ≤ x.f1.f1 := hw.1
  have h5 : x.f1.f1 ≤ 18446744073709551615 := hw.2
  unfold catsFit
  omega
theorem text_fit_print (d : List S27) (hc : ∀ p ∈ d, ∀ x ∈ p.f2, catsFit x) (hr : roomP d ≤ 1900000000) : textFit (bytesL (printGo false d []).1) = true := by
  have h1 := print_len d false []
  simp only [List.length_nil] at h1
  have h2 : (bytesL (printGo false d []).1).length = (printGo false d []).1.length := by simp [bytesL]
  unfold textFit
  simp only [Bool.and_eq_true, decide_eq_true_eq]
  refine ⟨by omega, ?_⟩
  by_cases he : (printGo false d []).2 = 0
  · have := (print_read d (printGo false d []).1 (by rw [← he]) hc).2
    rw [this, List.length_map]
    have := lines_room d false
    omega
  · rw [print_bad d false [] he]
    exact Nat.zero_le _
theorem read_of_print (d : List S27) (hc : ∀ p ∈ d, ∀ x ∈ p.f2, catsFit x) (he : (printGo false d []).2 = 0) : goParse (bytesL (printGo false d []).1) = (d, 0) := by
  rw [parse_same _ (bytesL_fit _), (print_read d (printGo false d []).1 (by rw [← he]) hc).1]
theorem print_of_read (l : List Int) : ¬ (goParse l).2 = 0 ∨ (printGo false (goParse l).1 []).2 = 0 ∧ bytesL (printGo false (goParse l).1 []).1 = l := by
  unfold goParse
  by_cases h : (printGo false (parsedGo (linesOf l) [] false) []).2 = 0 ∧ bytesL (printGo false (parsedGo (linesOf l) [] false) []).1 = l
  · rw [if_pos h]; exact .inr h
  · rw [if_neg h]; exact .inl (by simp)
set_option maxHeartbeats 4000000 in
set_option maxRecDepth 100000 in
theorem DeltaTexts.walk (A0 : Option Addr) (c0 : Nat) (l0 : List S27) (A1 : Option Addr) (c1 : Nat) (l1 : List Int) (w : World) (hT : Tabs w) (hr0 : Kd.C k27 w A0 l0.length l0) (hc0 : l0.length ≤ c0) (hcats : ∀ p ∈ l0, ∀ x ∈ p.f2, catsFit x) (hroom : roomP l0 ≤ 1900000000)
    (hr1 : Kd.C (Kd.int .u8) w A1 l1.length l1) (hc1 : l1.length ≤ c1) (hg1 : ∀ z ∈ l1, 0 ≤ z ∧ z < 256) (hs1 : l1.length < 2000000) :
    Calls Tryd.prog 9 #[.slice A0 l0.length c0, .slice A1 l1.length c1] w fun e w' => e = .returned (.bool true) ∧ Below w.heap.size w w' := by
  have hlen := roomP_len l0
  obtain ⟨k0, hk0⟩ := Ev.rounds (print_tells l0 (by omega) (ok_of_cats hcats (by omega)) (by omega))
  have hf0 := text_fit_print l0 hcats hroom
  have hf1 := text_fit_small l1 (by omega)
  obtain ⟨g1, g2⟩ := go_fit hf1
  have hlen1 := roomP_len (goParse l1).1
  obtain ⟨k1, hk1⟩ := Ev.rounds (print_tells (goParse l1).1 (by omega) (ok_of_cats g2 g1) (by omega))
  obtain ⟨hl1, hl2⟩ := parts_lens (d := l0) (by omega)
  obtain ⟨ks, hks⟩ := Ev.rounds (parts_same l0 hl1 hl2)
  have hback := print_of_read l1
  have hE : ¬ (printGo false l0 []).2 = 0 ∨ (printGo false l0 []).2 = 0 ∧ goParse (bytesL (printGo false l0 []).1) = (l0, 0) := by
    by_cases he : (printGo false l0 []).2 = 0
    · exact .inr ⟨he, read_of_print l0 hcats he⟩
    · exact .inl he
  have hp0 : delta_Parse.f (bytesL (printGo false l0 []).1) = some (goParse (bytesL (printGo false l0 []).1)) := by unfold delta_Parse.f; rw [if_pos hf0]
  have hp1 : delta_Parse.f l1 = some (goParse l1) := by unfold delta_Parse.f; rw [if_pos hf1]
  clear hlen hf0 hf1 g1 g2 hlen1 hl1 hl2 hcats hroom hg1 hs1
  generalize goParse (bytesL (printGo false l0 []).1) = gp at hE hp0
  generalize goParse l1 = gq at hk1 hback hp1
  obtain ⟨C, F⟩ := gp
  obtain ⟨D, G⟩ := gq
  simp only at hk1 hback
  generalize printGo false D [] = pq at hk1 hback
  generalize printGo false l0 [] = pp at hk0 hE hp0
  obtain ⟨X, E⟩ := pp
  obtain ⟨Q, H⟩ := pq
  simp only at hk0 hk1 hE hback hp0
  generalize bytesL X = XB at hk0 hp0
  generalize bytesL Q = QB at hk1 hback
  have HP0 := Lib.hid hk0
  have HP1 := Lib.hid hk1
  have HQ0 := Lib.hid hp0
  have HQ1 := Lib.hid hp1
  have HR0 := Lib.hid hr0
  have HR1 := Lib.hid hr1
  have HT := Lib.hid hT
  have HKS := Lib.hid hks
  clear hk0 hk1 hp0 hp1 hr0 hr1 hT hks
  have facts1 : ((E != 0) = true ∧ (E == 0) = false) ∨ E = 0 ∧ F = 0 ∧ C = l0 := by
    rcases hE with h | ⟨h1, h2⟩
    · exact .inl ⟨bne_iff_ne.2 h, beq_eq_false_iff_ne.2 h⟩
    · injection h2 with h2 h3
      exact .inr ⟨h1, h3, h2⟩
  have facts2 : ((G != 0) = true ∧ (G == 0) = false) ∨ G = 0 ∧ H = 0 ∧ QB = l1 := by
    rcases hback with h | ⟨h1, h2⟩
    · exact .inl ⟨bne_iff_ne.2 h, beq_eq_false_iff_ne.2 h⟩
    · by_cases hg : G = 0
      · exact .inr ⟨hg, h1, h2⟩
      · exact .inl ⟨bne_iff_ne.2 hg, beq_eq_false_iff_ne.2 hg⟩
  clear hE hback
  rcases facts1 with ⟨e1, e2⟩ | ⟨rfl, rfl, rfl⟩
  all_goals
    rcases facts2 with ⟨q1, q2⟩ | ⟨rfl, rfl, rfl⟩
  all_goals
    obtain ⟨S, hS⟩ : ∃ S, strOfNums QB = S := ⟨_, rfl⟩
    have HS := Lib.hid hS
    clear hS
    go_enter Tryd.func9, Tryd.ntmps9
    go_wp2_with fail
    (with_reducible refine (delta_Print.calls k0 A0 c0 _ XB _ _ HR0.out hc0 HT.out HP0.out).mono ?_)
    rintro e w1 ⟨v1, rfl, hr, hb⟩
    obtain ⟨A3, c3, rfl, hc3, hC3⟩ := Kd.R_reads hr
    have HC3 := Lib.hid hC3
    have HB1 := Lib.hid hb
    clear hr hb hC3
    go_wp2_with fail
    (with_reducible refine (delta_Parse.calls A3 c3 XB _ _ _ HC3.out hc3 (HT.out.below HB1.out) HQ0.out).mono ?_)
    rintro e w2 ⟨v2, rfl, hr, hb⟩
    obtain ⟨A4, c4, rfl, hc4, hC4⟩ := Kd.R_reads hr
    have HC4 := Lib.hid hC4
    have HB2 := Lib.hid (below_step HB1.out hb)
    clear hr hb hC4
    go_wp2_with fail
    (with_reducible refine (delta_Parse.calls A1 c1 _ D _ _ (Kd.C_below HR1.out HB2.out) hc1 (HT.out.below HB2.out) HQ1.out).mono ?_)
    rintro e w3 ⟨v3, rfl, hr, hb⟩
    obtain ⟨A5, c5, rfl, hc5, hC5⟩ := Kd.R_reads hr
    have HC5 := Lib.hid hC5
    have HC43 := Lib.hid (Kd.C_below HC4.out hb)
    have HB3 := Lib.hid (below_step HB2.out hb)
    clear hr hb hC5
    go_wp2_with fail
    (with_reducible refine (delta_Print.calls k1 A5 c5 D _ _ _ HC5.out hc5 (HT.out.below HB3.out) HP1.out).mono ?_)
    rintro e w4 ⟨v4, rfl, hr, hb⟩
    obtain ⟨A6, c6, rfl, hc6, hC6⟩ := Kd.R_reads hr
    have HC6 := Lib.hid hC6
    have HC44 := Lib.hid (Kd.C_below HC43.out hb)
    have HB4 := Lib.hid (below_step HB3.out hb)
    clear hr hb hC6
    go_wp2_with fail
    (with_reducible refine (jalousielaw15_live.calls true _ (HT.out.below HB4.out) rfl).mono ?_)
    rintro e w5 ⟨rfl, hb⟩
    have HB5 := Lib.hid (below_step HB4.out hb)
    have HC45 := Lib.hid (Kd.C_below HC44.out hb)
    have HC65 := Lib.hid (Kd.C_below HC6.out hb)
    clear hb
    try have hcv1 := fun (n : Nat) => Kd.C_string (P := Tryd.prog) (c := c6) Tryd.underlying43 Tryd.underlying5 Tryd.underlying9 (Kd.C_drewN HC65.out n)
    try have hcv2 := fun (n : Nat) => Kd.C_string (P := Tryd.prog) (c := c1) Tryd.underlying43 Tryd.underlying5 Tryd.underlying9 (Kd.C_drewN (Kd.C_below HR1.out HB5.out) n)
    try have hcv3 := Kd.C_string (P := Tryd.prog) (c := c6) Tryd.underlying43 Tryd.underlying5 Tryd.underlying9 HC65.out
    try have hcv4 := Kd.C_string (P := Tryd.prog) (c := c1) Tryd.underlying43 Tryd.underlying5 Tryd.underlying9 (Kd.C_below HR1.out HB5.out)
    try rw [HS.out] at hcv3 hcv4
    try simp only [HS.out] at hcv1 hcv2
    go_wp2_with (go_at_call 13; (with_reducible refine (jalousieref15_Same.calls ks A4 c4 _ A0 c0 _ true _ HC45.out hc4 (Kd.C_below HR0.out HB5.out) hc0 HKS.out).mono ?_); rintro e w6 ⟨rfl, ⟨n6, rfl⟩⟩; have HB6 := Lib.hid (pw_below_drewN HB5.out n6))
    go_ret
    exact ⟨by first | rfl | simp, by first | exact HB6.out | exact HB5.out⟩
end Go.Proofs.YthppicgolkpbaaaDoor.P

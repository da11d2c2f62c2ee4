/- what this claim needs of the words and the printed functions; conditions: as each statement says -/
import Derived.Test.YthppicgolkpbaaaDoorDeltaParsesGHLines
import Derived.Test.YthppicgolkpbaaaDoorDeltaParsesHDReadBack
import Derived.Test.YthppicgolkpbaaaDoorDeltaParsesPxSlices
namespace Go.Proofs.YthppicgolkpbaaaDoor.P
open Go.RowKit Go.Proofs.YthppicgolkpbaaaDoorW.PrintWords Go.Proofs.YthppicgolkpbaaaDoorW.PrintLast Go.Proofs.YthppicgolkpbaaaDoorW.PrintMore
set_option linter.unusedVariables false
set_option linter.unusedSimpArgs false
theorem str_len9 (l : List Int) : (strOfNums l).size = l.length := by rw [← data_length]; simp [strOfNums]
theorem acc_room : ∀ (ys cur : List Int), ((linesAcc cur ys).map fun x => x.f0.size).sum ≤ cur.length + ys.length
 | [], cur => by
  unfold linesAcc
  split
  ·
   simp
  ·
   simp [str_len9]
 | c :: l, cur => by
  unfold linesAcc
  split
  ·
   have := acc_room l []
   simp only [List.map_cons, List.sum_cons, List.length_cons, str_len9, List.length_nil] at this ⊢
   omega
  ·
   have := acc_room l (cur ++ [c])
   simp only [List.length_cons, List.length_append, List.length_nil] at this ⊢
   omega
theorem size_le_sum : ∀ (l : List S39) (x : S39), x ∈ l → x.f0.size ≤ (l.map fun x => x.f0.size).sum
 | y :: l, x, h => by
  simp only [List.map_cons, List.sum_cons]
  rcases List.mem_cons.1 h with rfl | h
  ·
   omega
  ·
   have := size_le_sum l x h; omega
theorem room_lines : ∀ l : List S39, lineRoom l = (l.map fun x => x.f0.size).sum + 1800 * l.length
 | [] => rfl
 | x :: l => by
  have h := room_lines l
  have : lineRoom (x :: l) = x.f0.size + 1800 + lineRoom l := by simp [lineRoom]
  rw [this, h]
  simp only [List.map_cons, List.sum_cons, List.length_cons]
  omega
theorem item_in_room {x : S41} {l : List S41} (h : x ∈ l) : x.f3.f0.size + 800 ≤ roomL l := by
 induction l with
 | nil => cases h
 | cons y l ih =>
  have : roomL (y :: l) = y.f3.f0.size + 800 + roomL l := by simp [roomL]
  rw [this]
  rcases List.mem_cons.1 h with rfl | h
  ·
   omega
  ·
   have := ih h; omega
theorem part_in_room {p : S27} {d : List S27} (h : p ∈ d) : roomL p.f2 + 1000 ≤ roomP d := by
 induction d with
 | nil => cases h
 | cons y d ih =>
  have : roomP (y :: d) = roomL y.f2 + 1000 + roomP d := by simp [roomP]
  rw [this]
  rcases List.mem_cons.1 h with rfl | h
  ·
   omega
  ·
   have := ih h; omega
theorem ok_of_cats {d : List S27} (hc : ∀ p ∈ d, ∀ x ∈ p.f2, catsFit x) (hr : roomP d ≤ 90000000000) : partsOk d := by
 intro p hp
 have h2 := part_in_room hp
 unfold itemsFit
 rw [Bool.and_eq_true, List.all_eq_true, decide_eq_true_eq]
 refine ⟨fun x hx => ?_, by show roomL p.f2 ≤ _; omega⟩
 have h3 := item_in_room hx
 have hw := hc p hp x hx
 unfold catsFit at hw
 unfold itemGood
 simp only [Bool.and_eq_true, decide_eq_true_eq]
 omega
theorem equal_go (a b : List Int) (hl : a.length = b.length) (ha : a.length ≤ 4000000000000) : ∀ (n i : Nat), a.length - i = n → i ≤ a.length → Ev (fun k => slices_Equal_byte_byte.l0 k a b (a.length : Int) (i : Int)) (decide (a.drop i = b.drop i))
 | 0, i, hn, hi => by
  have h1 : a.drop i = [] := List.drop_eq_nil_of_le (by omega)
  have h2 : b.drop i = [] := List.drop_eq_nil_of_le (by omega)
  rw [h1, h2]
  refine Ev.step (f := fun _ => some true) (fun k => ?_) (Ev.now _)
  simp only [slices_Equal_byte_byte.l0]
  rw [if_neg (by omega)]
 | n + 1, i, hn, hi => by
  have h1 : i < a.length := by omega
  have h2 : i < b.length := by omega
  rw [rd_drop_i a i h1, rd_drop_i b i h2]
  by_cases e : rd a (i : Int) = rd b (i : Int)
  ·
   have : decide (rd a (i : Int) :: a.drop (i + 1) = rd b (i : Int) :: b.drop (i + 1)) = decide (a.drop (i + 1) = b.drop (i + 1)) := by
    rw [decide_eq_decide, List.cons.injEq]
    exact ⟨fun h => h.2, fun h => ⟨e, h⟩⟩
   rw [this]
   refine Ev.step (fun k => ?_) (equal_go a b hl ha n (i + 1) (by omega) (by omega))
   simp only [slices_Equal_byte_byte.l0]
   rw [if_pos (by omega), if_pos (by omega), if_pos (by omega), if_pos (by omega), if_pos e, wrap_at (by omega)]
  ·
   have : decide (rd a (i : Int) :: a.drop (i + 1) = rd b (i : Int) :: b.drop (i + 1)) = false := by
    rw [decide_eq_false_iff_not, List.cons.injEq]
    exact fun h => e h.1
   rw [this]
   refine Ev.step (f := fun _ => some false) (fun k => ?_) (Ev.now _)
   simp only [slices_Equal_byte_byte.l0]
   rw [if_pos (by omega), if_pos (by omega), if_pos (by omega), if_pos (by omega), if_neg e]
theorem equal_ev (a b : List Int) (ha : a.length ≤ 4000000000000) : Ev (fun k => slices_Equal_byte_byte.f k a b) (decide (a = b)) := by
 unfold slices_Equal_byte_byte.f
 by_cases hl : a.length = b.length
 ·
  refine Ev.congr (f := fun k => _) (fun k => if_pos (by omega)) ?_
  have := equal_go a b hl ha _ 0 rfl (Nat.zero_le _)
  rw [List.drop_zero, List.drop_zero] at this
  exact this
 ·
  refine Ev.congr (f := fun _ => some false) (fun k => if_neg (by omega)) ?_
  rw [decide_eq_false (fun e => hl (by rw [e]))]
  exact Ev.now _
def textFit (l : List Int) : Bool := decide (l.length ≤ 2000000000) && decide ((linesOf l).length ≤ 4000000)
def delta_Parse.f (l0 : List Int) : Option (List S27 × Int) := if textFit l0 = true then some (goParse l0) else none
theorem lines_fit {l : List Int} (h : textFit l = true) : (linesOf l).all lineFit = true := by
 unfold textFit at h
 simp only [Bool.and_eq_true, decide_eq_true_eq] at h
 rw [List.all_eq_true]
 intro x hx
 have h1 := size_le_sum _ x hx
 have h2 := acc_room l []
 unfold linesOf at h1
 simp only [List.length_nil] at h2
 unfold lineFit
 rw [decide_eq_true_eq]
 omega
theorem text_room {l : List Int} (h : textFit l = true) : roomP (parsedGo (linesOf l) [] false) ≤ 90000000000 := by
 unfold textFit at h
 simp only [Bool.and_eq_true, decide_eq_true_eq] at h
 have h1 := (parsed_fit (linesOf l) [] false (fun e => by cases e) (fun p hp => by cases hp)).1
 have h2 := acc_room l []
 rw [room_lines] at h1
 have h3 : roomP ([] : List S27) = 0 := rfl
 unfold linesOf at h1 h ⊢
 simp only [List.length_nil] at h2
 omega
set_option maxHeartbeats 2000000 in
set_option maxRecDepth 100000 in
theorem delta_Parse.calls (A0 : Option Addr) (c0 : Nat) (l0 : List Int) (r1 : List S27) (r2 : Int) (w : World) (hr0 : Kd.C (Kd.int .u8) w A0 l0.length l0) (hc0 : l0.length ≤ c0) (hT : Tabs w) (h : delta_Parse.f l0 = some (r1, r2)) :
  Calls Tryd.prog 21 #[.slice A0 l0.length c0] w fun e w' => ∃ v0_ : Value, e = .returned (.tuple #[v0_, .int .i64 r2]) ∧ Kd.R k27 27 w' w.heap.size (fun _ => True) v0_ r1 ∧ Below w.heap.size w w' := by
 unfold delta_Parse.f at h
 by_cases hft : textFit l0 = true
 case neg => rw [if_neg hft] at h; cases h
 rw [if_pos hft] at h
 have hg := Option.some.inj h
 have hf2 := hft
 unfold textFit at hf2
 simp only [Bool.and_eq_true, decide_eq_true_eq] at hf2
 have HLN := Lib.hid (show text_Lines.f l0 = some (linesOf l0) by unfold text_Lines.f; rw [if_pos (by omega)])
 have HPD := Lib.hid (show delta_parsed.f (linesOf l0) = some (parsedGo (linesOf l0) [] false) by unfold delta_parsed.f; rw [if_pos (by rw [lines_fit hft, Bool.true_and, decide_eq_true_eq]; exact hf2.2)])
 have hroom := text_room hft
 have hcats := (parsed_fit (linesOf l0) [] false (fun e => by cases e) (fun p hp => by cases hp)).2
 have hlen := roomP_len (parsedGo (linesOf l0) [] false)
 obtain ⟨k, hk⟩ := Ev.rounds (print_tells (parsedGo (linesOf l0) [] false) (by omega) (ok_of_cats hcats hroom) (by omega))
 obtain ⟨ke, hke⟩ := Ev.rounds (equal_ev l0 (bytesL (printGo false (parsedGo (linesOf l0) [] false) []).1) (by omega))
 unfold goParse at hg
 clear hroom hcats hlen h hft hf2
 generalize (printGo false (parsedGo (linesOf l0) [] false) []) = pr at hg hk hke
 obtain ⟨X, E⟩ := pr
 simp only at hg hk hke
 generalize parsedGo (linesOf l0) [] false = D at hg hk HPD
 generalize linesOf l0 = L at HLN HPD
 replace hke : slices_Equal_byte_byte.f ke l0 (bytesL X) = some (decide (bytesL X = l0)) := hke.trans (congrArg some (decide_eq_decide.2 eq_comm))
 have HPR := Lib.hid hk
 have HR0 := Lib.hid hr0
 have HT := Lib.hid hT
 clear hk hr0 hT
 by_cases he : E = 0
 ·
  subst he
  by_cases hx : bytesL X = l0
  ·
   rw [decide_eq_true hx] at hke
   have HEQ := Lib.hid hke
   rw [if_pos ⟨rfl, hx⟩] at hg
   injection hg with hg1 hg2
   subst hg1 hg2
   clear hke hx
   generalize bytesL X = Y at HPR HEQ
   go_enter Tryd.func21, Tryd.ntmps21
   go_wp2_with (first
    | (go_at_call 34; (with_reducible refine (text_Lines.calls A0 c0 l0 L _ HR0.out hc0 HLN.out).mono ?_); rintro e w1 ⟨v1, rfl, hr, hb⟩; obtain ⟨A1, c1, rfl, hc1, hC1⟩ := Kd.R_reads hr; have HC1 := Lib.hid hC1; have HB1 := Lib.hid hb; clear hr hb hC1)
    | (go_at_call 33; (with_reducible refine (delta_parsed.calls A1 c1 L D _ HC1.out hc1 (HT.out.below HB1.out) HPD.out).mono ?_); rintro e w2 ⟨v2, rfl, hr, hb⟩; obtain ⟨A2, c2, rfl, hc2, hC2⟩ := Kd.R_reads hr; have HC2 := Lib.hid hC2; have HR2 := Lib.hid (Kd.R_lower hr HB1.out.size); have HB2 := Lib.hid (below_step HB1.out hb); clear hr hb hC2)
    | (go_at_call 19; (with_reducible refine (delta_Print.calls k A2 c2 D Y 0 _ HC2.out hc2 (HT.out.below HB2.out) HPR.out).mono ?_); rintro e w3 ⟨v3, rfl, hr, hb⟩; obtain ⟨A3, c3, rfl, hc3, hC3⟩ := Kd.R_reads hr; have HC3 := Lib.hid hC3; have HR3 := Lib.hid (Kd.R_below HR2.out hb); have HB3 := Lib.hid (below_step HB2.out hb); clear hr hb hC3)
    | (go_at_call 35; (with_reducible refine (slices_Equal_byte_byte.calls ke A0 c0 l0 A3 c3 Y true _ (Kd.C_below HR0.out HB3.out) hc0 HC3.out hc3 HEQ.out).mono ?_); rintro e w4 ⟨rfl, hdr⟩; have HR4 := Lib.hid (Kd.R_below HR3.out hdr.below); have HB4 := Lib.hid (below_step HB3.out hdr.below); clear hdr))
   go_ret2
   exact ⟨_, rfl, HR4.out, HB4.out⟩
  ·
   rw [decide_eq_false hx] at hke
   have HEQ := Lib.hid hke
   rw [if_neg (fun e => hx e.2)] at hg
   injection hg with hg1 hg2
   subst hg1 hg2
   clear hke hx
   generalize bytesL X = Y at HPR HEQ
   go_enter Tryd.func21, Tryd.ntmps21
   go_wp2_with (first
    | (go_at_call 34; (with_reducible refine (text_Lines.calls A0 c0 l0 L _ HR0.out hc0 HLN.out).mono ?_); rintro e w1 ⟨v1, rfl, hr, hb⟩; obtain ⟨A1, c1, rfl, hc1, hC1⟩ := Kd.R_reads hr; have HC1 := Lib.hid hC1; have HB1 := Lib.hid hb; clear hr hb hC1)
    | (go_at_call 33; (with_reducible refine (delta_parsed.calls A1 c1 L D _ HC1.out hc1 (HT.out.below HB1.out) HPD.out).mono ?_); rintro e w2 ⟨v2, rfl, hr, hb⟩; obtain ⟨A2, c2, rfl, hc2, hC2⟩ := Kd.R_reads hr; have HC2 := Lib.hid hC2; have HB2 := Lib.hid (below_step HB1.out hb); clear hr hb hC2)
    | (go_at_call 19; (with_reducible refine (delta_Print.calls k A2 c2 D Y 0 _ HC2.out hc2 (HT.out.below HB2.out) HPR.out).mono ?_); rintro e w3 ⟨v3, rfl, hr, hb⟩; obtain ⟨A3, c3, rfl, hc3, hC3⟩ := Kd.R_reads hr; have HC3 := Lib.hid hC3; have HB3 := Lib.hid (below_step HB2.out hb); clear hr hb hC3)
    | (go_at_call 35; (with_reducible refine (slices_Equal_byte_byte.calls ke A0 c0 l0 A3 c3 Y false _ (Kd.C_below HR0.out HB3.out) hc0 HC3.out hc3 HEQ.out).mono ?_); rintro e w4 ⟨rfl, hdr⟩; have HB4 := Lib.hid (below_step HB3.out hdr.below); clear hdr))
   go_ret2
   exact ⟨_, rfl, Kd.R_nil _ _ _ _ _, HB4.out⟩
 ·
  rw [if_neg (fun e => he e.1)] at hg
  injection hg with hg1 hg2
  subst hg1 hg2
  have e1 : (E == 0) = false := beq_eq_false_iff_ne.2 he
  have e2 : (E != 0) = true := bne_iff_ne.2 he
  clear he hke
  generalize bytesL X = Y at HPR
  go_enter Tryd.func21, Tryd.ntmps21
  go_wp2_with (first
   | (go_at_call 34; (with_reducible refine (text_Lines.calls A0 c0 l0 L _ HR0.out hc0 HLN.out).mono ?_); rintro e w1 ⟨v1, rfl, hr, hb⟩; obtain ⟨A1, c1, rfl, hc1, hC1⟩ := Kd.R_reads hr; have HC1 := Lib.hid hC1; have HB1 := Lib.hid hb; clear hr hb hC1)
   | (go_at_call 33; (with_reducible refine (delta_parsed.calls A1 c1 L D _ HC1.out hc1 (HT.out.below HB1.out) HPD.out).mono ?_); rintro e w2 ⟨v2, rfl, hr, hb⟩; obtain ⟨A2, c2, rfl, hc2, hC2⟩ := Kd.R_reads hr; have HC2 := Lib.hid hC2; have HB2 := Lib.hid (below_step HB1.out hb); clear hr hb hC2)
   | (go_at_call 19; (with_reducible refine (delta_Print.calls k A2 c2 D Y E _ HC2.out hc2 (HT.out.below HB2.out) HPR.out).mono ?_); rintro e w3 ⟨v3, rfl, hr, hb⟩; obtain ⟨A3, c3, rfl, hc3, hC3⟩ := Kd.R_reads hr; have HB3 := Lib.hid (below_step HB2.out hb); clear hr hb hC3))
  go_ret2
  exact ⟨_, rfl, Kd.R_nil _ _ _ _ _, HB3.out⟩
end Go.Proofs.YthppicgolkpbaaaDoor.P
namespace Go.Proofs.YthppicgolkpbaaaDoor.P
open Go.RowKit Go.Proofs.YthppicgolkpbaaaDoorW.PrintWords Go.Proofs.YthppicgolkpbaaaDoorW.PrintLast Go.Proofs.YthppicgolkpbaaaDoorW.PrintMore
set_option linter.unusedVariables false
set_option linter.unusedSimpArgs false
theorem go_fit {l : List Int} (h : textFit l = true) : roomP (goParse l).1 ≤ 90000000000 ∧ ∀ p ∈ (goParse l).1, ∀ x ∈ p.f2, catsFit x := by
 unfold goParse
 split
 ·
  exact ⟨text_room h, (parsed_fit (linesOf l) [] false (fun e => by cases e) (fun p hp => by cases hp)).2⟩
 ·
  exact ⟨by simp [roomP], fun p hp => by cases hp⟩
theorem parts_lens {d : List S27} (h : roomP d ≤ 4000000000000) : d.length ≤ 4000000000000 ∧ ∀ p ∈ d, p.f2.length ≤ 4000000000000 := by
 have h1 := roomP_len d
 refine ⟨by omega, fun p hp => ?_⟩
 have h2 := part_in_room hp
 have h3 := room_len p.f2
 omega
end Go.Proofs.YthppicgolkpbaaaDoor.P

/- delta.parsed's contract: the parts that lines tell; conditions: at most 4000000 lines of fewer than 2^32 - 15 bytes each. -/
import Derived.Test.YthppicgolkpbaaaDoorDeltaParsesGHBContains
import Derived.Test.YthppicgolkpbaaaDoorDeltaParsesGHDMakeGo
import Derived.Test.YthppicgolkpbaaaDoorDeltaParsesHOpen
import Derived.Test.YthppicgolkpbaaaDoorDeltaParsesGHDLines
import Derived.Test.YthppicgolkpbaaaDoorDeltaParsesHDBehind
import Derived.Test.YthppicgolkpbaaaDoorDeltaParsesPxText
namespace Go.Proofs.YthppicgolkpbaaaDoor.P
open Go.RowKit Go.Proofs.YthppicgolkpbaaaDoorW.PrintWords Go.Proofs.YthppicgolkpbaaaDoorW.PrintLast Go.Proofs.YthppicgolkpbaaaDoorW.PrintMore
set_option linter.unusedVariables false
set_option linter.unusedSimpArgs false
def wordsOf (s : ByteArray) : List ByteArray := (splitC 32 s.data.toList).map baOf
def itemTaken (s : ByteArray) : S41 := ⟨(takenRes s).1, ⟨(takenRes s).2.1, (takenRes s).2.2.1⟩, (takenRes s).2.2.2.1, ⟨(takenRes s).2.2.2.2.1, (takenRes s).2.2.2.2.2.1⟩⟩
def isTaken (s : ByteArray) : Bool := (takenRes s).2.2.2.2.2.2
def isCopy (s : ByteArray) : Prop := (wdOf (wordsOf s) 0).toList = [99, 111, 112, 121] ∧ (wordsOf s).length = 3
instance (s : ByteArray) : Decidable (isCopy s) := by unfold isCopy; exact inferInstance
def isNext (s : ByteArray) : Prop := (wdOf (wordsOf s) 0).toList = [110, 101, 120, 116]
instance (s : ByteArray) : Decidable (isNext s) := by unfold isNext; exact inferInstance
def parsedGo : List S39 → List S27 → Bool → List S27
 | [], ps, _ => ps
 | x :: l, ps, op =>
  if isCopy x.f0 then parsedGo l (ps ++ [⟨(numOf (wdOf (wordsOf x.f0) 1)).1, (numOf (wdOf (wordsOf x.f0) 2)).1, []⟩]) false
  else if isNext x.f0 then parsedGo l ps false
  else if isTaken x.f0 = true then parsedGo l (inP ps (if op = true then 3 else 0) (itemTaken x.f0)) true
  else []
def lineFit (x : S39) : Bool := decide (x.f0.size < 4294967281)
def delta_parsed.f (l0 : List S39) : Option (List S27) := if (l0.all lineFit && decide (l0.length ≤ 4000000)) = true then some (parsedGo l0 [] false) else none
def linesFit (ps : List S27) (n : Nat) : Prop := ps.length ≤ n ∧ ∀ p ∈ ps, p.f2.length ≤ n
theorem linesFit.snoc {ps : List S27} {n : Nat} {q : S27} (h : linesFit ps n) (hq : q.f2.length ≤ n + 1) : linesFit (ps ++ [q]) (n + 1) := by
 refine ⟨by have := h.1; simp; omega, fun p hp => ?_⟩
 rcases List.mem_append.1 hp with hp | hp
 ·
  have := h.2 p hp; omega
 ·
  rw [List.mem_singleton.1 hp]; exact hq
theorem linesFit.mono {ps : List S27} {n : Nat} (h : linesFit ps n) : linesFit ps (n + 1) := ⟨by have := h.1; omega, fun p hp => by have := h.2 p hp; omega⟩
theorem linesFit.init {qs : List S27} {q q' : S27} {n : Nat} (h : linesFit (qs ++ [q]) n) (hq : q'.f2.length ≤ n + 1) : linesFit (qs ++ [q']) (n + 1) := by
 refine ⟨by have := h.1; simp at this ⊢; omega, fun p hp => ?_⟩
 rcases List.mem_append.1 hp with hp | hp
 ·
  have := h.2 p (by simp [hp]); omega
 ·
  rw [List.mem_singleton.1 hp]; exact hq
theorem words_ne (s : ByteArray) : 1 ≤ (wordsOf s).length := by
 unfold wordsOf
 rw [List.length_map]
 have := splitC_ne 32 s.data.toList
 cases h : splitC 32 s.data.toList with
 | nil => exact absurd h this
 | cons a l => simp
theorem words_tell (s : ByteArray) (hs : s.size < 4294967281) : text_Words.f s = some (wordsOf s) := by
 unfold text_Words.f strings_Split.f
 rw [if_pos (show (⟨#[32]⟩ : ByteArray).size = 1 from rfl), if_pos hs]
 rfl
theorem two_set (a b a' b' : Value) : (#[a, b].setIfInBounds 0 a').setIfInBounds 1 b' = #[a', b'] := by simp
theorem putLine_blk {W : World} {g : Nat} {a b : Value} (x : S39) (h : W.heap[g]? = some (.cells #[a, b] 39 (0, 0))) : ((W.setCell ⟨g, 0, none⟩ (.string x.f0)).setCell ⟨g, 1, none⟩ (.bool x.f1)).heap[g]? = some (.cells #[.string x.f0, .bool x.f1] 39 (0, 0)) := by
 have h5 := blk_set (blk_set h 0 (.string x.f0)) 1 (.bool x.f1)
 rw [two_set] at h5
 exact h5
theorem putLine_below {w W : World} {g : Nat} (x : S39) (hb : Below w.heap.size w W) (hg : w.heap.size ≤ g) : Below w.heap.size w ((W.setCell ⟨g, 0, none⟩ (.string x.f0)).setCell ⟨g, 1, none⟩ (.bool x.f1)) :=
 (hb.setCell (p := ⟨g, 0, none⟩) hg _).setCell (p := ⟨g, 1, none⟩) hg _
theorem ln_drop (l : List S39) (i : Nat) (h : i < l.length) : l.drop i = rd_T39 l (i : Int) :: l.drop (i + 1) := rd_drop l i h
theorem fit_ln {l : List S39} (h : l.all lineFit = true) (i : Nat) (hi : i < l.length) : (rd_T39 l (i : Int)).f0.size < 4294967281 := by
 have hm : rd_T39 l (i : Int) ∈ l := by
  have := ln_drop l i hi
  have h2 : rd_T39 l (i : Int) ∈ l.drop i := by rw [this]; simp
  exact List.mem_of_mem_drop h2
 have := List.all_eq_true.1 h _ hm
 simpa [lineFit] using this
theorem PartsRow.below {W W' : World} {B : Nat} {v : Value} {ps : List S27} (h : PartsRow W B v ps) (hb : Below W.heap.size W W') : PartsRow W' B v ps := h.move fun k hk _ => hb.block k hk
theorem word_cell {W : World} {A : Addr} {l : List ByteArray} (hC : Kd.C Kd.string W (some A) l.length l) (i : Nat) (h0 : 0 < i) (hi : i < l.length) : W.cell? ⟨A.block, A.off + i, none⟩ = some (.string (wdOf l i)) := by
 obtain ⟨ad, e, h⟩ := Kd.at_string hC (i : Int) (by omega) (by omega)
 injection e with e
 subst e
 rw [Int.toNat_natCast, rd_wd] at h
 simpa [Go.Addr.add, Nat.ne_of_gt h0] using h
def ParsedRel (w : World) (l : List S39) (r : List S27) (v3 v4 v17 : Value) (W : World) : Prop :=
 ∃ (i : Nat) (ps : List S27) (op : Bool), v4 = .bool op ∧ v17 = .int .i64 (i : Int) ∧ i ≤ l.length ∧ PartsRow W w.heap.size v3 ps ∧ Below w.heap.size w W ∧ parsedGo (l.drop i) ps op = r ∧ linesFit ps i ∧ (op = true → ps ≠ [])
set_option maxHeartbeats 8000000 in
set_option maxRecDepth 100000 in
theorem parsed_calls (A0 : Option Addr) (c0 : Nat) (l0 : List S39) (r : List S27) (w : World) (hr0 : Kd.C k39 w A0 l0.length l0) (hc0 : l0.length ≤ c0) (hT : Tabs w) (hTK : TakenSaid) (h : delta_parsed.f l0 = some r) :
  Calls Tryd.prog 33 #[.slice A0 l0.length c0] w fun e w' => ∃ v0_ : Value, e = .returned v0_ ∧ Kd.R k27 27 w' w.heap.size (fun _ => True) v0_ r ∧ Below w.heap.size w w' := by
 unfold delta_parsed.f at h
 by_cases hall : (l0.all lineFit && decide (l0.length ≤ 4000000)) = true
 case neg => rw [if_neg hall] at h; cases h
 rw [if_pos hall] at h
 have hres := Option.some.inj h
 simp only [Bool.and_eq_true, decide_eq_true_eq] at hall
 obtain ⟨hfit, hn0⟩ := hall
 have HF := Lib.hid hfit
 have HRES := Lib.hid hres
 have HR0 := Lib.hid hr0
 have HTT := Lib.hid hT
 clear h hfit hres hr0 hT
 have mixed : Tryd.prog.follows Departure.mixedOrders = true := by kernel_rfl
 go_enter Tryd.func33, Tryd.ntmps33
 go_wp2
 go_loopw [3, 4, 17] (fun v3 v4 v17 W => ParsedRel w l0 r v3 v4 v17 W) (fun _ _ v17 _ => l0.length - (intOf v17).toNat)
 case atStart => exact ⟨0, [], false, rfl, rfl, Nat.zero_le _, .inl ⟨rfl, own_nil _ _ _ _⟩, Below.refl _ _, HRES.out, ⟨Nat.zero_le _, fun p hp => by cases hp⟩, fun h => by cases h⟩
 case round =>
  obtain ⟨i, ps, op, rfl, rfl, hi, hp, HB, hgo, hfit, hop⟩ := hrel
  have HP := Lib.hid hp
  have HGO := Lib.hid hgo
  have HFIT := Lib.hid hfit
  have HOP := Lib.hid hop
  clear hp hgo hfit hop
  have hBr := HB.size
  by_cases hil : i < l0.length
  case neg =>
   have hd : decide (i < l0.length) = false := by simpa using hil
   obtain rfl : i = l0.length := by omega
   have HE := Lib.hid (show ps = r by have := HGO.out; rw [List.drop_length] at this; exact this)
   go_wp2
   go_ret
   exact ⟨_, rfl, by rw [← HE.out]; exact HP.out.all, HB⟩
  have hd : decide (i < l0.length) = true := by simpa using hil
  have hsz := fit_ln HF.out i hil
  have HGO2 := Lib.hid (show parsedGo (rd_T39 l0 (i : Int) :: l0.drop (i + 1)) ps op = r by rw [← ln_drop l0 i hil]; exact HGO.out)
  obtain ⟨ad, rfl, x0, x1⟩ := at_T39 (Kd.C_below HR0.out HB) (i : Int) (by omega) (by omega)
  rw [Int.toNat_natCast] at x0 x1
  generalize rd_T39 l0 (i : Int) = x at x0 x1 hsz HGO2
  have HWD := Lib.hid (words_tell x.f0 hsz)
  have HNE := Lib.hid (words_ne x.f0)
  clear HGO
  have hrl : w.heap.size ≤ wr.heap.size := HB.size
  by_cases hcp : isCopy x.f0
  case pos =>
   have e1 : ((wdOf (wordsOf x.f0) 0).toList == [99, 111, 112, 121]) = true := by simpa using hcp.1
   have e2 : (((wordsOf x.f0).length : Int) == 3) = true := by have := hcp.2; simp; omega
   have hlen : 2 < (wordsOf x.f0).length := by have := hcp.2; omega
   have HGO3 := Lib.hid (show parsedGo (l0.drop (i + 1)) (ps ++ [⟨(numOf (wdOf (wordsOf x.f0) 1)).1, (numOf (wdOf (wordsOf x.f0) 2)).1, []⟩]) false = r by have := HGO2.out; rwa [parsedGo, if_pos hcp] at this)
   clear hcp HNE HGO2
   generalize wordsOf x.f0 = ws at HWD HGO3 e1 e2 hlen
   have HN1 := Lib.hid (text_Number_tells (wdOf ws 1))
   have HN2 := Lib.hid (text_Number_tells (wdOf ws 2))
   generalize numOf (wdOf ws 1) = n1 at HN1 HGO3
   generalize numOf (wdOf ws 2) = n2 at HN2 HGO3
   obtain ⟨n1, b1⟩ := n1
   obtain ⟨n2, b2⟩ := n2
   have hbytes : (ps.length + 1) * 40 ≤ 140737488355328 := by have := HFIT.out.1; omega
   go_wp2_with (first
     | ((with_reducible refine gate_dst (N := 6) rfl ?_); refine box_event ?hg (N := 6) ?hd (cs := #[.string ⟨#[]⟩, .bool false]) (t := 39) ?hr ?_; (case hd => rfl); (case hg => rfl); (case hr => first | (go_simp; done) | (go_simp; rfl)); intro gb hg wA hbox hbA; have HX := Lib.hid hbox; have y0 : wA.cell? ⟨gb, 0, none⟩ = some (.string ⟨#[]⟩) := (blk_cell hbox 0).trans rfl; have z0 := blk_frozen hbox 0; have y1 : wA.cell? ⟨gb, 1, none⟩ = some (.bool false) := (blk_cell hbox 1).trans rfl; have z1 := blk_frozen hbox 1; have HGE := Lib.hid (show wr.heap.size ≤ gb by rw [hg]; simp); have HBA := Lib.hid hbA; clear hbox hbA hg)
     | (go_at_call 47; (with_reducible refine (text_Words.calls _ _ _ HWD.out).mono ?_); rintro e w2 ⟨v2, rfl, hr, hb2⟩; obtain ⟨A2, c2, rfl, hc2, hC2⟩ := Kd.R_reads hr; obtain ⟨a2, rfl, k0⟩ := Kd.at_string hC2 0 (by omega) (by omega); replace k0 : w2.cell? a2 = some (.string (wdOf ws 0)) := k0; have k1 := word_cell hC2 1 (by decide) (by omega); have HC2 := Lib.hid hC2; have HX2 := Lib.hid (show w2.heap[gb]? = some (.cells #[.string x.f0, .bool x.f1] 39 (0, 0)) from blk_below (putLine_blk x HX.out) hb2); have HB2 := Lib.hid (show Below wr.heap.size wr w2 from below_step (putLine_below x HBA.out HGE.out) hb2); clear y0 z0 y1 z1 hb2 hr hC2; have y0 : w2.cell? ⟨gb, 0, none⟩ = some (.string x.f0) := (blk_cell HX2.out 0).trans rfl)
     | (go_at_call 48; (with_reducible refine (text_Number.calls 13 (wdOf ws 1) _ _ _ HN1.out).mono ?_); rintro e w3 ⟨rfl, hdr⟩; have HB3 := Lib.hid (below_step HB2.out hdr.below); have k2 := word_cell (Kd.C_below HC2.out hdr.below) 2 (by decide) (by omega); clear k0 k1 y0 hdr)
     | (go_at_call 48; (with_reducible refine (text_Number.calls 13 (wdOf ws 2) _ _ _ HN2.out).mono ?_); rintro e w4 ⟨rfl, hdr⟩; have HB4 := Lib.hid (below_step HB3.out hdr.below); have hB4 := HB4.out.size; obtain ⟨xs, ho, hrp⟩ := (HP.out.below HB4.out).own; have HO := Lib.hid ho; have HR := Lib.hid hrp; clear k2 hdr ho hrp)
     | (at_builtin; (refine print_append_cells (w0 := w) (W := w4) w.heap.size rfl (.tmp 77) (.tmp 81) 24 27 _ 3 _ rfl Tryd.underlying24 info27 rfl (by decide) (by decide) u3 ps.length xs [.int .i64 n1, .int .i64 n2, .slice none 0 0] rfl ?hx rfl (three_one n1 n2) HO.out (HB.trans (HB4.out.mono hrl)) (Nat.le_trans hrl hB4) hbytes ?_); (case hx => first | rfl | go_simp); intro v1 w1 ho1 hb1 hg1 hat1; have HP1 := Lib.hid (PartsRow.snoc n1 n2 HR.out ho1 hg1 hat1); have HB1 := Lib.hid hb1; clear ho1 hb1 hg1 hat1))
   go_roundw
   case rel => exact ⟨i + 1, _, false, rfl, by go_num, by omega, HP1.out, HB1.out, HGO3.out, HFIT.out.snoc (Nat.zero_le _), fun h => by cases h⟩
   case measure => simp [intOf]; omega
  case neg =>
   by_cases hnx : isNext x.f0
   case pos =>
    have e1 : ((wdOf (wordsOf x.f0) 0).toList == [99, 111, 112, 121]) = false := by have h9 := hnx; unfold isNext at h9; rw [h9]; decide
    have e3 : ((wdOf (wordsOf x.f0) 0).toList == [110, 101, 120, 116]) = true := by have h9 := hnx; unfold isNext at h9; rw [h9]; decide
    have HGO3 := Lib.hid (show parsedGo (l0.drop (i + 1)) ps false = r by have := HGO2.out; rwa [parsedGo, if_neg hcp, if_pos hnx] at this)
    have hlen : 0 < (wordsOf x.f0).length := HNE.out
    clear hcp hnx HNE HGO2
    generalize wordsOf x.f0 = ws at HWD e1 e3 hlen
    go_wp2_with (first
     | ((with_reducible refine gate_dst (N := 6) rfl ?_); refine box_event ?hg (N := 6) ?hd (cs := #[.string ⟨#[]⟩, .bool false]) (t := 39) ?hr ?_; (case hd => rfl); (case hg => rfl); (case hr => first | (go_simp; done) | (go_simp; rfl)); intro gb hg wA hbox hbA; have HX := Lib.hid hbox; have y0 : wA.cell? ⟨gb, 0, none⟩ = some (.string ⟨#[]⟩) := (blk_cell hbox 0).trans rfl; have z0 := blk_frozen hbox 0; have y1 : wA.cell? ⟨gb, 1, none⟩ = some (.bool false) := (blk_cell hbox 1).trans rfl; have z1 := blk_frozen hbox 1; have HGE := Lib.hid (show wr.heap.size ≤ gb by rw [hg]; simp); have HBA := Lib.hid hbA; clear hbox hbA hg)
     | (go_at_call 47; (with_reducible refine (text_Words.calls _ _ _ HWD.out).mono ?_); rintro e w2 ⟨v2, rfl, hr, hb2⟩; obtain ⟨A2, c2, rfl, hc2, hC2⟩ := Kd.R_reads hr; obtain ⟨a2, rfl, k0⟩ := Kd.at_string hC2 0 (by omega) (by omega); replace k0 : w2.cell? a2 = some (.string (wdOf ws 0)) := k0; have HX2 := Lib.hid (show w2.heap[gb]? = some (.cells #[.string x.f0, .bool x.f1] 39 (0, 0)) from blk_below (putLine_blk x HX.out) hb2); have HB2 := Lib.hid (show Below wr.heap.size wr w2 from below_step (putLine_below x HBA.out HGE.out) hb2); clear y0 z0 y1 z1 hb2 hr hC2; have y0 : w2.cell? ⟨gb, 0, none⟩ = some (.string x.f0) := (blk_cell HX2.out 0).trans rfl))
    go_roundw
    case rel => exact ⟨i + 1, _, false, rfl, by go_num, by omega, HP.out.below HB2.out, HB.trans (HB2.out.mono hrl), HGO3.out, HFIT.out.mono, fun h => by cases h⟩
    case measure => simp [intOf]; omega
   case neg =>
    have e3 : ((wdOf (wordsOf x.f0) 0).toList == [110, 101, 120, 116]) = false := by unfold isNext at hnx; simpa using hnx
    have HTK := Lib.hid (fun w' hw' => hTK x.f0 w' hw' hsz)
    have hlen : 0 < (wordsOf x.f0).length := HNE.out
    have hE : ((wdOf (wordsOf x.f0) 0).toList == [99, 111, 112, 121]) = true ∧ (((wordsOf x.f0).length : Int) == 3) = false ∨ ((wdOf (wordsOf x.f0) 0).toList == [99, 111, 112, 121]) = false := by
     by_cases h1 : (wdOf (wordsOf x.f0) 0).toList = [99, 111, 112, 121]
     ·
      refine .inl ⟨by simpa using h1, ?_⟩
      have : ¬ (wordsOf x.f0).length = 3 := fun h2 => hcp ⟨h1, h2⟩
      simp; omega
     ·
      exact .inr (by simpa using h1)
    have HGO3 := Lib.hid (show (if isTaken x.f0 = true then parsedGo (l0.drop (i + 1)) (inP ps (if op = true then 3 else 0) (itemTaken x.f0)) true else []) = r by have := HGO2.out; rwa [parsedGo, if_neg hcp, if_neg hnx] at this)
    unfold isTaken itemTaken at HGO3
    clear hcp hnx HNE HGO2
    generalize wordsOf x.f0 = ws at HWD e3 hE hlen
    generalize takenRes x.f0 = tr at HTK HGO3
    obtain ⟨t1, t2, t3, t4, t5, t6, t7⟩ := tr
    replace HTK : Hid (∀ w', Tabs w' → Calls Tryd.prog 49 #[.string x.f0] w' fun e w2 => e = .returned (.tuple #[.agg #[.int .i64 t1, .int .i64 t2, .int .u64 t3, .bool t4, .string t5, .bool t6], .bool t7]) ∧ Below w'.heap.size w' w2) := HTK
    replace HGO3 : Hid ((if t7 = true then parsedGo (l0.drop (i + 1)) (inP ps (if op = true then 3 else 0) ⟨t1, ⟨t2, t3⟩, t4, ⟨t5, t6⟩⟩) true else []) = r) := HGO3
    cases t7
    case false =>
     replace HGO3 := Lib.hid (show [] = r by have := HGO3.out; rwa [if_neg (by decide)] at this)
     rcases hE with ⟨e1, e2⟩ | e1
     all_goals
      go_wp2_with (first
       | ((with_reducible refine gate_dst (N := 6) rfl ?_); refine box_event ?hg (N := 6) ?hd (cs := #[.string ⟨#[]⟩, .bool false]) (t := 39) ?hr ?_; (case hd => rfl); (case hg => rfl); (case hr => first | (go_simp; done) | (go_simp; rfl)); intro gb hg wA hbox hbA; have HX := Lib.hid hbox; have y0 : wA.cell? ⟨gb, 0, none⟩ = some (.string ⟨#[]⟩) := (blk_cell hbox 0).trans rfl; have z0 := blk_frozen hbox 0; have y1 : wA.cell? ⟨gb, 1, none⟩ = some (.bool false) := (blk_cell hbox 1).trans rfl; have z1 := blk_frozen hbox 1; have HGE := Lib.hid (show wr.heap.size ≤ gb by rw [hg]; simp); have HBA := Lib.hid hbA; clear hbox hbA hg)
       | (go_at_call 47; (with_reducible refine (text_Words.calls _ _ _ HWD.out).mono ?_); rintro e w2 ⟨v2, rfl, hr, hb2⟩; obtain ⟨A2, c2, rfl, hc2, hC2⟩ := Kd.R_reads hr; obtain ⟨a2, rfl, k0⟩ := Kd.at_string hC2 0 (by omega) (by omega); replace k0 : w2.cell? a2 = some (.string (wdOf ws 0)) := k0; have HX2 := Lib.hid (show w2.heap[gb]? = some (.cells #[.string x.f0, .bool x.f1] 39 (0, 0)) from blk_below (putLine_blk x HX.out) hb2); have HB2 := Lib.hid (show Below wr.heap.size wr w2 from below_step (putLine_below x HBA.out HGE.out) hb2); clear y0 z0 y1 z1 hb2 hr hC2; have y0 : w2.cell? ⟨gb, 0, none⟩ = some (.string x.f0) := (blk_cell HX2.out 0).trans rfl)
       | (go_at_call 49; (with_reducible refine (HTK.out _ (HTT.out.below (HB.trans (HB2.out.mono hrl)))).mono ?_); rintro e w3 ⟨rfl, hb3⟩; have HB3 := Lib.hid (below_step HB2.out hb3); clear k0 y0 hb3)
       | ((with_reducible refine gate_dst (N := 12) rfl ?_); refine box_event ?hg (N := 12) ?hd (cs := #[.int .i64 0, .int .i64 0, .int .u64 0, .bool false, .string ⟨#[]⟩, .bool false]) (t := 41) ?hr ?_; (case hd => rfl); (case hg => rfl); (case hr => first | (go_simp; done) | (go_simp; rfl)); intro gi hg wB hbox hbB; have HXI := Lib.hid hbox; have i0 : wB.cell? ⟨gi, 0, none⟩ = some (.int .i64 0) := (blk_cell hbox 0).trans rfl; have zi0 := blk_frozen hbox 0; have i1 : wB.cell? ⟨gi, 1, none⟩ = some (.int .i64 0) := (blk_cell hbox 1).trans rfl; have zi1 := blk_frozen hbox 1; have i2 : wB.cell? ⟨gi, 2, none⟩ = some (.int .u64 0) := (blk_cell hbox 2).trans rfl; have zi2 := blk_frozen hbox 2; have i3 : wB.cell? ⟨gi, 3, none⟩ = some (.bool false) := (blk_cell hbox 3).trans rfl; have zi3 := blk_frozen hbox 3; have i4 : wB.cell? ⟨gi, 4, none⟩ = some (.string ⟨#[]⟩) := (blk_cell hbox 4).trans rfl; have zi4 := blk_frozen hbox 4; have i5 : wB.cell? ⟨gi, 5, none⟩ = some (.bool false) := (blk_cell hbox 5).trans rfl; have zi5 := blk_frozen hbox 5; have HGI := Lib.hid (show w3.heap.size ≤ gi by rw [hg]; simp); have HBB := Lib.hid hbB; clear hbox hbB hg))
      go_ret
      exact ⟨_, rfl, by rw [← HGO3.out]; exact Kd.R_nil _ _ _ _ _, HB.trans ((below_step HB3.out (putItem_below (w := w3) ⟨t1, ⟨t2, t3⟩, t4, ⟨t5, t6⟩⟩ HBB.out HGI.out)).mono hrl)⟩
    case true =>
     replace HGO3 := Lib.hid (show parsedGo (l0.drop (i + 1)) (inP ps (if op = true then 3 else 0) ⟨t1, ⟨t2, t3⟩, t4, ⟨t5, t6⟩⟩) true = r by have := HGO3.out; rwa [if_pos rfl] at this)
     cases op
     case true =>
      obtain ⟨qs, q, rfl⟩ := parts_last (HOP.out rfl)
      obtain ⟨gv, cap, _, _, rfl, -⟩ := HP.out.last
      replace HGO3 := Lib.hid (show parsedGo (l0.drop (i + 1)) (qs ++ [⟨q.f0, q.f1, q.f2 ++ [⟨t1, ⟨t2, t3⟩, t4, ⟨t5, t6⟩⟩]⟩]) true = r by have := HGO3.out; rwa [if_pos rfl, inP_snoc] at this)
      have HFIT2 := Lib.hid (HFIT.out.init (q' := ⟨q.f0, q.f1, q.f2 ++ [⟨t1, ⟨t2, t3⟩, t4, ⟨t5, t6⟩⟩]⟩) (by have := HFIT.out.2 q (by simp); simp; omega))
      have hql : qs.length < 4000000 := by have := HFIT.out.1; simp at this; omega
      have hbytes2 : (q.f2.length + 1) * 56 ≤ 140737488355328 := by have := HFIT.out.2 q (by simp); omega
      have hw2 : IntKind.i64.wrap (((qs.length + 1 : Nat) : Int) - 1) = (qs.length : Int) := by rw [show ((qs.length + 1 : Nat) : Int) - 1 = (qs.length : Int) by omega]; exact IntWalk.i64_in _ (by omega)
      rcases hE with ⟨e1, e2⟩ | e1
      all_goals
       go_wp2_with (first
        | ((with_reducible refine gate_dst (N := 6) rfl ?_); refine box_event ?hg (N := 6) ?hd (cs := #[.string ⟨#[]⟩, .bool false]) (t := 39) ?hr ?_; (case hd => rfl); (case hg => rfl); (case hr => first | (go_simp; done) | (go_simp; rfl)); intro gb hg wA hbox hbA; have HX := Lib.hid hbox; have y0 : wA.cell? ⟨gb, 0, none⟩ = some (.string ⟨#[]⟩) := (blk_cell hbox 0).trans rfl; have z0 := blk_frozen hbox 0; have y1 : wA.cell? ⟨gb, 1, none⟩ = some (.bool false) := (blk_cell hbox 1).trans rfl; have z1 := blk_frozen hbox 1; have HGE := Lib.hid (show wr.heap.size ≤ gb by rw [hg]; simp); have HBA := Lib.hid hbA; clear hbox hbA hg)
        | (go_at_call 47; (with_reducible refine (text_Words.calls _ _ _ HWD.out).mono ?_); rintro e w2 ⟨v2, rfl, hr, hb2⟩; obtain ⟨A2, c2, rfl, hc2, hC2⟩ := Kd.R_reads hr; obtain ⟨a2, rfl, k0⟩ := Kd.at_string hC2 0 (by omega) (by omega); replace k0 : w2.cell? a2 = some (.string (wdOf ws 0)) := k0; have HX2 := Lib.hid (show w2.heap[gb]? = some (.cells #[.string x.f0, .bool x.f1] 39 (0, 0)) from blk_below (putLine_blk x HX.out) hb2); have HB2 := Lib.hid (show Below wr.heap.size wr w2 from below_step (putLine_below x HBA.out HGE.out) hb2); clear y0 z0 y1 z1 hb2 hr hC2; have y0 : w2.cell? ⟨gb, 0, none⟩ = some (.string x.f0) := (blk_cell HX2.out 0).trans rfl)
        | (go_at_call 49; (with_reducible refine (HTK.out _ (HTT.out.below (HB.trans (HB2.out.mono hrl)))).mono ?_); rintro e w3 ⟨rfl, hb3⟩; have HB3 := Lib.hid (below_step HB2.out hb3); clear k0 y0 hb3)
        | ((with_reducible refine gate_dst (N := 12) rfl ?_); refine box_event ?hg (N := 12) ?hd (cs := #[.int .i64 0, .int .i64 0, .int .u64 0, .bool false, .string ⟨#[]⟩, .bool false]) (t := 41) ?hr ?_; (case hd => rfl); (case hg => rfl); (case hr => first | (go_simp; done) | (go_simp; rfl)); intro gi hg wB hbox hbB; have HXI := Lib.hid hbox; have i0 : wB.cell? ⟨gi, 0, none⟩ = some (.int .i64 0) := (blk_cell hbox 0).trans rfl; have zi0 := blk_frozen hbox 0; have i1 : wB.cell? ⟨gi, 1, none⟩ = some (.int .i64 0) := (blk_cell hbox 1).trans rfl; have zi1 := blk_frozen hbox 1; have i2 : wB.cell? ⟨gi, 2, none⟩ = some (.int .u64 0) := (blk_cell hbox 2).trans rfl; have zi2 := blk_frozen hbox 2; have i3 : wB.cell? ⟨gi, 3, none⟩ = some (.bool false) := (blk_cell hbox 3).trans rfl; have zi3 := blk_frozen hbox 3; have i4 : wB.cell? ⟨gi, 4, none⟩ = some (.string ⟨#[]⟩) := (blk_cell hbox 4).trans rfl; have zi4 := blk_frozen hbox 4; have i5 : wB.cell? ⟨gi, 5, none⟩ = some (.bool false) := (blk_cell hbox 5).trans rfl; have zi5 := blk_frozen hbox 5; have HGI := Lib.hid (show w3.heap.size ≤ gi by rw [hg]; simp); have HBB := Lib.hid hbB; clear hbox hbB hg))
       have HX5 := Lib.hid (putItem_blk ⟨t1, ⟨t2, t3⟩, t4, ⟨t5, t6⟩⟩ HXI.out)
       have HB5 := Lib.hid (below_step HB3.out (putItem_below (w := w3) ⟨t1, ⟨t2, t3⟩, t4, ⟨t5, t6⟩⟩ HBB.out HGI.out))
       unfold putItem at HX5 HB5
       generalize ((((((wB.setCell ⟨gi, 0, none⟩ (.int .i64 t1)).setCell ⟨gi, 1, none⟩ (.int .i64 t2)).setCell ⟨gi, 2, none⟩ (.int .u64 t3)).setCell ⟨gi, 3, none⟩ (.bool t4)).setCell ⟨gi, 4, none⟩ (.string t5)).setCell ⟨gi, 5, none⟩ (.bool t6)) = W5 at HX5 HB5 ⊢
       clear i0 i1 i2 i3 i4 i5 zi0 zi1 zi2 zi3 zi4 zi5
       have HP5 := Lib.hid (HP.out.below HB5.out)
       have HBW := Lib.hid (HB.trans (HB5.out.mono hrl))
       obtain ⟨gv2, cap2, cur, vq, he, hBgv, hgv, hc1, hc2, hR, hcap, hset, hput⟩ := HP5.out.last
       injection he with he1 _ he2
       injection he1 with he1
       injection he1 with he1
       subst he1 he2
       have HGV := Lib.hid hgv
       have HPP := Lib.hid hput
       have HRR := Lib.hid hR
       obtain ⟨y0, y1, y2, y3, y4, y5⟩ := itemCells_at (x := ⟨t1, ⟨t2, t3⟩, t4, ⟨t5, t6⟩⟩) HX5.out
       have hgb := blk_lt HX5.out
       have hgvlt := blk_lt hgv
       have hcur : cur[qs.length * 3 + 2]? = some vq := by rw [← blk_cell HGV.out]; exact hc2
       have HCU := Lib.hid hcur
       have hB5 : w.heap.size ≤ W5.heap.size := HBW.out.size
       clear hgv hput hset hc1 hR hcur
       go_region_law (refine Kd.R_append_step k41 (w0 := w) w.heap.size rfl (.tmp 47) (.tmp 49) 22 41 _ _ rfl Tryd.underlying22 info41 rfl (by decide) (by decide) vq q.f2 ⟨t1, ⟨t2, t3⟩, t4, ⟨t5, t6⟩⟩ [.int .i64 t1, .int .i64 t2, .int .u64 t3, .bool t4, .string t5, .bool t6] (fun _ => True) (fun _ => False) rfl rfl (item_M _ _ _ _) (fun _ h => h.elim) (fun _ _ => trivial) (W := W5.drew) HRR.out (below_drew HBW.out) hB5 hbytes2 ?_; intro v6 w6 ho6 hb6 hg6 hat6; obtain ⟨A6, c6, rfl⟩ := Kd.R_slice ho6; have HQ6 := Lib.hid (HPP.out w6 _ _ ho6 (undrew hg6) hat6); have n0 : w6.cell? ⟨gv, qs.length * 3 + 2, none⟩ = some vq := (blk_cell HQ6.out.2 _).trans HCU.out; have n1 := blk_frozen HQ6.out.2 (qs.length * 3 + 2); have HB6 := Lib.hid hb6; clear ho6 hb6 hg6 hat6)
       all_goals
        go_wp2
        go_roundw
        case rel => exact ⟨i + 1, _, true, rfl, by go_num, by omega, by have := HQ6.out.1; rw [List.length_append] at this; exact this, HB6.out.setCell (p := ⟨gv, _, none⟩) hBgv _, HGO3.out, HFIT2.out, fun _ => by simp⟩
        case measure => simp [intOf]; omega
     case false =>
      replace HGO3 := Lib.hid (show parsedGo (l0.drop (i + 1)) (ps ++ [⟨0, 0, [⟨t1, ⟨t2, t3⟩, t4, ⟨t5, t6⟩⟩]⟩]) true = r by have := HGO3.out; rwa [if_neg (by decide), inP, if_neg (by decide)] at this)
      have HFIT2 := Lib.hid (HFIT.out.snoc (q := ⟨0, 0, [⟨t1, ⟨t2, t3⟩, t4, ⟨t5, t6⟩⟩]⟩) (by simp))
      have hql : ps.length < 4000000 := by have := HFIT.out.1; omega
      have hbytes : (ps.length + 1) * 40 ≤ 140737488355328 := by omega
      have hbytes2 : (([] : List S41).length + 1) * 56 ≤ 140737488355328 := by decide
      have hw2 : IntKind.i64.wrap (((ps.length + 1 : Nat) : Int) - 1) = (ps.length : Int) := by rw [show ((ps.length + 1 : Nat) : Int) - 1 = (ps.length : Int) by omega]; exact IntWalk.i64_in _ (by omega)
      rcases hE with ⟨e1, e2⟩ | e1
      all_goals
       go_wp2_with (first
        | ((with_reducible refine gate_dst (N := 6) rfl ?_); refine box_event ?hg (N := 6) ?hd (cs := #[.string ⟨#[]⟩, .bool false]) (t := 39) ?hr ?_; (case hd => rfl); (case hg => rfl); (case hr => first | (go_simp; done) | (go_simp; rfl)); intro gb hg wA hbox hbA; have HX := Lib.hid hbox; have y0 : wA.cell? ⟨gb, 0, none⟩ = some (.string ⟨#[]⟩) := (blk_cell hbox 0).trans rfl; have z0 := blk_frozen hbox 0; have y1 : wA.cell? ⟨gb, 1, none⟩ = some (.bool false) := (blk_cell hbox 1).trans rfl; have z1 := blk_frozen hbox 1; have HGE := Lib.hid (show wr.heap.size ≤ gb by rw [hg]; simp); have HBA := Lib.hid hbA; clear hbox hbA hg)
        | (go_at_call 47; (with_reducible refine (text_Words.calls _ _ _ HWD.out).mono ?_); rintro e w2 ⟨v2, rfl, hr, hb2⟩; obtain ⟨A2, c2, rfl, hc2, hC2⟩ := Kd.R_reads hr; obtain ⟨a2, rfl, k0⟩ := Kd.at_string hC2 0 (by omega) (by omega); replace k0 : w2.cell? a2 = some (.string (wdOf ws 0)) := k0; have HX2 := Lib.hid (show w2.heap[gb]? = some (.cells #[.string x.f0, .bool x.f1] 39 (0, 0)) from blk_below (putLine_blk x HX.out) hb2); have HB2 := Lib.hid (show Below wr.heap.size wr w2 from below_step (putLine_below x HBA.out HGE.out) hb2); clear y0 z0 y1 z1 hb2 hr hC2; have y0 : w2.cell? ⟨gb, 0, none⟩ = some (.string x.f0) := (blk_cell HX2.out 0).trans rfl)
        | (go_at_call 49; (with_reducible refine (HTK.out _ (HTT.out.below (HB.trans (HB2.out.mono hrl)))).mono ?_); rintro e w3 ⟨rfl, hb3⟩; have HB3 := Lib.hid (below_step HB2.out hb3); clear k0 y0 hb3)
        | ((with_reducible refine gate_dst (N := 12) rfl ?_); refine box_event ?hg (N := 12) ?hd (cs := #[.int .i64 0, .int .i64 0, .int .u64 0, .bool false, .string ⟨#[]⟩, .bool false]) (t := 41) ?hr ?_; (case hd => rfl); (case hg => rfl); (case hr => first | (go_simp; done) | (go_simp; rfl)); intro gi hg wB hbox hbB; have HXI := Lib.hid hbox; have i0 : wB.cell? ⟨gi, 0, none⟩ = some (.int .i64 0) := (blk_cell hbox 0).trans rfl; have zi0 := blk_frozen hbox 0; have i1 : wB.cell? ⟨gi, 1, none⟩ = some (.int .i64 0) := (blk_cell hbox 1).trans rfl; have zi1 := blk_frozen hbox 1; have i2 : wB.cell? ⟨gi, 2, none⟩ = some (.int .u64 0) := (blk_cell hbox 2).trans rfl; have zi2 := blk_frozen hbox 2; have i3 : wB.cell? ⟨gi, 3, none⟩ = some (.bool false) := (blk_cell hbox 3).trans rfl; have zi3 := blk_frozen hbox 3; have i4 : wB.cell? ⟨gi, 4, none⟩ = some (.string ⟨#[]⟩) := (blk_cell hbox 4).trans rfl; have zi4 := blk_frozen hbox 4; have i5 : wB.cell? ⟨gi, 5, none⟩ = some (.bool false) := (blk_cell hbox 5).trans rfl; have zi5 := blk_frozen hbox 5; have HGI := Lib.hid (show w3.heap.size ≤ gi by rw [hg]; simp); have HBB := Lib.hid hbB; clear hbox hbB hg)
        | (at_builtin; have HX4 := Lib.hid (putItem_blk ⟨t1, ⟨t2, t3⟩, t4, ⟨t5, t6⟩⟩ HXI.out); have HB4 := Lib.hid (below_step HB3.out (putItem_below (w := w3) ⟨t1, ⟨t2, t3⟩, t4, ⟨t5, t6⟩⟩ HBB.out HGI.out)); have HS4 := Lib.hid (show wB.heap.size = (putItem wB gi ⟨t1, ⟨t2, t3⟩, t4, ⟨t5, t6⟩⟩).heap.size by unfold putItem; simp); unfold putItem at HX4 HB4 HS4; generalize ((((((wB.setCell ⟨gi, 0, none⟩ (.int .i64 t1)).setCell ⟨gi, 1, none⟩ (.int .i64 t2)).setCell ⟨gi, 2, none⟩ (.int .u64 t3)).setCell ⟨gi, 3, none⟩ (.bool t4)).setCell ⟨gi, 4, none⟩ (.string t5)).setCell ⟨gi, 5, none⟩ (.bool t6)) = W4 at HX4 HB4 HS4 ⊢; clear i0 i1 i2 i3 i4 i5 zi0 zi1 zi2 zi3 zi4 zi5; have HBV := Lib.hid (HB.trans (HB4.out.mono hrl)); have hB4 : w.heap.size ≤ W4.heap.size := HBV.out.size; obtain ⟨xs, ho, hrp⟩ := (HP.out.below HB4.out).own; have HO := Lib.hid ho; have HR := Lib.hid hrp; clear ho hrp; (refine print_append_cells (w0 := w) (W := W4) w.heap.size rfl (.tmp 34) (.tmp 36) 24 27 _ 3 _ rfl Tryd.underlying24 info27 rfl (by decide) (by decide) u3 ps.length xs [.int .i64 0, .int .i64 0, .slice none 0 0] rfl ?hx rfl (three_one 0 0) HO.out HBV.out hB4 hbytes ?_); (case hx => rw [← HS4.out]; first | rfl | go_simp); intro v1 W5 ho1 hb1 hg1 hat1; obtain ⟨A1, c1, rfl⟩ := own_slice ho1; obtain ⟨gv, cap, _, _, he1, -⟩ := (PartsRow.snoc 0 0 HR.out ho1 hg1 hat1).last; (injection he1 with he1 _ he2; subst he1 he2); have HP5 := Lib.hid (PartsRow.snoc 0 0 HR.out ho1 hg1 hat1); have HBW := Lib.hid hb1; have HX5 := Lib.hid (blk_grown HX4.out hg1 (own_ne HO.out HX4.out (by decide))); clear ho1 hb1 hg1 hat1))
       obtain ⟨gv2, cap2, cur, vq, he, hBgv, hgv, hc1, hc2, hR, hcap, hset, hput⟩ := HP5.out.last
       injection he with he1 _ he2
       injection he1 with he1
       injection he1 with he1
       subst he1 he2
       have HGV := Lib.hid hgv
       have HPP := Lib.hid hput
       have HRR := Lib.hid hR
       obtain ⟨y0, y1, y2, y3, y4, y5⟩ := itemCells_at (x := ⟨t1, ⟨t2, t3⟩, t4, ⟨t5, t6⟩⟩) HX5.out
       have hgb := blk_lt HX5.out
       have hgvlt := blk_lt hgv
       have hcur : cur[ps.length * 3 + 2]? = some vq := by rw [← blk_cell HGV.out]; exact hc2
       have HCU := Lib.hid hcur
       have hB5 : w.heap.size ≤ W5.heap.size := HBW.out.size
       clear hgv hput hset hc1 hR hcur
       go_region_law (refine Kd.R_append_step k41 (w0 := w) w.heap.size rfl (.tmp 47) (.tmp 49) 22 41 _ _ rfl Tryd.underlying22 info41 rfl (by decide) (by decide) vq [] ⟨t1, ⟨t2, t3⟩, t4, ⟨t5, t6⟩⟩ [.int .i64 t1, .int .i64 t2, .int .u64 t3, .bool t4, .string t5, .bool t6] (fun _ => True) (fun _ => False) rfl rfl (item_M _ _ _ _) (fun _ h => h.elim) (fun _ _ => trivial) (W := W5.drew) HRR.out (below_drew HBW.out) hB5 hbytes2 ?_; intro v6 w6 ho6 hb6 hg6 hat6; obtain ⟨A6, c6, rfl⟩ := Kd.R_slice ho6; have HQ6 := Lib.hid (HPP.out w6 _ _ ho6 (undrew hg6) hat6); have n0 : w6.cell? ⟨gv, ps.length * 3 + 2, none⟩ = some vq := (blk_cell HQ6.out.2 _).trans HCU.out; have n1 := blk_frozen HQ6.out.2 (ps.length * 3 + 2); have HB6 := Lib.hid hb6; clear ho6 hb6 hg6 hat6)
       all_goals
        go_wp2
        go_roundw
        case rel => exact ⟨i + 1, _, true, rfl, by go_num, by omega, HQ6.out.1, HB6.out.setCell (p := ⟨gv, _, none⟩) hBgv _, HGO3.out, HFIT2.out, fun _ => by simp⟩
        case measure => simp [intOf]; omega
end Go.Proofs.YthppicgolkpbaaaDoor.P

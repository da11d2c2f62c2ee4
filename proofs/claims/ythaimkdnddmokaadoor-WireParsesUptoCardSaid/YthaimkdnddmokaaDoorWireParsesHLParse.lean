/- what label.Parse tells -/
import Derived.Test.YthaimkdnddmokaaDoorWireParsesGHTabs
import Derived.Test.YthaimkdnddmokaaDoorWireParsesGHBase
import Derived.Test.YthaimkdnddmokaaDoorWireParsesHStrings
import Derived.Test.YthaimkdnddmokaaDoorWireParsesGHEqLabel
import Derived.Test.YthaimkdnddmokaaDoorWireParsesPxText
import Derived.Test.YthaimkdnddmokaaDoorWireParsesPxLabel
namespace Go.Proofs.YthaimkdnddmokaaDoor.P
open Go.RowKit Go.Proofs.YthaimkdnddmokaaDoorW.PrintWords Go.Proofs.YthaimkdnddmokaaDoorW.PrintLast Go.Proofs.YthaimkdnddmokaaDoorW.PrintMore
set_option linter.unusedVariables false
set_option linter.unusedSimpArgs false
attribute [local go_sem high] eqA26
def catsOf (ws : List ByteArray) : List Int := ws.map fun w => (numOf w).1
def fineOf (ws : List ByteArray) : Bool := ws.all fun w => (numOf w).2
def parseHead (s : ByteArray) : ByteArray := baOf (cutC 58 s.data.toList).1
def parseWs (s : ByteArray) : List ByteArray := if (cutC 58 s.data.toList).2.2 = true then (splitC 44 (cutC 58 s.data.toList).2.1).map baOf else []
def parseFine (s : ByteArray) : Bool := (numOf (parseHead s)).2 && fineOf (parseWs s)
def parseEnd (s : ByteArray) (is : Bool) (x : Int × Int × Int) : Option (Int × Int × Bool) :=
  if is = false then some (0, 0, false) else if x.2.2 = 0 then (if x.1 = 0 ∧ x.2.1 = 0 then (if s = ⟨#[48]⟩ then some (0, 0, true) else some (0, 0, false)) else (label_Print.f 66 x.1 x.2.1).bind fun p => if p = s then some (x.1, x.2.1, true) else some (0, 0, false)) else some (0, 0, false)
def label_Parse.f (s : ByteArray) : Option (Int × Int × Bool) :=
  if s.size < 4294967281 then (label_Of.f ((parseWs s).length + 1) (numOf (parseHead s)).1 (catsOf (parseWs s))).bind (parseEnd s (parseFine s)) else none
theorem catsOf_length (ws : List ByteArray) : (catsOf ws).length = ws.length := by simp [catsOf]
theorem rd_str (ws : List ByteArray) (i : Nat) (h : i < ws.length) : rdOf ByteArray.empty ws (i : Int) = ws[i] := by simp [rdOf, List.getD_eq_getElem?_getD, h]
theorem take_str (ws : List ByteArray) (i : Nat) (h : i < ws.length) : ws.take (i + 1) = ws.take i ++ [ws[i]] := by rw [List.take_add_one, List.getElem?_eq_getElem h]; rfl
theorem catsOf_take (ws : List ByteArray) (i : Nat) (h : i < ws.length) : catsOf (ws.take (i + 1)) = catsOf (ws.take i) ++ [(numOf (rdOf ByteArray.empty ws (i : Int))).1] := by
  rw [take_str ws i h, rd_str ws i h]; unfold catsOf; rw [List.map_append]; rfl
theorem fineOf_take (ws : List ByteArray) (i : Nat) (h : i < ws.length) : fineOf (ws.take (i + 1)) = (fineOf (ws.take i) && (numOf (rdOf ByteArray.empty ws (i : Int))).2) := by
  rw [take_str ws i h, rd_str ws i h]; unfold fineOf; rw [List.all_append]; simp
theorem toList_inj {a b : ByteArray} (h : a.toList = b.toList) : a = b := by
  rw [toList_data, toList_data] at h
  exact ByteArray.ext (Array.toList_inj.1 h)
theorem parse_cases {s : ByteArray} {is : Bool} {a0 a1 er r1 r2 : Int} {r3 : Bool} (h : parseEnd s is (a0, a1, er) = some (r1, r2, r3)) :
    (is = false ∧ r1 = 0 ∧ r2 = 0 ∧ r3 = false) ∨ (is = true ∧ ¬ er = 0 ∧ r1 = 0 ∧ r2 = 0 ∧ r3 = false) ∨ (is = true ∧ er = 0 ∧ a0 = 0 ∧ a1 = 0 ∧ (s.toList == [48]) = true ∧ r1 = 0 ∧ r2 = 0 ∧ r3 = true) ∨
    (is = true ∧ er = 0 ∧ a0 = 0 ∧ a1 = 0 ∧ (s.toList == [48]) = false ∧ r1 = 0 ∧ r2 = 0 ∧ r3 = false) ∨ (is = true ∧ er = 0 ∧ (¬ a0 = 0 ∨ ¬ a1 = 0) ∧ label_Print.f 66 a0 a1 = some s ∧ a0 = r1 ∧ a1 = r2 ∧ r3 = true) ∨
    (is = true ∧ er = 0 ∧ (¬ a0 = 0 ∨ ¬ a1 = 0) ∧ ∃ p, label_Print.f 66 a0 a1 = some p ∧ (p.toList == s.toList) = false ∧ r1 = 0 ∧ r2 = 0 ∧ r3 = false) := by
  cases is with
  | false => simp only [parseEnd, if_true, Option.some.injEq, Prod.mk.injEq] at h; obtain ⟨rfl, rfl, rfl⟩ := h; simp
  | true =>
    right
    simp only [parseEnd] at h
    rw [if_neg (by decide)] at h
    by_cases he : er = 0
    · right
      rw [if_pos he] at h
      by_cases ha : a0 = 0 ∧ a1 = 0
      · rw [if_pos ha] at h
        by_cases hs : s = ⟨#[48]⟩
        · left
          rw [if_pos hs] at h
          simp only [Option.some.injEq, Prod.mk.injEq] at h
          exact ⟨rfl, he, ha.1, ha.2, by rw [hs, toList_data]; rfl, h.1.symm, h.2.1.symm, h.2.2.symm⟩
        · right; left
          rw [if_neg hs] at h
          simp only [Option.some.injEq, Prod.mk.injEq] at h
          refine ⟨rfl, he, ha.1, ha.2, ?_, h.1.symm, h.2.1.symm, h.2.2.symm⟩
          cases hb : (s.toList == [48]) with
          | false => rfl
          | true =>
            exfalso; apply hs
            have := eq_of_beq hb
            apply toList_inj
            rw [this, toList_data]
      · have ha' : ¬ a0 = 0 ∨ ¬ a1 = 0 := by
          by_cases h0 : a0 = 0
          · exact Or.inr (fun h1 => ha ⟨h0, h1⟩)
          · exact Or.inl h0
        rw [if_neg ha] at h
        cases hp : label_Print.f 66 a0 a1 with
        | none => rw [hp] at h; cases h
        | some p =>
          rw [hp] at h
          replace h : (if p = s then some (a0, a1, true) else some ((0 : Int), (0 : Int), false)) = some (r1, r2, r3) := h
          by_cases hs : p = s
          · right; right; left
            rw [if_pos hs] at h
            simp only [Option.some.injEq, Prod.mk.injEq] at h
            exact ⟨rfl, he, ha', by rw [hs], h.1, h.2.1, h.2.2.symm⟩
          · right; right; right
            rw [if_neg hs] at h
            simp only [Option.some.injEq, Prod.mk.injEq] at h
            refine ⟨rfl, he, ha', p, rfl, ?_, h.1.symm, h.2.1.symm, h.2.2.symm⟩
            cases hb : (p.toList == s.toList) with
            | false => rfl
            | true => exact absurd (toList_inj (eq_of_beq hb)) hs
    · left
      rw [if_neg he] at h
      simp only [Option.some.injEq, Prod.mk.injEq] at h
      exact ⟨rfl, he, h.1.symm, h.2.1.symm, h.2.2.symm⟩
def ParseRel (wS : World) (ws : List ByteArray) (is0 : Bool) (v8 v9 v32 : Value) (w' : World) : Prop := ∃ i : Nat, v32 = .int .i64 i ∧ i ≤ ws.length ∧ v8 = .bool (is0 && fineOf (ws.take i)) ∧
  Kd.R (Kd.int .i64) 3 w' wS.heap.size (fun _ => True) v9 (catsOf (ws.take i)) ∧ Below wS.heap.size wS w'
theorem splitC_length (c : UInt8) : ∀ l : List UInt8, (splitC c l).length ≤ l.length + 1
  | [] => by simp [splitC]
  | b :: l => by
    have ih := splitC_length c l
    unfold splitC
    split
    · simp; omega
    · split
      · simp
      · rename_i h; rw [h] at ih; simpa using Nat.le_succ_of_le (by simpa using ih)
theorem baOf_len (a : List UInt8) : (baOf a).size = a.length := by rw [← data_length]; rfl
set_option maxHeartbeats 4000000 in
set_option maxRecDepth 100000 in
theorem label_Parse.calls (s : ByteArray) (r1 r2 : Int) (r3 : Bool) (w : World) (hT : Tabs w) (h : label_Parse.f s = some (r1, r2, r3)) :
    Calls Tryd.prog 50 #[.string s] w fun e w' => e = .returned (.tuple #[.agg #[.int .i64 r1, .int .u64 r2], .bool r3]) ∧ Below w.heap.size w w' := by
  have hlen : s.size < 4294967281 := by
    by_cases hl : s.size < 4294967281
    · exact hl
    · rw [label_Parse.f, if_neg hl] at h; cases h
  rw [label_Parse.f, if_pos hlen] at h
  obtain ⟨e, rest, more, hcut⟩ : ∃ hd rest more, cutC 58 s.data.toList = (hd, rest, more) := ⟨_, _, _, rfl⟩
  have HC : Hid (strings_Cut.f s ⟨#[58]⟩ = some (baOf e, baOf rest, more)) := by
    show _ = _
    rw [strings_Cut.f, if_pos (by decide), if_pos (by omega)]
    show some (baOf (cutC 58 s.data.toList).1, baOf (cutC 58 s.data.toList).2.1, (cutC 58 s.data.toList).2.2) = _
    rw [hcut]
  have hw : parseWs s = if more = true then (splitC 44 rest).map baOf else [] := by unfold parseWs; rw [hcut]
  have hh : parseHead s = baOf e := by unfold parseHead; rw [hcut]
  have hrl : rest.length < 4294967281 := by
    have := congrArg (fun x => x.2.1.length) hcut
    simp only [cutC] at this
    split at this
    · simp at this; omega
    · simp at this; omega
  unfold parseFine at h
  rw [hw, hh] at h
  clear hw hh hcut
  generalize baOf e = hd at h HC
  obtain ⟨n0, is0, hn⟩ : ∃ a b, numOf hd = (a, b) := ⟨_, _, rfl⟩
  have HN := Lib.hid ((text_Number_tells hd).trans (congrArg some hn))
  rw [hn] at h
  clear hn
  obtain ⟨ws, hws⟩ : ∃ ws, (if more = true then (splitC 44 rest).map baOf else []) = ws := ⟨_, rfl⟩
  rw [hws] at h
  obtain ⟨⟨a0, a1, er⟩, HO⟩ : ∃ x, label_Of.f (ws.length + 1) n0 (catsOf ws) = some x := by
    cases hx : label_Of.f (ws.length + 1) n0 (catsOf ws) with
    | none => rw [hx] at h; cases h
    | some x => exact ⟨x, rfl⟩
  rw [HO] at h
  replace h : parseEnd s (is0 && fineOf ws) (a0, a1, er) = some (r1, r2, r3) := h
  replace HO := Lib.hid HO
  have HE := Lib.hid h
  clear h
  have hwl : ws.length < 4294967282 := by
    rw [← hws]
    split
    · have := splitC_length 44 rest; simp; omega
    · simp
  cases more with
  | false =>
    obtain rfl : ([] : List ByteArray) = ws := hws
    have HNil : ∀ {W : World}, Hid (Kd.C (Kd.int .i64) W none ([] : List Int).length []) := by
      intro W
      obtain ⟨A, c, e, _, h⟩ := Kd.R_reads (Kd.R_nil (Kd.int .i64) 3 W 0 (fun _ => True))
      cases e
      exact h
    replace HE := HE.out
    rw [show (is0 && fineOf []) = is0 by cases is0 <;> rfl] at HE
    rcases parse_cases HE with ⟨rfl, rfl, rfl, rfl⟩ | ⟨rfl, her, rfl, rfl, rfl⟩ | ⟨rfl, rfl, rfl, rfl, hst, rfl, rfl, rfl⟩ | ⟨rfl, rfl, rfl, rfl, hsf, rfl, rfl, rfl⟩ | ⟨rfl, rfl, ha, HPr, rfl, rfl, rfl⟩ | ⟨rfl, rfl, ha, p, HPr, hpf, rfl, rfl, rfl⟩
    · clear HE
      go_enter Tryd.func50, Tryd.ntmps50
      have HBa := Lib.hid (below_alloc (Below.refl w.heap.size w) (.cells #[.int .i64 0, .int .u64 0] 26 (0, 0)))
      have HKa := Lib.hid (blk_new w (.cells #[.int .i64 0, .int .u64 0] 26 (0, 0)))
      go_wp2_with (first
        | (go_at_call 67; (refine (strings_Cut.calls s _ _ _ _ _ HC.out).mono ?_); rintro e w1 ⟨rfl, hd1⟩; have HB1 := Lib.hid (below_step HBa.out (Drawn0.below hd1)); have HK1 := Lib.hid (blk_below HKa.out (Drawn0.below hd1)); clear hd1)
        | (go_at_call 51; (with_reducible refine (text_Number.calls 13 hd _ _ _ HN.out).mono ?_); rintro e w2 ⟨rfl, ⟨n1, rfl⟩⟩; have HB2 := Lib.hid (pw_below_drewN HB1.out n1); have HK2 := Lib.hid (blk_drewN HK1.out n1))
        | (go_at_call 68; (refine (label_Of.calls 1 n0 none 0 [] _ _ _ _ HNil.out (Nat.le_refl _) HO.out).mono ?_); rintro e w5 ⟨rfl, hb⟩; have HB5 := Lib.hid (below_step HB2.out hb); have hk5 := blk_below HK2.out hb; have HK5 := Lib.hid hk5; have hcz0 : w5.cell? ⟨w.heap.size, 0, none⟩ = some (.int .i64 0) := (blk_cell hk5 0).trans rfl; have hcz1 : w5.cell? ⟨w.heap.size, 1, none⟩ = some (.int .u64 0) := (blk_cell hk5 1).trans rfl; have hfz0 := blk_frozen hk5 0; have hfz1 := blk_frozen hk5 1; have hlt5 := blk_lt hk5; have hn1 : w.heap.size ≠ w5.heap.size := (by omega); have hn2 : w.heap.size ≠ w5.heap.size + 1 := (by omega); have hn3 : w5.heap.size ≠ w.heap.size := (by omega); have hn4 : w5.heap.size + 1 ≠ w.heap.size := (by omega); clear hb hk5))
      refine bodyPost_ret (results_ct rfl _ _ w.heap.size 26 #[.int .i64 0, .int .u64 0] (0, 0) _ rfl (by repeat (first | exact HK5.out | refine blk_alloc ?_ _ | refine blk_far ?_ hn1 _ | refine blk_far ?_ hn2 _ | refine blk_put (cs := #[.int .i64 0, .int .u64 0]) ?_ 1 _ rfl | refine blk_put (cs := #[.int .i64 0, .int .u64 0]) ?_ 0 _ rfl)) Tryd.underlying26 rfl (by kernel_rfl)) rfl ?_
      exact ⟨rfl, by repeat (first | exact HB5.out | apply below_alloc | refine below_set ?_ (by omega))⟩
    · clear HE
      go_enter Tryd.func50, Tryd.ntmps50
      have HBa := Lib.hid (below_alloc (Below.refl w.heap.size w) (.cells #[.int .i64 0, .int .u64 0] 26 (0, 0)))
      have HKa := Lib.hid (blk_new w (.cells #[.int .i64 0, .int .u64 0] 26 (0, 0)))
      go_wp2_with (first
        | (go_at_call 67; (refine (strings_Cut.calls s _ _ _ _ _ HC.out).mono ?_); rintro e w1 ⟨rfl, hd1⟩; have HB1 := Lib.hid (below_step HBa.out (Drawn0.below hd1)); have HK1 := Lib.hid (blk_below HKa.out (Drawn0.below hd1)); clear hd1)
        | (go_at_call 51; (with_reducible refine (text_Number.calls 13 hd _ _ _ HN.out).mono ?_); rintro e w2 ⟨rfl, ⟨n1, rfl⟩⟩; have HB2 := Lib.hid (pw_below_drewN HB1.out n1); have HK2 := Lib.hid (blk_drewN HK1.out n1))
        | (go_at_call 68; (refine (label_Of.calls 1 n0 none 0 [] _ _ _ _ HNil.out (Nat.le_refl _) HO.out).mono ?_); rintro e w5 ⟨rfl, hb⟩; have HB5 := Lib.hid (below_step HB2.out hb); have hk5 := blk_below HK2.out hb; have HK5 := Lib.hid hk5; have hcz0 : w5.cell? ⟨w.heap.size, 0, none⟩ = some (.int .i64 0) := (blk_cell hk5 0).trans rfl; have hcz1 : w5.cell? ⟨w.heap.size, 1, none⟩ = some (.int .u64 0) := (blk_cell hk5 1).trans rfl; have hfz0 := blk_frozen hk5 0; have hfz1 := blk_frozen hk5 1; have hlt5 := blk_lt hk5; have hn1 : w.heap.size ≠ w5.heap.size := (by omega); have hn2 : w.heap.size ≠ w5.heap.size + 1 := (by omega); have hn3 : w5.heap.size ≠ w.heap.size := (by omega); have hn4 : w5.heap.size + 1 ≠ w.heap.size := (by omega); clear hb hk5))
      refine bodyPost_ret (results_ct rfl _ _ w.heap.size 26 #[.int .i64 0, .int .u64 0] (0, 0) _ rfl (by repeat (first | exact HK5.out | refine blk_alloc ?_ _ | refine blk_far ?_ hn1 _ | refine blk_far ?_ hn2 _ | refine blk_put (cs := #[.int .i64 0, .int .u64 0]) ?_ 1 _ rfl | refine blk_put (cs := #[.int .i64 0, .int .u64 0]) ?_ 0 _ rfl)) Tryd.underlying26 rfl (by kernel_rfl)) rfl ?_
      exact ⟨rfl, by repeat (first | exact HB5.out | apply below_alloc | refine below_set ?_ (by omega))⟩
    · clear HE
      go_enter Tryd.func50, Tryd.ntmps50
      have HBa := Lib.hid (below_alloc (Below.refl w.heap.size w) (.cells #[.int .i64 0, .int .u64 0] 26 (0, 0)))
      have HKa := Lib.hid (blk_new w (.cells #[.int .i64 0, .int .u64 0] 26 (0, 0)))
      go_wp2_with (first
        | (go_at_call 67; (refine (strings_Cut.calls s _ _ _ _ _ HC.out).mono ?_); rintro e w1 ⟨rfl, hd1⟩; have HB1 := Lib.hid (below_step HBa.out (Drawn0.below hd1)); have HK1 := Lib.hid (blk_below HKa.out (Drawn0.below hd1)); clear hd1)
        | (go_at_call 51; (with_reducible refine (text_Number.calls 13 hd _ _ _ HN.out).mono ?_); rintro e w2 ⟨rfl, ⟨n1, rfl⟩⟩; have HB2 := Lib.hid (pw_below_drewN HB1.out n1); have HK2 := Lib.hid (blk_drewN HK1.out n1))
        | (go_at_call 68; (refine (label_Of.calls 1 n0 none 0 [] _ _ _ _ HNil.out (Nat.le_refl _) HO.out).mono ?_); rintro e w5 ⟨rfl, hb⟩; have HB5 := Lib.hid (below_step HB2.out hb); have hk5 := blk_below HK2.out hb; have HK5 := Lib.hid hk5; have hcz0 : w5.cell? ⟨w.heap.size, 0, none⟩ = some (.int .i64 0) := (blk_cell hk5 0).trans rfl; have hcz1 : w5.cell? ⟨w.heap.size, 1, none⟩ = some (.int .u64 0) := (blk_cell hk5 1).trans rfl; have hfz0 := blk_frozen hk5 0; have hfz1 := blk_frozen hk5 1; have hlt5 := blk_lt hk5; have hn1 : w.heap.size ≠ w5.heap.size := (by omega); have hn2 : w.heap.size ≠ w5.heap.size + 1 := (by omega); have hn3 : w5.heap.size ≠ w.heap.size := (by omega); have hn4 : w5.heap.size + 1 ≠ w.heap.size := (by omega); clear hb hk5))
      refine bodyPost_ret (results_ct rfl _ _ w.heap.size 26 #[.int .i64 0, .int .u64 0] (0, 0) _ rfl (by repeat (first | exact HK5.out | refine blk_alloc ?_ _ | refine blk_far ?_ hn1 _ | refine blk_far ?_ hn2 _ | refine blk_put (cs := #[.int .i64 0, .int .u64 0]) ?_ 1 _ rfl | refine blk_put (cs := #[.int .i64 0, .int .u64 0]) ?_ 0 _ rfl)) Tryd.underlying26 rfl (by kernel_rfl)) rfl ?_
      exact ⟨rfl, by repeat (first | exact HB5.out | apply below_alloc | refine below_set ?_ (by omega))⟩
    · clear HE
      go_enter Tryd.func50, Tryd.ntmps50
      have HBa := Lib.hid (below_alloc (Below.refl w.heap.size w) (.cells #[.int .i64 0, .int .u64 0] 26 (0, 0)))
      have HKa := Lib.hid (blk_new w (.cells #[.int .i64 0, .int .u64 0] 26 (0, 0)))
      go_wp2_with (first
        | (go_at_call 67; (refine (strings_Cut.calls s _ _ _ _ _ HC.out).mono ?_); rintro e w1 ⟨rfl, hd1⟩; have HB1 := Lib.hid (below_step HBa.out (Drawn0.below hd1)); have HK1 := Lib.hid (blk_below HKa.out (Drawn0.below hd1)); clear hd1)
        | (go_at_call 51; (with_reducible refine (text_Number.calls 13 hd _ _ _ HN.out).mono ?_); rintro e w2 ⟨rfl, ⟨n1, rfl⟩⟩; have HB2 := Lib.hid (pw_below_drewN HB1.out n1); have HK2 := Lib.hid (blk_drewN HK1.out n1))
        | (go_at_call 68; (refine (label_Of.calls 1 n0 none 0 [] _ _ _ _ HNil.out (Nat.le_refl _) HO.out).mono ?_); rintro e w5 ⟨rfl, hb⟩; have HB5 := Lib.hid (below_step HB2.out hb); have hk5 := blk_below HK2.out hb; have HK5 := Lib.hid hk5; have hcz0 : w5.cell? ⟨w.heap.size, 0, none⟩ = some (.int .i64 0) := (blk_cell hk5 0).trans rfl; have hcz1 : w5.cell? ⟨w.heap.size, 1, none⟩ = some (.int .u64 0) := (blk_cell hk5 1).trans rfl; have hfz0 := blk_frozen hk5 0; have hfz1 := blk_frozen hk5 1; have hlt5 := blk_lt hk5; have hn1 : w.heap.size ≠ w5.heap.size := (by omega); have hn2 : w.heap.size ≠ w5.heap.size + 1 := (by omega); have hn3 : w5.heap.size ≠ w.heap.size := (by omega); have hn4 : w5.heap.size + 1 ≠ w.heap.size := (by omega); clear hb hk5))
      refine bodyPost_ret (results_ct rfl _ _ w.heap.size 26 #[.int .i64 0, .int .u64 0] (0, 0) _ rfl (by repeat (first | exact HK5.out | refine blk_alloc ?_ _ | refine blk_far ?_ hn1 _ | refine blk_far ?_ hn2 _ | refine blk_put (cs := #[.int .i64 0, .int .u64 0]) ?_ 1 _ rfl | refine blk_put (cs := #[.int .i64 0, .int .u64 0]) ?_ 0 _ rfl)) Tryd.underlying26 rfl (by kernel_rfl)) rfl ?_
      exact ⟨rfl, by repeat (first | exact HB5.out | apply below_alloc | refine below_set ?_ (by omega))⟩
    · clear HE
      have HP := Lib.hid HPr
      clear HPr
      go_enter Tryd.func50, Tryd.ntmps50
      have HBa := Lib.hid (below_alloc (Below.refl w.heap.size w) (.cells #[.int .i64 0, .int .u64 0] 26 (0, 0)))
      have HKa := Lib.hid (blk_new w (.cells #[.int .i64 0, .int .u64 0] 26 (0, 0)))
      go_wp2_with (first
        | (go_at_call 67; (refine (strings_Cut.calls s _ _ _ _ _ HC.out).mono ?_); rintro e w1 ⟨rfl, hd1⟩; have HB1 := Lib.hid (below_step HBa.out (Drawn0.below hd1)); have HK1 := Lib.hid (blk_below HKa.out (Drawn0.below hd1)); clear hd1)
        | (go_at_call 51; (with_reducible refine (text_Number.calls 13 hd _ _ _ HN.out).mono ?_); rintro e w2 ⟨rfl, ⟨n1, rfl⟩⟩; have HB2 := Lib.hid (pw_below_drewN HB1.out n1); have HK2 := Lib.hid (blk_drewN HK1.out n1))
        | (go_at_call 68; (refine (label_Of.calls 1 n0 none 0 [] _ _ _ _ HNil.out (Nat.le_refl _) HO.out).mono ?_); rintro e w5 ⟨rfl, hb⟩; have HB5 := Lib.hid (below_step HB2.out hb); have hk5 := blk_below HK2.out hb; have HK5 := Lib.hid hk5; have hcz0 : w5.cell? ⟨w.heap.size, 0, none⟩ = some (.int .i64 0) := (blk_cell hk5 0).trans rfl; have hcz1 : w5.cell? ⟨w.heap.size, 1, none⟩ = some (.int .u64 0) := (blk_cell hk5 1).trans rfl; have hfz0 := blk_frozen hk5 0; have hfz1 := blk_frozen hk5 1; have hlt5 := blk_lt hk5; have hn1 : w.heap.size ≠ w5.heap.size := (by omega); have hn2 : w.heap.size ≠ w5.heap.size + 1 := (by omega); have hn3 : w5.heap.size ≠ w.heap.size := (by omega); have hn4 : w5.heap.size + 1 ≠ w.heap.size := (by omega); clear hb hk5)
        | (go_at_call 36; (refine (label_Print.calls 66 _ _ _ _ (hT.below (by repeat (first | exact HB5.out | apply below_alloc | refine below_set ?_ (by omega)))) HP.out).mono ?_); rintro e w6 ⟨rfl, hb⟩; have HB6 := Lib.hid (below_step (by repeat (first | exact HB5.out | apply below_alloc | refine below_set ?_ (by omega))) hb); have hk6 := blk_below (g := w.heap.size) (o := .cells #[.int .i64 0, .int .u64 0] 26 (0, 0)) (by repeat (first | exact HK5.out | refine blk_alloc ?_ _ | refine blk_far ?_ hn3 _ | refine blk_far ?_ hn4 _ | refine blk_far ?_ hn1 _ | refine blk_far ?_ hn2 _)) hb; have hdz0 : w6.cell? ⟨w.heap.size, 0, none⟩ = some (.int .i64 0) := (blk_cell hk6 0).trans rfl; have hdz1 : w6.cell? ⟨w.heap.size, 1, none⟩ = some (.int .u64 0) := (blk_cell hk6 1).trans rfl; have hdf0 := blk_frozen hk6 0; have hdf1 := blk_frozen hk6 1; have hdy0 := pw_cell_below hb (a := ⟨w5.heap.size, 0, none⟩) (v := .int .i64 a0) (by go_simp); have hdy1 := pw_cell_below hb (a := ⟨w5.heap.size, 1, none⟩) (v := .int .u64 a1) (by go_simp); have hdx0 := pw_cell_below hb (a := ⟨w5.heap.size + 1, 0, none⟩) (v := .int .i64 0) (by go_simp); have hdx1 := pw_cell_below hb (a := ⟨w5.heap.size + 1, 1, none⟩) (v := .int .u64 0) (by go_simp); have HK6 := Lib.hid hk6; clear hb hk6))
      refine bodyPost_ret (results_ct rfl _ _ w.heap.size 26 #[.int .i64 a0, .int .u64 a1] (0, 0) _ rfl (by repeat (first | exact HK6.out | exact HK5.out | refine blk_alloc ?_ _ | refine blk_far ?_ hn1 _ | refine blk_far ?_ hn2 _ | refine blk_put (cs := #[.int .i64 a0, .int .u64 0]) ?_ 1 _ rfl | refine blk_put (cs := #[.int .i64 0, .int .u64 0]) ?_ 0 _ rfl)) Tryd.underlying26 rfl (by kernel_rfl)) rfl ?_
      exact ⟨rfl, by repeat (first | exact HB6.out | exact HB5.out | apply below_alloc | refine below_set ?_ (by omega))⟩
    · clear HE
      have HP := Lib.hid HPr
      clear HPr
      go_enter Tryd.func50, Tryd.ntmps50
      have HBa := Lib.hid (below_alloc (Below.refl w.heap.size w) (.cells #[.int .i64 0, .int .u64 0] 26 (0, 0)))
      have HKa := Lib.hid (blk_new w (.cells #[.int .i64 0, .int .u64 0] 26 (0, 0)))
      go_wp2_with (first
        | (go_at_call 67; (refine (strings_Cut.calls s _ _ _ _ _ HC.out).mono ?_); rintro e w1 ⟨rfl, hd1⟩; have HB1 := Lib.hid (below_step HBa.out (Drawn0.below hd1)); have HK1 := Lib.hid (blk_below HKa.out (Drawn0.below hd1)); clear hd1)
        | (go_at_call 51; (with_reducible refine (text_Number.calls 13 hd _ _ _ HN.out).mono ?_); rintro e w2 ⟨rfl, ⟨n1, rfl⟩⟩; have HB2 := Lib.hid (pw_below_drewN HB1.out n1); have HK2 := Lib.hid (blk_drewN HK1.out n1))
        | (go_at_call 68; (refine (label_Of.calls 1 n0 none 0 [] _ _ _ _ HNil.out (Nat.le_refl _) HO.out).mono ?_); rintro e w5 ⟨rfl, hb⟩; have HB5 := Lib.hid (below_step HB2.out hb); have hk5 := blk_below HK2.out hb; have HK5 := Lib.hid hk5; have hcz0 : w5.cell? ⟨w.heap.size, 0, none⟩ = some (.int .i64 0) := (blk_cell hk5 0).trans rfl; have hcz1 : w5.cell? ⟨w.heap.size, 1, none⟩ = some (.int .u64 0) := (blk_cell hk5 1).trans rfl; have hfz0 := blk_frozen hk5 0; have hfz1 := blk_frozen hk5 1; have hlt5 := blk_lt hk5; have hn1 : w.heap.size ≠ w5.heap.size := (by omega); have hn2 : w.heap.size ≠ w5.heap.size + 1 := (by omega); have hn3 : w5.heap.size ≠ w.heap.size := (by omega); have hn4 : w5.heap.size + 1 ≠ w.heap.size := (by omega); clear hb hk5)
        | (go_at_call 36; (refine (label_Print.calls 66 _ _ _ _ (hT.below (by repeat (first | exact HB5.out | apply below_alloc | refine below_set ?_ (by omega)))) HP.out).mono ?_); rintro e w6 ⟨rfl, hb⟩; have HB6 := Lib.hid (below_step (by repeat (first | exact HB5.out | apply below_alloc | refine below_set ?_ (by omega))) hb); have hk6 := blk_below (g := w.heap.size) (o := .cells #[.int .i64 0, .int .u64 0] 26 (0, 0)) (by repeat (first | exact HK5.out | refine blk_alloc ?_ _ | refine blk_far ?_ hn3 _ | refine blk_far ?_ hn4 _ | refine blk_far ?_ hn1 _ | refine blk_far ?_ hn2 _)) hb; have hdz0 : w6.cell? ⟨w.heap.size, 0, none⟩ = some (.int .i64 0) := (blk_cell hk6 0).trans rfl; have hdz1 : w6.cell? ⟨w.heap.size, 1, none⟩ = some (.int .u64 0) := (blk_cell hk6 1).trans rfl; have hdf0 := blk_frozen hk6 0; have hdf1 := blk_frozen hk6 1; have hdy0 := pw_cell_below hb (a := ⟨w5.heap.size, 0, none⟩) (v := .int .i64 a0) (by go_simp); have hdy1 := pw_cell_below hb (a := ⟨w5.heap.size, 1, none⟩) (v := .int .u64 a1) (by go_simp); have hdx0 := pw_cell_below hb (a := ⟨w5.heap.size + 1, 0, none⟩) (v := .int .i64 0) (by go_simp); have hdx1 := pw_cell_below hb (a := ⟨w5.heap.size + 1, 1, none⟩) (v := .int .u64 0) (by go_simp); have HK6 := Lib.hid hk6; clear hb hk6))
      refine bodyPost_ret (results_ct rfl _ _ w.heap.size 26 #[.int .i64 0, .int .u64 0] (0, 0) _ rfl (by repeat (first | exact HK6.out | exact HK5.out | refine blk_alloc ?_ _ | refine blk_far ?_ hn1 _ | refine blk_far ?_ hn2 _ | refine blk_put (cs := #[.int .i64 0, .int .u64 0]) ?_ 1 _ rfl | refine blk_put (cs := #[.int .i64 0, .int .u64 0]) ?_ 0 _ rfl)) Tryd.underlying26 rfl (by kernel_rfl)) rfl ?_
      exact ⟨rfl, by repeat (first | exact HB6.out | exact HB5.out | apply below_alloc | refine below_set ?_ (by omega))⟩
  | true =>
    rw [if_pos rfl] at hws
    obtain rfl := hws
    have HSp := Lib.hid (show strings_Split.f (baOf rest) ⟨#[44]⟩ = some ((splitC 44 rest).map baOf) by rw [strings_Split.f, if_pos (by decide), if_pos (by rw [baOf_len]; exact hrl)]; rfl)
    generalize (splitC 44 rest).map baOf = ws at HE HO HSp hwl
    go_enter Tryd.func50, Tryd.ntmps50
    have HBa := Lib.hid (below_alloc (Below.refl w.heap.size w) (.cells #[.int .i64 0, .int .u64 0] 26 (0, 0)))
    have HKa := Lib.hid (blk_new w (.cells #[.int .i64 0, .int .u64 0] 26 (0, 0)))
    go_wp2_with (first
      | (go_at_call 67; (refine (strings_Cut.calls s _ _ _ _ _ HC.out).mono ?_); rintro e w1 ⟨rfl, hd1⟩; have HB1 := Lib.hid (below_step HBa.out (Drawn0.below hd1)); have HK1 := Lib.hid (blk_below HKa.out (Drawn0.below hd1)); clear hd1)
      | (go_at_call 51; (with_reducible refine (text_Number.calls 13 hd _ _ _ HN.out).mono ?_); rintro e w2 ⟨rfl, ⟨n1, rfl⟩⟩; have HB2 := Lib.hid (pw_below_drewN HB1.out n1); have HK2 := Lib.hid (blk_drewN HK1.out n1))
      | (go_at_call 52; (refine (strings_Split.calls _ _ _ _ HSp.out).mono ?_); rintro e w3 ⟨v3, rfl, ho, hb⟩; obtain ⟨A3, c3, rfl, hc3, hC3⟩ := Kd.R_reads ho; have HW := Lib.hid (And.intro hc3 hC3); have HB3 := Lib.hid (below_step HB2.out hb); have HK3 := Lib.hid (blk_below HK2.out hb); clear hb ho hc3 hC3))
    go_loopw [8, 9, 32] (fun v8 v9 v32 w' => ParseRel w3 ws is0 v8 v9 v32 w') (fun _ _ v32 _ => ws.length - (intOf v32).toNat)
    case atStart => exact ⟨0, rfl, by omega, by simp [fineOf], Kd.R_nil _ _ _ _ _, Below.refl _ _⟩
    case round =>
      obtain ⟨i, rfl, hi, rfl, HO9, HBs⟩ := hrel
      have hsz := HBs.size
      by_cases hlt : i < ws.length
      · have hd : decide (i < ws.length) = true := decide_eq_true hlt
        have hd3 : decide ((i : Int) < (ws.length : Int)) = true := decide_eq_true (by omega)
        have hi1 : (i : Int) < 4294967282 := by omega
        obtain ⟨ad, rfl, hcell⟩ := Kd.at_string HW.out.2 (i : Int) (by omega) (by omega)
        have HF := Lib.hid (fineOf_take ws i hlt)
        have HCt := Lib.hid (catsOf_take ws i hlt)
        generalize rdOf ByteArray.empty ws (i : Int) = x at hcell HF HCt
        obtain ⟨nx, bx, hnx⟩ : ∃ a b, numOf x = (a, b) := ⟨_, _, rfl⟩
        have HX := Lib.hid ((text_Number_tells x).trans (congrArg some hnx))
        rw [hnx] at HF HCt
        clear hnx
        rw [Int.toNat_natCast] at hcell
        replace hcell := pw_cell_below HBs hcell
        have c1 : (0 : Int) ≤ (i : Int) := by omega
        have hcl : (catsOf (ws.take i)).length = i := by rw [catsOf_length, List.length_take]; omega
        obtain ⟨B, hB⟩ : ∃ B, (is0 && fineOf (ws.take i)) = B := ⟨_, rfl⟩
        have HBl := Lib.hid hB
        rw [hB]
        clear hB HN HC HE HO HSp
        cases B
        all_goals
          go_wp2_with (first
            | (go_at_call 51; (with_reducible refine (text_Number.calls 13 x _ _ _ HX.out).mono ?_); rintro e w4 ⟨rfl, ⟨n4, rfl⟩⟩; have HO9' := Kd.R_drewN HO9 n4; have HBs' := pw_below_drewN HBs n4)
            | ((with_reducible refine gate_builtin (b := .append) (xs := #[.tmp 45, .tmp 47]) rfl ?_); at_builtin; refine Kd.R_append (Kd.int .i64) (w0 := w3) w3.heap.size rfl (.tmp 45) (.tmp 47) 76 3 (.int .i64 0) 8 rfl Tryd.underlying76 info3 rfl (by decide) (by omega) _ _ nx [.int .i64 nx] (fun _ => True) (fun _ => False) rfl rfl rfl (fun _ hk => hk.elim) (fun _ _ => trivial) HO9' HBs' hsz (by omega) ?_; intro v1 w1 ho1 hb1 hg1 hat1))
          go_roundw
          case rel => exact ⟨i + 1, by go_num, by omega, by rw [HF.out, ← Bool.and_assoc, HBl.out]; simp, by rw [HCt.out]; exact ho1, hb1⟩
          case measure => simp [intOf]; omega
      · obtain rfl : i = ws.length := by omega
        have hd : decide (ws.length < ws.length) = false := by simp
        have hd3 : decide ((ws.length : Int) < (ws.length : Int)) = false := by simp
        rw [List.take_length] at HO9 ⊢
        obtain ⟨A9, c9, rfl, hc9, hC9⟩ := Kd.R_reads HO9
        have HC9 := Lib.hid hC9
        have HBE := Lib.hid (below_step HB3.out HBs)
        have HKE := Lib.hid (blk_below HK3.out HBs)
        clear hC9 HO9
        replace HE := HE.out
        generalize (is0 && fineOf ws) = F at HE ⊢
        rcases parse_cases HE with ⟨rfl, rfl, rfl, rfl⟩ | ⟨rfl, her, rfl, rfl, rfl⟩ | ⟨rfl, rfl, rfl, rfl, hst, rfl, rfl, rfl⟩ | ⟨rfl, rfl, rfl, rfl, hsf, rfl, rfl, rfl⟩ | ⟨rfl, rfl, ha, HPr, rfl, rfl, rfl⟩ | ⟨rfl, rfl, ha, p, HPr, hpf, rfl, rfl, rfl⟩
        · clear HE
          go_wp2_with (first
            | (go_at_call 68; (refine (label_Of.calls (ws.length + 1) n0 A9 c9 (catsOf ws) _ _ _ _ HC9.out hc9 HO.out).mono ?_); rintro e w5 ⟨rfl, hb⟩; have HB5 := Lib.hid (below_step HBE.out hb); have hk5 := blk_below HKE.out hb; have HK5 := Lib.hid hk5; have hcz0 : w5.cell? ⟨w.heap.size, 0, none⟩ = some (.int .i64 0) := (blk_cell hk5 0).trans rfl; have hcz1 : w5.cell? ⟨w.heap.size, 1, none⟩ = some (.int .u64 0) := (blk_cell hk5 1).trans rfl; have hfz0 := blk_frozen hk5 0; have hfz1 := blk_frozen hk5 1; have hlt5 := blk_lt hk5; have hn1 : w.heap.size ≠ w5.heap.size := (by omega); have hn2 : w.heap.size ≠ w5.heap.size + 1 := (by omega); have hn3 : w5.heap.size ≠ w.heap.size := (by omega); have hn4 : w5.heap.size + 1 ≠ w.heap.size := (by omega); clear hb hk5))
          refine bodyPost_ret (results_ct rfl _ _ w.heap.size 26 #[.int .i64 0, .int .u64 0] (0, 0) _ rfl (by repeat (first | exact HK5.out | refine blk_alloc ?_ _ | refine blk_far ?_ hn1 _ | refine blk_far ?_ hn2 _ | refine blk_put (cs := #[.int .i64 0, .int .u64 0]) ?_ 1 _ rfl | refine blk_put (cs := #[.int .i64 0, .int .u64 0]) ?_ 0 _ rfl)) Tryd.underlying26 rfl (by kernel_rfl)) rfl ?_
          exact ⟨rfl, by repeat (first | exact HB5.out | apply below_alloc | refine below_set ?_ (by omega))⟩
        · clear HE
          go_wp2_with (first
            | (go_at_call 68; (refine (label_Of.calls (ws.length + 1) n0 A9 c9 (catsOf ws) _ _ _ _ HC9.out hc9 HO.out).mono ?_); rintro e w5 ⟨rfl, hb⟩; have HB5 := Lib.hid (below_step HBE.out hb); have hk5 := blk_below HKE.out hb; have HK5 := Lib.hid hk5; have hcz0 : w5.cell? ⟨w.heap.size, 0, none⟩ = some (.int .i64 0) := (blk_cell hk5 0).trans rfl; have hcz1 : w5.cell? ⟨w.heap.size, 1, none⟩ = some (.int .u64 0) := (blk_cell hk5 1).trans rfl; have hfz0 := blk_frozen hk5 0; have hfz1 := blk_frozen hk5 1; have hlt5 := blk_lt hk5; have hn1 : w.heap.size ≠ w5.heap.size := (by omega); have hn2 : w.heap.size ≠ w5.heap.size + 1 := (by omega); have hn3 : w5.heap.size ≠ w.heap.size := (by omega); have hn4 : w5.heap.size + 1 ≠ w.heap.size := (by omega); clear hb hk5))
          refine bodyPost_ret (results_ct rfl _ _ w.heap.size 26 #[.int .i64 0, .int .u64 0] (0, 0) _ rfl (by repeat (first | exact HK5.out | refine blk_alloc ?_ _ | refine blk_far ?_ hn1 _ | refine blk_far ?_ hn2 _ | refine blk_put (cs := #[.int .i64 0, .int .u64 0]) ?_ 1 _ rfl | refine blk_put (cs := #[.int .i64 0, .int .u64 0]) ?_ 0 _ rfl)) Tryd.underlying26 rfl (by kernel_rfl)) rfl ?_
          exact ⟨rfl, by repeat (first | exact HB5.out | apply below_alloc | refine below_set ?_ (by omega))⟩
        · clear HE
          go_wp2_with (first
            | (go_at_call 68; (refine (label_Of.calls (ws.length + 1) n0 A9 c9 (catsOf ws) _ _ _ _ HC9.out hc9 HO.out).mono ?_); rintro e w5 ⟨rfl, hb⟩; have HB5 := Lib.hid (below_step HBE.out hb); have hk5 := blk_below HKE.out hb; have HK5 := Lib.hid hk5; have hcz0 : w5.cell? ⟨w.heap.size, 0, none⟩ = some (.int .i64 0) := (blk_cell hk5 0).trans rfl; have hcz1 : w5.cell? ⟨w.heap.size, 1, none⟩ = some (.int .u64 0) := (blk_cell hk5 1).trans rfl; have hfz0 := blk_frozen hk5 0; have hfz1 := blk_frozen hk5 1; have hlt5 := blk_lt hk5; have hn1 : w.heap.size ≠ w5.heap.size := (by omega); have hn2 : w.heap.size ≠ w5.heap.size + 1 := (by omega); have hn3 : w5.heap.size ≠ w.heap.size := (by omega); have hn4 : w5.heap.size + 1 ≠ w.heap.size := (by omega); clear hb hk5))
          refine bodyPost_ret (results_ct rfl _ _ w.heap.size 26 #[.int .i64 0, .int .u64 0] (0, 0) _ rfl (by repeat (first | exact HK5.out | refine blk_alloc ?_ _ | refine blk_far ?_ hn1 _ | refine blk_far ?_ hn2 _ | refine blk_put (cs := #[.int .i64 0, .int .u64 0]) ?_ 1 _ rfl | refine blk_put (cs := #[.int .i64 0, .int .u64 0]) ?_ 0 _ rfl)) Tryd.underlying26 rfl (by kernel_rfl)) rfl ?_
          exact ⟨rfl, by repeat (first | exact HB5.out | apply below_alloc | refine below_set ?_ (by omega))⟩
        · clear HE
          go_wp2_with (first
            | (go_at_call 68; (refine (label_Of.calls (ws.length + 1) n0 A9 c9 (catsOf ws) _ _ _ _ HC9.out hc9 HO.out).mono ?_); rintro e w5 ⟨rfl, hb⟩; have HB5 := Lib.hid (below_step HBE.out hb); have hk5 := blk_below HKE.out hb; have HK5 := Lib.hid hk5; have hcz0 : w5.cell? ⟨w.heap.size, 0, none⟩ = some (.int .i64 0) := (blk_cell hk5 0).trans rfl; have hcz1 : w5.cell? ⟨w.heap.size, 1, none⟩ = some (.int .u64 0) := (blk_cell hk5 1).trans rfl; have hfz0 := blk_frozen hk5 0; have hfz1 := blk_frozen hk5 1; have hlt5 := blk_lt hk5; have hn1 : w.heap.size ≠ w5.heap.size := (by omega); have hn2 : w.heap.size ≠ w5.heap.size + 1 := (by omega); have hn3 : w5.heap.size ≠ w.heap.size := (by omega); have hn4 : w5.heap.size + 1 ≠ w.heap.size := (by omega); clear hb hk5))
          refine bodyPost_ret (results_ct rfl _ _ w.heap.size 26 #[.int .i64 0, .int .u64 0] (0, 0) _ rfl (by repeat (first | exact HK5.out | refine blk_alloc ?_ _ | refine blk_far ?_ hn1 _ | refine blk_far ?_ hn2 _ | refine blk_put (cs := #[.int .i64 0, .int .u64 0]) ?_ 1 _ rfl | refine blk_put (cs := #[.int .i64 0, .int .u64 0]) ?_ 0 _ rfl)) Tryd.underlying26 rfl (by kernel_rfl)) rfl ?_
          exact ⟨rfl, by repeat (first | exact HB5.out | apply below_alloc | refine below_set ?_ (by omega))⟩
        · clear HE
          have HP := Lib.hid HPr
          clear HPr
          go_wp2_with (first
            | (go_at_call 68; (refine (label_Of.calls (ws.length + 1) n0 A9 c9 (catsOf ws) _ _ _ _ HC9.out hc9 HO.out).mono ?_); rintro e w5 ⟨rfl, hb⟩; have HB5 := Lib.hid (below_step HBE.out hb); have hk5 := blk_below HKE.out hb; have HK5 := Lib.hid hk5; have hcz0 : w5.cell? ⟨w.heap.size, 0, none⟩ = some (.int .i64 0) := (blk_cell hk5 0).trans rfl; have hcz1 : w5.cell? ⟨w.heap.size, 1, none⟩ = some (.int .u64 0) := (blk_cell hk5 1).trans rfl; have hfz0 := blk_frozen hk5 0; have hfz1 := blk_frozen hk5 1; have hlt5 := blk_lt hk5; have hn1 : w.heap.size ≠ w5.heap.size := (by omega); have hn2 : w.heap.size ≠ w5.heap.size + 1 := (by omega); have hn3 : w5.heap.size ≠ w.heap.size := (by omega); have hn4 : w5.heap.size + 1 ≠ w.heap.size := (by omega); clear hb hk5)
            | (go_at_call 36; (refine (label_Print.calls 66 _ _ _ _ (hT.below (by repeat (first | exact HB5.out | apply below_alloc | refine below_set ?_ (by omega)))) HP.out).mono ?_); rintro e w6 ⟨rfl, hb⟩; have HB6 := Lib.hid (below_step (by repeat (first | exact HB5.out | apply below_alloc | refine below_set ?_ (by omega))) hb); have hk6 := blk_below (g := w.heap.size) (o := .cells #[.int .i64 0, .int .u64 0] 26 (0, 0)) (by repeat (first | exact HK5.out | refine blk_alloc ?_ _ | refine blk_far ?_ hn3 _ | refine blk_far ?_ hn4 _ | refine blk_far ?_ hn1 _ | refine blk_far ?_ hn2 _)) hb; have hdz0 : w6.cell? ⟨w.heap.size, 0, none⟩ = some (.int .i64 0) := (blk_cell hk6 0).trans rfl; have hdz1 : w6.cell? ⟨w.heap.size, 1, none⟩ = some (.int .u64 0) := (blk_cell hk6 1).trans rfl; have hdf0 := blk_frozen hk6 0; have hdf1 := blk_frozen hk6 1; have hdy0 := pw_cell_below hb (a := ⟨w5.heap.size, 0, none⟩) (v := .int .i64 a0) (by go_simp); have hdy1 := pw_cell_below hb (a := ⟨w5.heap.size, 1, none⟩) (v := .int .u64 a1) (by go_simp); have hdx0 := pw_cell_below hb (a := ⟨w5.heap.size + 1, 0, none⟩) (v := .int .i64 0) (by go_simp); have hdx1 := pw_cell_below hb (a := ⟨w5.heap.size + 1, 1, none⟩) (v := .int .u64 0) (by go_simp); have HK6 := Lib.hid hk6; clear hb hk6))
          refine bodyPost_ret (results_ct rfl _ _ w.heap.size 26 #[.int .i64 a0, .int .u64 a1] (0, 0) _ rfl (by repeat (first | exact HK6.out | exact HK5.out | refine blk_alloc ?_ _ | refine blk_far ?_ hn1 _ | refine blk_far ?_ hn2 _ | refine blk_put (cs := #[.int .i64 a0, .int .u64 0]) ?_ 1 _ rfl | refine blk_put (cs := #[.int .i64 0, .int .u64 0]) ?_ 0 _ rfl)) Tryd.underlying26 rfl (by kernel_rfl)) rfl ?_
          exact ⟨rfl, by repeat (first | exact HB6.out | exact HB5.out | apply below_alloc | refine below_set ?_ (by omega))⟩
        · clear HE
          have HP := Lib.hid HPr
          clear HPr
          go_wp2_with (first
            | (go_at_call 68; (refine (label_Of.calls (ws.length + 1) n0 A9 c9 (catsOf ws) _ _ _ _ HC9.out hc9 HO.out).mono ?_); rintro e w5 ⟨rfl, hb⟩; have HB5 := Lib.hid (below_step HBE.out hb); have hk5 := blk_below HKE.out hb; have HK5 := Lib.hid hk5; have hcz0 : w5.cell? ⟨w.heap.size, 0, none⟩ = some (.int .i64 0) := (blk_cell hk5 0).trans rfl; have hcz1 : w5.cell? ⟨w.heap.size, 1, none⟩ = some (.int .u64 0) := (blk_cell hk5 1).trans rfl; have hfz0 := blk_frozen hk5 0; have hfz1 := blk_frozen hk5 1; have hlt5 := blk_lt hk5; have hn1 : w.heap.size ≠ w5.heap.size := (by omega); have hn2 : w.heap.size ≠ w5.heap.size + 1 := (by omega); have hn3 : w5.heap.size ≠ w.heap.size := (by omega); have hn4 : w5.heap.size + 1 ≠ w.heap.size := (by omega); clear hb hk5)
            | (go_at_call 36; (refine (label_Print.calls 66 _ _ _ _ (hT.below (by repeat (first | exact HB5.out | apply below_alloc | refine below_set ?_ (by omega)))) HP.out).mono ?_); rintro e w6 ⟨rfl, hb⟩; have HB6 := Lib.hid (below_step (by repeat (first | exact HB5.out | apply below_alloc | refine below_set ?_ (by omega))) hb); have hk6 := blk_below (g := w.heap.size) (o := .cells #[.int .i64 0, .int .u64 0] 26 (0, 0)) (by repeat (first | exact HK5.out | refine blk_alloc ?_ _ | refine blk_far ?_ hn3 _ | refine blk_far ?_ hn4 _ | refine blk_far ?_ hn1 _ | refine blk_far ?_ hn2 _)) hb; have hdz0 : w6.cell? ⟨w.heap.size, 0, none⟩ = some (.int .i64 0) := (blk_cell hk6 0).trans rfl; have hdz1 : w6.cell? ⟨w.heap.size, 1, none⟩ = some (.int .u64 0) := (blk_cell hk6 1).trans rfl; have hdf0 := blk_frozen hk6 0; have hdf1 := blk_frozen hk6 1; have hdy0 := pw_cell_below hb (a := ⟨w5.heap.size, 0, none⟩) (v := .int .i64 a0) (by go_simp); have hdy1 := pw_cell_below hb (a := ⟨w5.heap.size, 1, none⟩) (v := .int .u64 a1) (by go_simp); have hdx0 := pw_cell_below hb (a := ⟨w5.heap.size + 1, 0, none⟩) (v := .int .i64 0) (by go_simp); have hdx1 := pw_cell_below hb (a := ⟨w5.heap.size + 1, 1, none⟩) (v := .int .u64 0) (by go_simp); have HK6 := Lib.hid hk6; clear hb hk6))
          refine bodyPost_ret (results_ct rfl _ _ w.heap.size 26 #[.int .i64 0, .int .u64 0] (0, 0) _ rfl (by repeat (first | exact HK6.out | exact HK5.out | refine blk_alloc ?_ _ | refine blk_far ?_ hn1 _ | refine blk_far ?_ hn2 _ | refine blk_put (cs := #[.int .i64 0, .int .u64 0]) ?_ 1 _ rfl | refine blk_put (cs := #[.int .i64 0, .int .u64 0]) ?_ 0 _ rfl)) Tryd.underlying26 rfl (by kernel_rfl)) rfl ?_
          exact ⟨rfl, by repeat (first | exact HB6.out | exact HB5.out | apply below_alloc | refine below_set ?_ (by omega))⟩
end Go.Proofs.YthaimkdnddmokaaDoor.P

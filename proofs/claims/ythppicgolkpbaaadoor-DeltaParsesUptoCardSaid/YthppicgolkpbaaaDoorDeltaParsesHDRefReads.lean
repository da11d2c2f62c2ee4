/- the reference's Parse of a delta's text comes to what DReads tells -/
import Derived.Test.YthppicgolkpbaaaDoorDeltaParsesHDReads
import Derived.Test.YthppicgolkpbaaaDoorDeltaParsesPxJalousieref15d
import Derived.Test.YthppicgolkpbaaaDoorDeltaParsesGHRefWords
import Derived.Test.YthppicgolkpbaaaDoorDeltaParsesGHLineLaws
namespace Go.Proofs.YthppicgolkpbaaaDoor.P
open Go.RowKit Go.Proofs.YthppicgolkpbaaaDoorW.PrintWords Go.Proofs.YthppicgolkpbaaaDoorW.PrintLast Go.Proofs.YthppicgolkpbaaaDoorW.PrintMore
set_option linter.unusedVariables false
set_option linter.unusedSimpArgs false
theorem extract_ba (s : ByteArray) (i j : Nat) : s.extract i j = baOf ((s.data.toList.drop i).take (j - i)) := Lib.extract_eq s i j
theorem word_in_go (s : ByteArray) (hs : s.size ≤ 4000000000000) (a b : List UInt8) (hl : s.data.toList = a ++ 32 :: b) (ha : noC 32 a) : ∀ (n i : Nat), a.length - i = n → i ≤ a.length → Ev (fun k => jalousieref15_word.l0 k s (i : Int)) (baOf a, baOf b, true)
 | n, i, hn, hi => by
  have hsz : s.size = a.length + 1 + b.length := by rw [← data_length, hl]; simp; omega
  have hbt : ∀ c : UInt8, s.data.toList[i]'(by rw [data_length]; omega) = c → bt s (i : Int) = (c.toNat : Int) := fun c hc => (byte_is s i (by omega) c).1 hc
  cases n with
  | zero =>
   obtain rfl : i = a.length := by omega
   have h32 : bt s (a.length : Int) = 32 := hbt 32 (by simp [hl])
   refine Ev.step (f := fun _ => some (baOf a, baOf b, true)) (fun k => ?_) (Ev.now _)
   simp only [jalousieref15_word.l0]
   rw [wrap_at (by omega), if_pos (by omega), if_pos (by omega), if_pos h32, if_pos (by omega), if_pos (by omega), if_pos (by omega), extract_ba, extract_ba, hl, Int.toNat_natCast, Int.toNat_natCast]
   have e1 : ((a ++ 32 :: b).drop 0).take (a.length - 0) = a := by simp
   have e2 : ((a ++ 32 :: b).drop (a.length + 1)).take (s.size - (a.length + 1)) = b := by
    rw [← List.drop_drop, List.drop_left]
    simp only [List.drop_succ_cons, List.drop_zero]
    exact List.take_of_length_le (by omega)
   rw [e1, e2]
  | succ n =>
   have hlt : i < a.length := by omega
   have hne : ¬ bt s (i : Int) = 32 := by
    intro e
    have := (byte_is s i (by omega) 32).2 e
    have h2 : a[i] = 32 := by rw [← this]; simp [hl, List.getElem_append_left hlt]
    exact ha _ (List.getElem_mem hlt) h2
   refine Ev.step (fun k => ?_) (word_in_go s hs a b hl ha n (i + 1) (by omega) (by omega))
   simp only [jalousieref15_word.l0]
   rw [wrap_at (by omega), if_pos (by omega), if_pos (by omega), if_neg hne]
theorem word_in (s : ByteArray) (hs : s.size ≤ 4000000000000) (a b : List UInt8) (hl : s.data.toList = a ++ 32 :: b) (ha : noC 32 a) : Ev (fun k => jalousieref15_word.f k s) (baOf a, baOf b, true) := word_in_go s hs a b hl ha _ 0 rfl (Nat.zero_le _)
theorem word_out_go (s : ByteArray) (hs : s.size ≤ 4000000000000) (ha : noC 32 s.data.toList) : ∀ (n i : Nat), s.size - i = n → i ≤ s.size → Ev (fun k => jalousieref15_word.l0 k s (i : Int)) (⟨#[]⟩, ⟨#[]⟩, false)
 | 0, i, hn, hi => by
  refine Ev.step (f := fun _ => some (⟨#[]⟩, ⟨#[]⟩, false)) (fun k => ?_) (Ev.now _)
  simp only [jalousieref15_word.l0]
  rw [if_neg (by omega)]
 | n + 1, i, hn, hi => by
  have hlt : i < s.size := by omega
  have hne : ¬ bt s (i : Int) = 32 := by
   intro e
   have := (byte_is s i hlt 32).2 e
   exact ha _ (List.getElem_mem (by rw [data_length]; exact hlt)) this
  refine Ev.step (fun k => ?_) (word_out_go s hs ha n (i + 1) (by omega) (by omega))
  simp only [jalousieref15_word.l0]
  rw [wrap_at (by omega), if_pos (by omega), if_pos (by omega), if_neg hne]
theorem word_out (s : ByteArray) (hs : s.size ≤ 4000000000000) (ha : noC 32 s.data.toList) : Ev (fun k => jalousieref15_word.f k s) (⟨#[]⟩, ⟨#[]⟩, false) := word_out_go s hs ha _ 0 rfl (Nat.zero_le _)
theorem word_nil : Ev (fun k => jalousieref15_word.f k ⟨#[]⟩) (⟨#[]⟩, ⟨#[]⟩, false) := word_out _ (by decide) (by intro b hb; cases hb)
theorem word_any (s : ByteArray) (hs : s.size ≤ 4000000000000) : (noC 32 s.data.toList ∧ Ev (fun k => jalousieref15_word.f k s) (⟨#[]⟩, ⟨#[]⟩, false)) ∨ ∃ a b, s.data.toList = a ++ 32 :: b ∧ noC 32 a ∧ Ev (fun k => jalousieref15_word.f k s) (baOf a, baOf b, true) := by
 rcases splitK_cases 32 0 s.data.toList with h | ⟨a, b, hl, ha, _⟩
 ·
  rcases Classical.em ((32 : UInt8) ∈ s.data.toList) with hm | hm
  ·
   right
   rcases indexByte_cases 32 s.data.toList with ⟨e, h3⟩ | ⟨i, e1, e2, _⟩
   ·
    exfalso
    exact Lib.indexByte_none e _ (List.getElem?_of_mem hm).choose_spec
   ·
    have hsp := Lib.indexByte_some e1
    refine ⟨s.data.toList.take i, s.data.toList.drop (i + 1), ?_, ?_, ?_⟩
    all_goals
     have hat := hsp.1
     rw [List.getElem?_eq_getElem e2] at hat
     have e3 : s.data.toList = s.data.toList.take i ++ 32 :: s.data.toList.drop (i + 1) := by
      conv => lhs; rw [← List.take_append_drop i s.data.toList, List.drop_eq_getElem_cons e2]
      rw [Option.some.inj hat]
     have hno : noC 32 (s.data.toList.take i) := by
      intro x hx
      obtain ⟨j, hj⟩ := List.getElem?_of_mem hx
      have hji : j < i := by
       have := (List.getElem?_eq_some_iff.1 hj).1
       rw [List.length_take] at this
       omega
      rw [List.getElem?_take_of_lt hji] at hj
      intro e
      exact hsp.2 j hji (by rw [hj, e])
    ·
     exact e3
    ·
     exact hno
    ·
     exact word_in s hs _ _ e3 hno
  ·
   left
   have hno : noC 32 s.data.toList := fun x hx e => hm (e ▸ hx)
   exact ⟨hno, word_out s hs hno⟩
 ·
  exact .inr ⟨a, b, hl, ha, word_in s hs a b hl ha⟩
abbrev ItemAns := Int × Int × Int × Bool × ByteArray × Bool × Bool
def noItem : ItemAns := (0, 0, 0, false, ⟨#[]⟩, false, false)
theorem item_bad (e b c d : ByteArray) : Ev (fun k => jalousieref15_item.j0 k e b c d true) noItem :=
 Ev.step (f := fun _ => some noItem) (fun k => by simp only [jalousieref15_item.j0]; rw [if_pos trivial]; rfl) (Ev.now _)
theorem ref_num_ev (s : ByteArray) : Ev (fun k => jalousieref01_Number.f k s) (numOf s) := Ev.of (jalousieref01_Number.mono s) (ref_Number_tells s)
theorem ref_lab_ev (s : ByteArray) (hs : s.size ≤ 140737488355328) : Ev (fun k => jalousieref02_Parse.f k s) (labRead s) := Ev.of (jalousieref02_Parse.mono s) (ref_Parse_label_tells s hs _ (Nat.le_refl _))
def tailAns (b c d e : ByteArray) : ItemAns := ((numOf b).1, (labRead c).1, (labRead c).2.1, ((bt d 0) == 97), e, ((d.size : Int) == 2), (numOf b).2 && (labRead c).2.2 && decide (checkOf ⟨(numOf b).1, ⟨(labRead c).1, (labRead c).2.1⟩, (bt d 0) == 97, ⟨e, (d.size : Int) == 2⟩⟩ = 0))
theorem item_good (e b c d : ByteArray) (hd : 0 < d.size) (hc : c.size ≤ 140737488355328) (he : e.size ≤ 4000000000000) : Ev (fun k => jalousieref15_item.j0 k e b c d false) (tailAns b c d e) := by
 refine Ev.step (fun k => by simp only [jalousieref15_item.j0]; rw [if_neg (by decide)]) ?_
 refine Ev.bind (ref_num_ev b) ?_
 refine Ev.bind (ref_lab_ev c hc) ?_
 unfold tailAns
 refine Ev.congr (fun k => by rw [if_pos (show 0 < (d.size : Int) by omega)]) ?_
 cases hn : (numOf b).2 with
 | false =>
  refine Ev.congr (fun k => by rw [if_neg (by decide)]) ?_
  exact Ev.now _
 | true =>
  refine Ev.congr (fun k => by rw [if_pos rfl]) ?_
  cases hl : (labRead c).2.2 with
  | false =>
   refine Ev.congr (fun k => by rw [if_neg (by decide)]) ?_
   exact Ev.now _
  | true =>
   refine Ev.congr (fun k => by rw [if_pos rfl]) ?_
   have := ref_check_ev ⟨(numOf b).1, ⟨(labRead c).1, (labRead c).2.1⟩, (bt d 0) == 97, ⟨e, (d.size : Int) == 2⟩⟩ he
   refine Ev.bind this ?_
   have e9 : ∀ z : Int, (z == 0) = decide (z = 0) := fun z => by rw [Bool.eq_iff_iff]; simp
   rw [e9]
   exact Ev.now _
def ItemSays (s : ByteArray) (t : ItemAns) : Prop := refRes s = none ∧ t.2.2.2.2.2.2 = false ∨ ∃ y, refRes s = some y ∧ t = (y.f0, y.f1.f0, y.f1.f1, y.f2, y.f3.f0, y.f3.f1, true)
theorem few_none (s : ByteArray) (h : (splitNC 32 4 s.data.toList).length < 5) : refRes s = none := by
 unfold refRes refWs
 rw [if_pos (by unfold piecesOf; rw [List.length_map]; exact h)]
theorem item_ev (s : ByteArray) (hs : s.size ≤ 4000000000000) : ∃ t, Ev (fun k => jalousieref15_item.f k s) t ∧ ItemSays s t := by
 have lens : s.data.toList.length = s.size := data_length s
 have bad : ∀ (w1 w2 w3 w4 : ByteArray × ByteArray × Bool), Ev (fun k => jalousieref15_word.f k s) w1 → Ev (fun k => jalousieref15_word.f k w1.2.1) w2 → Ev (fun k => jalousieref15_word.f k w2.2.1) w3 → Ev (fun k => jalousieref15_word.f k w3.2.1) w4 → (w1.2.2 && w2.2.2 && w3.2.2 && w4.2.2) = false → Ev (fun k => jalousieref15_item.f k s) noItem := by
  intro w1 w2 w3 w4 h1 h2 h3 h4 hb
  unfold jalousieref15_item.f
  refine Ev.bind h1 (Ev.bind h2 (Ev.bind h3 (Ev.bind h4 ?_)))
  refine Ev.congr (f := fun k => jalousieref15_item.j0 k w4.2.1 w2.1 w3.1 w4.1 true) (fun k => ?_) (item_bad _ _ _ _)
  cases c1 : w1.2.2 with
  | false => rw [if_neg (by decide)]
  | true =>
   rw [if_pos rfl]
   cases c2 : w2.2.2 with
   | false => rw [if_neg (by decide)]
   | true =>
    rw [if_pos rfl]
    cases c3 : w3.2.2 with
    | false => rw [if_neg (by decide)]
    | true =>
     rw [if_pos rfl]
     cases c4 : w4.2.2 with
     | false => rw [if_neg (by decide)]
     | true => rw [c1, c2, c3, c4] at hb; cases hb
 have few : ∀ l : List UInt8, noC 32 l → ∀ k, Lib.splitK [32] 0 k l = [l] := by
  intro l hl k
  cases k with
  | zero => rfl
  | succ k =>
   rcases splitK_cases 32 k l with h | ⟨a, b, rfl, _, _⟩
   ·
    exact h
   ·
    exact absurd rfl (hl 32 (by simp))
 rcases word_any s hs with ⟨n1, h1⟩ | ⟨a, r1, e1, na, h1⟩
 ·
  exact ⟨noItem, bad _ _ _ _ h1 word_nil word_nil word_nil rfl, .inl ⟨few_none s (by unfold splitNC; rw [few _ n1]; simp), rfl⟩⟩
 have z1 : (baOf r1).size ≤ s.size := by rw [ba_size, ← lens, e1]; simp; omega
 rcases word_any (baOf r1) (by omega) with ⟨n2, h2⟩ | ⟨b, r2, e2, nb, h2⟩
 ·
  exact ⟨noItem, bad _ _ _ _ h1 h2 word_nil word_nil rfl, .inl ⟨few_none s (by unfold splitNC; rw [e1, splitK_in 32 3 _ _ na, few r1 n2]; simp), rfl⟩⟩
 rw [baOf_data] at e2
 have z2 : (baOf r2).size ≤ s.size := by have := z1; rw [ba_size] at this ⊢; rw [e2] at this; simp at this; omega
 rcases word_any (baOf r2) (by omega) with ⟨n3, h3⟩ | ⟨c, r3, e3, nc, h3⟩
 ·
  exact ⟨noItem, bad _ _ _ _ h1 h2 h3 word_nil rfl, .inl ⟨few_none s (by unfold splitNC; rw [e1, splitK_in 32 3 _ _ na, e2, splitK_in 32 2 _ _ nb, few r2 n3]; simp), rfl⟩⟩
 rw [baOf_data] at e3
 have z3 : (baOf r3).size ≤ s.size ∧ (baOf c).size ≤ s.size := by have := z2; rw [ba_size] at this; rw [ba_size, ba_size]; rw [e3] at this; simp at this; omega
 rcases word_any (baOf r3) (by omega) with ⟨n4, h4⟩ | ⟨d, r4, e4, nd, h4⟩
 ·
  exact ⟨noItem, bad _ _ _ _ h1 h2 h3 h4 rfl, .inl ⟨few_none s (by unfold splitNC; rw [e1, splitK_in 32 3 _ _ na, e2, splitK_in 32 2 _ _ nb, e3, splitK_in 32 1 _ _ nc, few r3 n4]; simp), rfl⟩⟩
 rw [baOf_data] at e4
 have z4 : (baOf r4).size ≤ s.size := by have := z3.1; rw [ba_size] at this ⊢; rw [e4] at this; simp at this; omega
 have hp : piecesOf s = [a, b, c, d, r4].map baOf := by
  unfold piecesOf
  rw [e1, e2, e3, e4, pieces_in _ _ _ _ _ na nb nc nd]
 obtain ⟨w0, w1, w2, w3, w4⟩ := wd_map a b c d r4
 have fin : ∀ t, Ev (fun k => if (baOf a).toList = ([105, 116, 101, 109] : List UInt8) then (if (baOf d).toList = ([97] : List UInt8) then (jalousieref15_item.j0 k (baOf r4) (baOf b) (baOf c) (baOf d) false) else (if (baOf d).toList = ([97, 98] : List UInt8) then (jalousieref15_item.j0 k (baOf r4) (baOf b) (baOf c) (baOf d) false) else (if (baOf d).toList = ([108] : List UInt8) then (jalousieref15_item.j0 k (baOf r4) (baOf b) (baOf c) (baOf d) false) else (jalousieref15_item.j0 k (baOf r4) (baOf b) (baOf c) (baOf d) ((baOf d).toList != ([108, 98] : List UInt8)))))) else (jalousieref15_item.j0 k (baOf r4) (baOf b) (baOf c) (baOf d) true)) t → Ev (fun k => jalousieref15_item.f k s) t := by
  intro t ht
  unfold jalousieref15_item.f
  exact Ev.bind h1 (Ev.bind h2 (Ev.bind h3 (Ev.bind h4 ht)))
 have none_of : ¬ (a = [105, 116, 101, 109] ∧ kindOk d) → refRes s = none := by
  intro hk
  unfold refRes refWs
  rw [hp, w0, w3, baOf_data, baOf_data, if_neg (by simp), if_neg hk]
 have tl : ∀ x : List UInt8, (baOf x).toList = x := fun x => by rw [toList_data, baOf_data]
 rw [tl a, tl d] at fin
 by_cases ha : a = [105, 116, 101, 109]
 case neg =>
  refine ⟨noItem, fin _ (Ev.congr (fun k => by rw [if_neg ha]) (item_bad _ _ _ _)), .inl ⟨none_of (fun h => ha h.1), rfl⟩⟩
 by_cases hk : kindOk d
 case neg =>
  refine ⟨noItem, fin _ (Ev.congr (fun k => ?_) (item_bad (baOf r4) (baOf b) (baOf c) (baOf d))), .inl ⟨none_of (fun h => hk h.2), rfl⟩⟩
  unfold kindOk at hk
  rw [if_pos ha, if_neg (fun e => hk (.inl e)), if_neg (fun e => hk (.inr (.inl e))), if_neg (fun e => hk (.inr (.inr (.inl e))))]
  have : (d != [108, 98]) = true := by simpa using fun e => hk (.inr (.inr (.inr e)))
  rw [this]
 have hd0 : 0 < (baOf d).size := by rw [ba_size]; rcases hk with rfl | rfl | rfl | rfl <;> simp
 refine ⟨tailAns (baOf b) (baOf c) (baOf d) (baOf r4), fin _ (Ev.congr (fun k => ?_) (item_good (baOf r4) (baOf b) (baOf c) (baOf d) hd0 (by omega) (by omega))), ?_⟩
 ·
  rw [if_pos ha]
  rcases hk with rfl | rfl | rfl | rfl <;> rfl
 ·
  unfold ItemSays
  have hrr : refRes s = if (numOf (baOf b)).2 = true ∧ (labRead (baOf c)).2.2 = true ∧ checkOf ⟨(numOf (baOf b)).1, ⟨(labRead (baOf c)).1, (labRead (baOf c)).2.1⟩, (bt (baOf d) 0) == 97, ⟨baOf r4, ((baOf d).size : Int) == 2⟩⟩ = 0 then some ⟨(numOf (baOf b)).1, ⟨(labRead (baOf c)).1, (labRead (baOf c)).2.1⟩, (bt (baOf d) 0) == 97, ⟨baOf r4, ((baOf d).size : Int) == 2⟩⟩ else none := by
   unfold refRes refWs refItemOf
   rw [hp, w0, w3, baOf_data, baOf_data, if_neg (by simp), if_pos ⟨ha, hk⟩, w1, w2, w4]
  by_cases hc : (numOf (baOf b)).2 = true ∧ (labRead (baOf c)).2.2 = true ∧ checkOf ⟨(numOf (baOf b)).1, ⟨(labRead (baOf c)).1, (labRead (baOf c)).2.1⟩, (bt (baOf d) 0) == 97, ⟨baOf r4, ((baOf d).size : Int) == 2⟩⟩ = 0
  ·
   rw [hrr, if_pos hc]
   refine .inr ⟨_, rfl, ?_⟩
   unfold tailAns
   rw [hc.1, hc.2.1, decide_eq_true hc.2.2]
   rfl
  ·
   rw [hrr, if_neg hc]
   refine .inl ⟨rfl, ?_⟩
   unfold tailAns
   simp only [Bool.and_eq_false_iff, decide_eq_false_iff_not]
   by_cases q1 : (numOf (baOf b)).2 = true
   ·
    by_cases q2 : (labRead (baOf c)).2.2 = true
    ·
     exact .inr (fun h => hc ⟨q1, q2, h⟩)
    ·
     exact .inl (.inr (by simpa using q2))
   ·
    exact .inl (.inl (by simpa using q1))
end Go.Proofs.YthppicgolkpbaaaDoor.P

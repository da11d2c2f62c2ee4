/- what the reference reads of a delta's lines, and what the program's parsed tells of them: what either prints back is the same -/
import Derived.Test.YthppicgolkpbaaaDoorDeltaParsesHDPieces
import Derived.Test.YthppicgolkpbaaaDoorDeltaParsesHDParsed
import Derived.Test.YthppicgolkpbaaaDoorDeltaParsesHDPrintPlain
namespace Go.Proofs.YthppicgolkpbaaaDoor.P
open Go.RowKit Go.Proofs.YthppicgolkpbaaaDoorW.PrintWords Go.Proofs.YthppicgolkpbaaaDoorW.PrintLast Go.Proofs.YthppicgolkpbaaaDoorW.PrintMore
set_option linter.unusedVariables false
set_option linter.unusedSimpArgs false
def refIn (ps : List S27) (y : S41) : List S27 := ps.set (ps.length - 1) ⟨0, 0, (rd_T27 ps ((ps.length : Int) - 1)).f2 ++ [y]⟩
def nextT : List UInt8 := [110, 101, 120, 116]
def refGo : List S39 → List S27 → Bool → Bool → Option (List S27)
 | [], ps, _, nx => if nx = true then none else some ps
 | x :: l, ps, it, nx => if x.f1 = true then none else
  if x.f0.data.toList = nextT then (if it = true ∧ nx = false then refGo l ps it true else none) else
  if isCopy x.f0 then (if (numOf (wdOf (wordsOf x.f0) 1)).2 = true ∧ (numOf (wdOf (wordsOf x.f0) 2)).2 = true ∧ ¬ (numOf (wdOf (wordsOf x.f0) 2)).1 = 0 ∧ nx = false then refGo l (ps ++ [⟨(numOf (wdOf (wordsOf x.f0) 1)).1, (numOf (wdOf (wordsOf x.f0) 2)).1, []⟩]) false false else none) else
  match refRes x.f0 with
  | none => none
  | some y => if it = true ∧ nx = false then refGo l (refIn ps y) true false else refGo l (ps ++ [⟨0, 0, [y]⟩]) true false
theorem refIn_snoc (qs : List S27) (q : S27) (y : S41) : refIn (qs ++ [q]) y = qs ++ [⟨0, 0, q.f2 ++ [y]⟩] := by
 have h1 : rd_T27 (qs ++ [q]) (((qs ++ [q]).length : Int) - 1) = q := by
  have h2 := part_at (qs ++ [q]) qs.length (by simp)
  rw [show ((qs ++ [q]).length : Int) - 1 = (qs.length : Int) by simp]
  rw [List.getElem?_append_right (Nat.le_refl _)] at h2
  simp at h2
  exact h2.symm
 unfold refIn
 rw [h1]
 simp
def lastIt (ps : List S27) : Bool := match ps.getLast? with
 | none => false
 | some q => decide (0 < q.f2.length)
theorem lastIt_snoc (qs : List S27) (q : S27) : lastIt (qs ++ [q]) = decide (0 < q.f2.length) := by simp [lastIt]
def lastOf : Bool → List S27 → Bool
 | nx, [] => nx
 | _, p :: d => lastOf (decide (0 < p.f2.length)) d
theorem lastOf_snoc : ∀ (qs : List S27) (nx : Bool) (q : S27), lastOf nx (qs ++ [q]) = decide (0 < q.f2.length)
 | [], nx, q => rfl
 | p :: qs, nx, q => by rw [List.cons_append, lastOf, lastOf_snoc qs]
theorem lastOf_false (ps : List S27) : lastOf false ps = lastIt ps := by
 rcases List.eq_nil_or_concat ps with rfl | ⟨qs, q, rfl⟩
 ·
  rfl
 ·
  rw [List.concat_eq_append, lastOf_snoc, lastIt_snoc]
theorem print_snoc (q : S27) (b : List UInt8) : ∀ (ps : List S27) (nx : Bool) (acc : List UInt8), printGo nx (ps ++ [q]) acc = (b, 0) ↔ ∃ a s, printGo nx ps acc = (a, 0) ∧ partL q.f0 q.f1 q.f2 (lastOf nx ps) = (s, 0) ∧ b = a ++ s
 | [], nx, acc => by
  rw [List.nil_append, printGo, printGo, lastOf]
  constructor
  ·
   intro h
   by_cases he : (partL q.f0 q.f1 q.f2 nx).2 = 0
   ·
    rw [if_pos he, printGo] at h
    exact ⟨acc, (partL q.f0 q.f1 q.f2 nx).1, rfl, by rw [← he], by injection h with h _; exact h.symm⟩
   ·
    rw [if_neg he] at h
    injection h with _ h
    exact absurd h he
  ·
   rintro ⟨a, s, ha, hs, rfl⟩
   injection ha with ha _
   rw [hs, if_pos rfl, printGo, ha]
 | p :: ps, nx, acc => by
  rw [List.cons_append, printGo, printGo, lastOf]
  by_cases he : (partL p.f0 p.f1 p.f2 nx).2 = 0
  ·
   rw [if_pos he, if_pos he]
   exact print_snoc q b ps _ _
  ·
   rw [if_neg he, if_neg he]
   constructor
   ·
    intro h; injection h with _ h; exact absurd h he
   ·
    rintro ⟨a, s, ha, _, _⟩; injection ha with _ ha; exact absurd ha he
theorem linesGo_snoc (y : S41) (hy : checkOf y = 0) : ∀ (l : List S41) (acc a : List UInt8), linesGo l acc = (a, 0) → linesGo (l ++ [y]) acc = (a ++ lineL y, 0)
 | [], acc, a, h => by
  injection h with h _
  rw [List.nil_append, linesGo, if_pos hy, linesGo, h]
 | x :: l, acc, a, h => by
  rw [linesGo] at h
  rw [List.cons_append, linesGo]
  by_cases hc : checkOf x = 0
  ·
   rw [if_pos hc] at h ⊢
   exact linesGo_snoc y hy l _ _ h
  ·
   rw [if_neg hc] at h
   injection h with _ h
   exact absurd h hc
theorem wrong_items (n : Nat) : wrongOf 0 0 (n + 1) = 0 := by
 unfold wrongOf
 rw [if_neg (by omega), if_neg (by omega), if_neg (by omega), if_neg (by omega)]
theorem partL_items (y : S41) (l : List S41) (nx : Bool) : partL 0 0 (y :: l) nx = linesGo (y :: l) (if nx = true then [110, 101, 120, 116, 10] else []) := by
 unfold partL
 rw [List.length_cons, wrong_items]
 rfl
theorem partL_copy (a n : Int) (nx : Bool) (ha : 0 ≤ a) (ha2 : a ≤ 2147483647) (hn : 0 < n) (hn2 : n ≤ 2147483647) : partL a n [] nx = (copyL a n, 0) := by
 have hw : wrongOf a n ([] : List S41).length = 0 := by
  unfold wrongOf
  rw [List.length_nil, if_neg (by omega), if_neg (by omega), if_neg (by omega), if_neg (by omega)]
 unfold partL
 rw [hw, if_neg (by decide), if_neg (by omega), if_neg (by omega), if_pos hn]
def joinL (l : List S39) : List UInt8 := (l.map fun x => x.f0.data.toList ++ [10]).flatten
theorem joinL_cons (x : S39) (l : List S39) : joinL (x :: l) = x.f0.data.toList ++ [10] ++ joinL l := by simp [joinL]
theorem split_head (c : UInt8) (xs ys : List UInt8) (h : noC c xs) : splitC c (xs ++ c :: ys) = xs :: splitC c ys := splitC_in c xs ys h
theorem words_of_next {s : ByteArray} (h : s.data.toList = nextT) : wordsOf s = [baOf nextT] := by
 unfold wordsOf
 rw [h]
 decide
theorem next_is {s : ByteArray} (h : s.data.toList = nextT) : ¬ isCopy s ∧ isNext s := by
 have hw := words_of_next h
 unfold isCopy isNext
 rw [hw, show wdOf [baOf nextT] 0 = baOf nextT from rfl, toList_data, baOf_data]
 decide
theorem word0_item {s : ByteArray} {x : S41} (h : s.data.toList = lineT x) : wdOf (wordsOf s) 0 = baOf [105, 116, 101, 109] := by
 unfold wordsOf
 rw [h]
 unfold lineT
 rw [split_head 32 _ _ (by unfold noC; decide)]
 rfl
theorem item_is {s : ByteArray} {x : S41} (h : s.data.toList = lineT x) : ¬ isCopy s ∧ ¬ isNext s ∧ ¬ s.data.toList = nextT := by
 have hw := word0_item h
 unfold isCopy isNext
 rw [hw, toList_data, baOf_data]
 refine ⟨?_, by decide, ?_⟩
 ·
  rintro ⟨h1, _⟩
  revert h1
  decide
 ·
  rw [h]
  intro h2
  have := congrArg List.head? h2
  simp [lineT, nextT] at this
theorem copy_words {s : ByteArray} (h : isCopy s) : ∃ a b : List UInt8, s.data.toList = [99, 111, 112, 121] ++ 32 :: (a ++ 32 :: b) ∧ wdOf (wordsOf s) 1 = baOf a ∧ wdOf (wordsOf s) 2 = baOf b := by
 obtain ⟨h0, h3⟩ := h
 have key : ∀ l : List UInt8, (splitC 32 l).length = 3 → ∃ x a b, splitC 32 l = [x, a, b] ∧ l = x ++ 32 :: (a ++ 32 :: b) := by
  intro l hl
  rcases Classical.em ((32 : UInt8) ∈ l) with hm | hm
  ·
   obtain ⟨i, h1, h2, e1⟩ : ∃ i : Nat, Lib.indexByte l 32 = i ∧ i < l.length ∧ splitC 32 l = l.take i :: splitC 32 (l.drop (i + 1)) := by
    rcases indexByte_cases 32 l with ⟨e, h2⟩ | h
    ·
     rw [h2] at hl; simp at hl
    ·
     exact h
   have hat := (Lib.indexByte_some h1).1
   have e2 : l = l.take i ++ 32 :: l.drop (i + 1) := by
    conv => lhs; rw [← List.take_append_drop i l, List.drop_eq_getElem_cons h2]
    rw [List.getElem?_eq_getElem h2] at hat
    rw [Option.some.inj hat]
   rw [e1] at hl
   have hl2 : (splitC 32 (l.drop (i + 1))).length = 2 := by simpa using hl
   generalize l.drop (i + 1) = m at hl2 e1 e2
   obtain ⟨j, h4, h5, e3⟩ : ∃ i : Nat, Lib.indexByte m 32 = i ∧ i < m.length ∧ splitC 32 m = m.take i :: splitC 32 (m.drop (i + 1)) := by
    rcases indexByte_cases 32 m with ⟨e, h2⟩ | h
    ·
     rw [h2] at hl2; simp at hl2
    ·
     exact h
   have hat2 := (Lib.indexByte_some h4).1
   have e4 : m = m.take j ++ 32 :: m.drop (j + 1) := by
    conv => lhs; rw [← List.take_append_drop j m, List.drop_eq_getElem_cons h5]
    rw [List.getElem?_eq_getElem h5] at hat2
    rw [Option.some.inj hat2]
   rw [e3] at hl2
   have hl3 : (splitC 32 (m.drop (j + 1))).length = 1 := by simpa using hl2
   generalize m.drop (j + 1) = n at hl3 e3 e4
   have e5 : splitC 32 n = [n] := by
    rcases indexByte_cases 32 n with ⟨e, h2⟩ | ⟨k, _, _, h⟩
    ·
     exact h2
    ·
     rw [h] at hl3
     have := splitC_ne 32 (n.drop (k + 1))
     simp at hl3
     exact absurd hl3 this
   refine ⟨l.take i, m.take j, n, by rw [e1, e3, e5], ?_⟩
   rw [← e4]; exact e2
  ·
   rcases indexByte_cases 32 l with ⟨e, h2⟩ | ⟨i, h1, h2, _⟩
   ·
    rw [h2] at hl; simp at hl
   ·
    exact absurd (indexByte_memb 32 l (by omega)) hm
 unfold wordsOf at h3 h0 ⊢
 rw [List.length_map] at h3
 obtain ⟨x, a, b, e1, e2⟩ := key _ h3
 rw [e1] at h0 ⊢
 have hx : x = [99, 111, 112, 121] := by
  have : wdOf ([x, a, b].map baOf) 0 = baOf x := rfl
  rw [this, toList_data, baOf_data] at h0
  exact h0
 refine ⟨a, b, by rw [← hx]; exact e2, rfl, rfl⟩
theorem copy_sound {s : ByteArray} (h : isCopy s) (h1 : (numOf (wdOf (wordsOf s) 1)).2 = true) (h2 : (numOf (wdOf (wordsOf s) 2)).2 = true) : s.data.toList ++ [10] = copyL (numOf (wdOf (wordsOf s) 1)).1 (numOf (wdOf (wordsOf s) 2)).1 := by
 obtain ⟨a, b, e, w1, w2⟩ := copy_words h
 rw [w1] at h1 ⊢
 rw [w2] at h2 ⊢
 have d1 := dec_numOf (baOf a) (numOf (baOf a)).1 (num_pair _ h1)
 have d2 := dec_numOf (baOf b) (numOf (baOf b)).1 (num_pair _ h2)
 unfold copyL decL
 rw [d1, d2, e, baOf_data, baOf_data]
 simp
theorem read_sound : ∀ (l : List S39) (ps : List S27) (it nx : Bool) (acc : List UInt8) (d : List S27), it = lastIt ps → (it = true → ∃ qs m, ps = qs ++ [⟨0, 0, m⟩] ∧ ¬ m = []) → printGo false ps [] = (acc, 0) → (nx = true → it = true) → refGo l ps it nx = some d →
  parsedGo l ps (it && !nx) = d ∧ printGo false d [] = (acc ++ (if nx = true then [110, 101, 120, 116, 10] else []) ++ joinL l, 0) ∧ ∀ x ∈ l, x.f1 = false
 | [], ps, it, nx, acc, d, h0, h1, h2, h3, h => by
  rw [refGo] at h
  cases nx with
  | true => cases h
  | false =>
   have e : ps = d := Option.some.inj h
   refine ⟨by rw [parsedGo, e], ?_, fun x hx => by cases hx⟩
   rw [← e, h2]
   simp [joinL]
 | x :: l, ps, it, nx, acc, d, h0, h1, h2, h3, h => by
  rw [refGo] at h
  by_cases hb : x.f1 = true
  ·
   rw [if_pos hb] at h; cases h
  rw [if_neg hb] at h
  have hb2 : x.f1 = false := by simpa using hb
  have hall : (∀ y ∈ l, y.f1 = false) → ∀ y ∈ x :: l, y.f1 = false := by
   intro hl y hy
   rcases List.mem_cons.1 hy with rfl | hy
   ·
    exact hb2
   ·
    exact hl y hy
  by_cases hn : x.f0.data.toList = nextT
  ·
   rw [if_pos hn] at h
   by_cases hc : it = true ∧ nx = false
   ·
    rw [if_pos hc] at h
    obtain ⟨a1, a2, a3⟩ := read_sound l ps it true acc d h0 h1 h2 (fun _ => hc.1) h
    obtain ⟨n1, n2⟩ := next_is hn
    refine ⟨by rw [parsedGo, if_neg n1, if_pos n2]; simpa using a1, ?_, hall a3⟩
    rw [a2, joinL_cons, hn, hc.2]
    simp [nextT]
   ·
    rw [if_neg hc] at h; cases h
  rw [if_neg hn] at h
  by_cases hcp : isCopy x.f0
  ·
   rw [if_pos hcp] at h
   by_cases hc : (numOf (wdOf (wordsOf x.f0) 1)).2 = true ∧ (numOf (wdOf (wordsOf x.f0) 2)).2 = true ∧ ¬ (numOf (wdOf (wordsOf x.f0) 2)).1 = 0 ∧ nx = false
   ·
    rw [if_pos hc] at h
    obtain ⟨c1, c2, c3, c4⟩ := hc
    have hs := copy_sound hcp c1 c2
    have r1 := numOf_nonneg _ _ (num_pair _ c1)
    have r2 := numOf_nonneg _ _ (num_pair _ c2)
    have hp : printGo false (ps ++ [⟨(numOf (wdOf (wordsOf x.f0) 1)).1, (numOf (wdOf (wordsOf x.f0) 2)).1, []⟩]) [] = (acc ++ (x.f0.data.toList ++ [10]), 0) :=
     (print_snoc _ _ ps false []).2 ⟨acc, _, h2, partL_copy _ _ _ r1.1 r1.2 (show 0 < (numOf (wdOf (wordsOf x.f0) 2)).1 by omega) r2.2, by rw [hs]⟩
    obtain ⟨a1, a2, a3⟩ := read_sound l _ false false _ d (by rw [lastIt_snoc]; rfl) (fun e => by cases e) hp (fun e => by cases e) h
    refine ⟨by rw [parsedGo, if_pos hcp]; simpa using a1, ?_, hall a3⟩
    rw [a2, joinL_cons, c4]
    simp
   ·
    rw [if_neg hc] at h; cases h
  rw [if_neg hcp] at h
  cases hr : refRes x.f0 with
  | none => rw [hr] at h; cases h
  | some y =>
   rw [hr] at h
   obtain ⟨s1, s2, s3, s4⟩ := ref_sound _ _ hr
   obtain ⟨i1, i2, i3⟩ := item_is s1
   have hit : isTaken x.f0 = true ∧ itemTaken x.f0 = y := by unfold isTaken itemTaken; rw [s2]; exact ⟨rfl, rfl⟩
   have hline : lineL y = x.f0.data.toList ++ [10] := by rw [s1, lineT_end]
   by_cases hc : it = true ∧ nx = false
   ·
    have h' : refGo l (refIn ps y) true false = some d := by simpa [hc] using h
    obtain ⟨qs, m, rfl, hm⟩ := h1 hc.1
    rw [refIn_snoc] at h'
    obtain ⟨a, s, p1, p2, p3⟩ := (print_snoc _ _ qs false []).1 h2
    have hp : printGo false (qs ++ [⟨0, 0, m ++ [y]⟩]) [] = (acc ++ (x.f0.data.toList ++ [10]), 0) := by
     refine (print_snoc _ _ qs false []).2 ⟨a, s ++ lineL y, p1, ?_, by rw [p3, hline, List.append_assoc]⟩
     cases m with
     | nil => exact absurd rfl hm
     | cons z m =>
      rw [partL_items] at p2
      rw [List.cons_append, partL_items]
      exact linesGo_snoc y s3 (z :: m) _ _ p2
    obtain ⟨a1, a2, a3⟩ := read_sound l _ true false _ d (by rw [lastIt_snoc]; simp) (fun _ => ⟨qs, _, rfl, by simp⟩) hp (fun e => by cases e) h'
    refine ⟨?_, ?_, hall a3⟩
    ·
     rw [parsedGo, if_neg i1, if_neg i2, if_pos hit.1, hit.2, hc.1, hc.2]
     simpa [inP_snoc] using a1
    ·
     rw [a2, joinL_cons, hc.2]
     simp
   ·
    have h' : refGo l (ps ++ [⟨0, 0, [y]⟩]) true false = some d := by simpa [hc] using h
    have hop : (it && !nx) = false := by
     cases it <;> cases nx <;> simp at hc ⊢
    have hnx : nx = it := by
     cases it <;> cases nx <;> simp at hc h3 ⊢
    have hp : printGo false (ps ++ [⟨0, 0, [y]⟩]) [] = (acc ++ ((if nx = true then [110, 101, 120, 116, 10] else []) ++ (x.f0.data.toList ++ [10])), 0) := by
     refine (print_snoc _ _ ps false []).2 ⟨acc, _, h2, ?_, rfl⟩
     rw [partL_items, lastOf_false, ← h0, ← hnx, linesGo, if_pos s3, linesGo, hline]
    obtain ⟨a1, a2, a3⟩ := read_sound l _ true false _ d (by rw [lastIt_snoc]; simp) (fun _ => ⟨ps, _, rfl, by simp⟩) hp (fun e => by cases e) h'
    refine ⟨?_, ?_, hall a3⟩
    ·
     rw [parsedGo, if_neg i1, if_neg i2, if_pos hit.1, hit.2, hop, if_neg (by decide), inP, if_neg (by decide)]
     simpa using a1
    ·
     rw [a2, joinL_cons]
     simp
end Go.Proofs.YthppicgolkpbaaaDoor.P

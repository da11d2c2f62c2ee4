/- a delta's text, read back by the reference, is the delta; bounds on what the program's parsed tells -/
import Derived.Test.YthppicgolkpbaaaDoorDeltaParsesHDReads
namespace Go.Proofs.YthppicgolkpbaaaDoor.P
open Go.RowKit Go.Proofs.YthppicgolkpbaaaDoorW.PrintWords Go.Proofs.YthppicgolkpbaaaDoorW.PrintLast Go.Proofs.YthppicgolkpbaaaDoorW.PrintMore
set_option linter.unusedVariables false
set_option linter.unusedSimpArgs false
def lnOf (l : List UInt8) : S39 := ⟨baOf l, false⟩
def copyT (a n : Int) : List UInt8 := [99, 111, 112, 121] ++ 32 :: (decL a ++ 32 :: decL n)
theorem copyT_end (a n : Int) : copyT a n ++ [10] = copyL a n := by unfold copyT copyL; simp
theorem copyT_words (a n : Int) : wordsOf (baOf (copyT a n)) = [baOf [99, 111, 112, 121], baOf (decL a), baOf (decL n)] := by
 unfold wordsOf copyT
 rw [baOf_data, split_head 32 _ _ (by unfold noC; decide), split_head 32 _ _ (fun b h => (dec_byte a b h).1), splitC_out 32 _ (fun b h => (dec_byte n b h).1)]
 rfl
theorem copyT_copy (a n : Int) : isCopy (baOf (copyT a n)) := by
 unfold isCopy
 rw [copyT_words]
 exact ⟨by show (baOf [99, 111, 112, 121]).toList = _; rw [toList_data, baOf_data], rfl⟩
theorem copyT_next (a n : Int) : ¬ (baOf (copyT a n)).data.toList = nextT := by
 intro h
 have := congrArg List.head? h
 simp [copyT, nextT, baOf_data] at this
def noNl (l : List UInt8) : Prop := ∀ b ∈ l, b ≠ 10
theorem copyT_nl (a n : Int) : noNl (copyT a n) := by
 intro b hb
 unfold copyT at hb
 rcases List.mem_append.1 hb with h | h
 ·
  exact (show ∀ c ∈ ([99, 111, 112, 121] : List UInt8), c ≠ 10 by decide) b h
 ·
  rcases List.mem_cons.1 h with rfl | h
  ·
   decide
  ·
   rcases List.mem_append.1 h with h | h
   ·
    exact (dec_byte a b h).2
   ·
    rcases List.mem_cons.1 h with rfl | h
    ·
     decide
    ·
     exact (dec_byte n b h).2
theorem lineT_nl (x : S41) (h : hasNl x.f3.f0 = false) : noNl (lineT x) := by
 intro b hb
 unfold lineT at hb
 rcases List.mem_append.1 hb with h1 | h1
 ·
  exact (show ∀ c ∈ ([105, 116, 101, 109] : List UInt8), c ≠ 10 by decide) b h1
 rcases List.mem_cons.1 h1 with rfl | h1
 ·
  decide
 rcases List.mem_append.1 h1 with h1 | h1
 ·
  exact (dec_byte _ b h1).2
 rcases List.mem_cons.1 h1 with rfl | h1
 ·
  decide
 rcases List.mem_append.1 h1 with h1 | h1
 ·
  exact (lab_byte _ _ b h1).2
 rcases List.mem_cons.1 h1 with rfl | h1
 ·
  decide
 rcases List.mem_append.1 h1 with h1 | h1
 ·
  exact (kind_byte _ _ b h1).2
 rcases List.mem_cons.1 h1 with rfl | h1
 ·
  decide
 rintro rfl
 have := (hasNl_mem x.f3.f0).2 h1
 rw [h] at this
 cases this
theorem linesGo_out : ∀ (l : List S41) (acc b : List UInt8), linesGo l acc = (b, 0) → (∀ x ∈ l, checkOf x = 0) ∧ b = acc ++ (l.map lineL).flatten
 | [], acc, b, h => by
  injection h with h _
  exact ⟨fun x hx => (by cases hx), by simp [h]⟩
 | x :: l, acc, b, h => by
  rw [linesGo] at h
  by_cases hc : checkOf x = 0
  ·
   rw [if_pos hc] at h
   obtain ⟨h1, h2⟩ := linesGo_out l _ _ h
   refine ⟨fun y hy => ?_, by rw [h2]; simp⟩
   rcases List.mem_cons.1 hy with rfl | hy
   ·
    exact hc
   ·
    exact h1 y hy
  ·
   rw [if_neg hc] at h
   injection h with _ h
   exact absurd h hc
def partLines (p : S27) (nx : Bool) : List (List UInt8) := if 0 < p.f1 then [copyT p.f0 p.f1] else (if nx = true then [nextT] else []) ++ p.f2.map lineT
def allLines : Bool → List S27 → List (List UInt8)
 | _, [] => []
 | nx, p :: d => partLines p nx ++ allLines (decide (0 < p.f2.length)) d
def endAll (l : List (List UInt8)) : List UInt8 := (l.map (· ++ [10])).flatten
theorem part_out (p : S27) (nx : Bool) (b : List UInt8) (h : partL p.f0 p.f1 p.f2 nx = (b, 0)) :
  b = endAll (partLines p nx) ∧ ((0 < p.f1 ∧ p.f1 ≤ 2147483647 ∧ 0 ≤ p.f0 ∧ p.f0 ≤ 2147483647 ∧ p.f2 = []) ∨ (p.f1 = 0 ∧ p.f0 = 0 ∧ ¬ p.f2 = [] ∧ ∀ x ∈ p.f2, checkOf x = 0)) := by
 unfold partL at h
 by_cases hw : wrongOf p.f0 p.f1 p.f2.length = 0
 case neg =>
  rw [if_pos hw] at h
  injection h with _ h
  exact absurd h hw
 rw [if_neg (fun e => e hw)] at h
 have hg := hw
 unfold wrongOf at hg
 by_cases g1 : (p.f1 = 0 ∧ p.f2.length = 0) ∨ (¬ p.f1 = 0 ∧ ¬ p.f2.length = 0)
 ·
  rw [if_pos g1] at hg; cases hg
 rw [if_neg g1] at hg
 by_cases g2 : p.f0 < 0
 ·
  rw [if_pos g2] at hg; cases hg
 rw [if_neg g2] at hg
 by_cases g3 : p.f1 < 0
 ·
  rw [if_pos g3] at hg; cases hg
 rw [if_neg g3] at hg
 by_cases g4 : ¬ p.f2.length = 0 ∧ ¬ p.f0 = 0
 ·
  rw [if_pos g4] at hg; cases hg
 clear hg hw
 by_cases h1 : 2147483647 < p.f0
 ·
  rw [if_pos h1] at h; cases h
 rw [if_neg h1] at h
 by_cases h2 : 2147483647 < p.f1
 ·
  rw [if_pos h2] at h; cases h
 rw [if_neg h2] at h
 by_cases h3 : 0 < p.f1
 ·
  rw [if_pos h3] at h
  injection h with h _
  refine ⟨?_, .inl ⟨h3, by omega, by omega, by omega, List.length_eq_zero_iff.1 (by omega)⟩⟩
  unfold partLines endAll
  rw [if_pos h3, ← h, ← copyT_end]
  simp
 ·
  rw [if_neg h3] at h
  obtain ⟨q1, q2⟩ := linesGo_out _ _ _ h
  have hl : ¬ p.f2.length = 0 := by omega
  refine ⟨?_, .inr ⟨by omega, by omega, fun e => hl (by rw [e]; rfl), q1⟩⟩
  unfold partLines endAll
  rw [if_neg h3, q2]
  have e : (p.f2.map lineL).flatten = (p.f2.map fun x => lineT x ++ [10]).flatten := by
   congr 1
   exact List.map_congr_left fun x _ => (lineT_end x).symm
  rw [e]
  cases nx <;> simp [nextT, Function.comp_def]
def partFit (p : S27) : Prop := (0 < p.f1 ∧ p.f1 ≤ 2147483647 ∧ 0 ≤ p.f0 ∧ p.f0 ≤ 2147483647 ∧ p.f2 = []) ∨ (p.f1 = 0 ∧ p.f0 = 0 ∧ ¬ p.f2 = [] ∧ ∀ x ∈ p.f2, checkOf x = 0)
theorem print_out : ∀ (d : List S27) (nx : Bool) (acc b : List UInt8), printGo nx d acc = (b, 0) → b = acc ++ endAll (allLines nx d) ∧ ∀ p ∈ d, partFit p
 | [], nx, acc, b, h => by
  injection h with h _
  exact ⟨by simp [allLines, endAll, h], fun p hp => by cases hp⟩
 | p :: d, nx, acc, b, h => by
  rw [printGo] at h
  by_cases he : (partL p.f0 p.f1 p.f2 nx).2 = 0
  ·
   rw [if_pos he] at h
   obtain ⟨h1, h2⟩ := print_out d _ _ _ h
   obtain ⟨p1, p2⟩ := part_out p nx (partL p.f0 p.f1 p.f2 nx).1 (by rw [← he])
   refine ⟨?_, fun q hq => ?_⟩
   ·
    rw [h1, p1, allLines]
    simp [endAll]
   ·
    rcases List.mem_cons.1 hq with rfl | hq
    ·
     exact p2
    ·
     exact h2 q hq
  ·
   rw [if_neg he] at h
   injection h with _ h
   exact absurd h he
theorem lines_nl : ∀ (d : List S27) (nx : Bool), (∀ p ∈ d, partFit p) → ∀ l ∈ allLines nx d, noNl l
 | [], nx, h, l, hl => by cases hl
 | p :: d, nx, h, l, hl => by
  rw [allLines] at hl
  rcases List.mem_append.1 hl with hl | hl
  ·
   unfold partLines at hl
   by_cases h1 : 0 < p.f1
   ·
    rw [if_pos h1] at hl
    rw [List.mem_singleton.1 hl]
    exact copyT_nl _ _
   ·
    rw [if_neg h1] at hl
    rcases List.mem_append.1 hl with hl | hl
    ·
     cases nx with
     | false => cases hl
     | true =>
      rw [if_pos rfl] at hl
      rw [List.mem_singleton.1 hl]
      unfold noNl nextT
      decide
    ·
     obtain ⟨x, hx, rfl⟩ := List.mem_map.1 hl
     rcases h p (by simp) with hp | hp
     ·
      exact absurd hp.1 h1
     ·
      exact lineT_nl x (check_zero (hp.2.2.2 x hx)).2.2.2.2.1
  ·
   exact lines_nl d _ (fun q hq => h q (by simp [hq])) l hl
theorem read_items : ∀ (xs : List S41) (pre : List S41) (L : List S39) (ps : List S27), (∀ x ∈ xs, checkOf x = 0 ∧ catsFit x) →
  refGo ((xs.map lineT).map lnOf ++ L) (ps ++ [⟨0, 0, pre⟩]) true false = refGo L (ps ++ [⟨0, 0, pre ++ xs⟩]) true false
 | [], pre, L, ps, h => by simp
 | x :: xs, pre, L, ps, h => by
  have hx := h x (by simp)
  have hr := ref_complete x hx.2 hx.1
  have hi := item_is (s := baOf (lineT x)) (x := x) rfl
  have e : (((x :: xs).map lineT).map lnOf ++ L) = lnOf (lineT x) :: ((xs.map lineT).map lnOf ++ L) := rfl
  rw [e, refGo]
  unfold lnOf
  rw [if_neg Bool.false_ne_true, if_neg hi.2.2, if_neg hi.1]
  simp only
  rw [hr]
  simp only
  rw [if_pos ⟨trivial, trivial⟩, refIn_snoc]
  have ih := read_items xs (pre ++ [x]) L ps (fun y hy => h y (by simp [hy]))
  unfold lnOf at ih
  rw [ih]
  simp
theorem read_back : ∀ (d : List S27) (nx : Bool) (L : List S39) (ps : List S27), (∀ p ∈ d, partFit p ∧ ∀ x ∈ p.f2, catsFit x) → refGo ((allLines nx d).map lnOf ++ L) ps nx false = refGo L (ps ++ d) (lastOf nx d) false
 | [], nx, L, ps, h => by simp [allLines, lastOf]
 | p :: d, nx, L, ps, h => by
  have hp := h p (by simp)
  have ih := read_back d (decide (0 < p.f2.length)) L (ps ++ [p]) (fun q hq => h q (by simp [hq]))
  rw [allLines, List.map_append, List.append_assoc, lastOf]
  have e0 : ps ++ p :: d = (ps ++ [p]) ++ d := by simp
  rw [e0, ← ih]
  generalize (allLines (decide (0 < p.f2.length)) d).map lnOf ++ L = M
  rcases hp.1 with ⟨c1, c2, c3, c4, c5⟩ | ⟨c1, c2, c3, c4⟩
  ·
   unfold partLines
   rw [if_pos c1, c5]
   have hn1 : numOf (baOf (decL p.f0)) = (p.f0, true) := num_decL p.f0 c3 c4
   have hn2 : numOf (baOf (decL p.f1)) = (p.f1, true) := num_decL p.f1 (by omega) c2
   show refGo (lnOf (copyT p.f0 p.f1) :: M) ps nx false = _
   rw [refGo]
   unfold lnOf
   rw [if_neg Bool.false_ne_true, if_neg (copyT_next _ _), if_pos (copyT_copy _ _), copyT_words]
   have w1 : wdOf [baOf [99, 111, 112, 121], baOf (decL p.f0), baOf (decL p.f1)] 1 = baOf (decL p.f0) := rfl
   have w2 : wdOf [baOf [99, 111, 112, 121], baOf (decL p.f0), baOf (decL p.f1)] 2 = baOf (decL p.f1) := rfl
   rw [w1, w2, hn1, hn2]
   simp only
   rw [if_pos ⟨trivial, trivial, by omega, trivial⟩]
   have : p = ⟨p.f0, p.f1, []⟩ := by rw [← c5]
   rw [← this]
   rfl
  ·
   unfold partLines
   rw [if_neg (by omega)]
   obtain ⟨y, ys, hy⟩ : ∃ y ys, p.f2 = y :: ys := by
    cases hf : p.f2 with
    | nil => exact absurd hf c3
    | cons y ys => exact ⟨y, ys, rfl⟩
   have hpe : p = ⟨0, 0, y :: ys⟩ := by cases p; simp only at c1 c2 hy; rw [c1, c2, hy]
   have hck := c4 y (by rw [hy]; simp)
   have hct := hp.2 y (by rw [hy]; simp)
   have hr := ref_complete y hct hck
   have hi := item_is (s := baOf (lineT y)) (x := y) rfl
   have hrest := read_items ys [y] M ps (fun x hx => ⟨c4 x (by rw [hy]; simp [hx]), hp.2 x (by rw [hy]; simp [hx])⟩)
   have hlen : decide (0 < p.f2.length) = true := by rw [hy]; simp
   have first : ∀ it nx' : Bool, ¬ (it = true ∧ nx' = false) → refGo (lnOf (lineT y) :: ((ys.map lineT).map lnOf ++ M)) ps it nx' = refGo M (ps ++ [p]) true false := by
    intro it nx' hh
    rw [refGo]
    unfold lnOf at hrest ⊢
    rw [if_neg Bool.false_ne_true, if_neg hi.2.2, if_neg hi.1]
    simp only
    rw [hr]
    simp only
    rw [if_neg hh, hrest, hpe]
    rfl
   rw [hlen, hy]
   cases nx with
   | false =>
    rw [if_neg (by decide)]
    exact first false false (by simp)
   | true =>
    rw [if_pos rfl]
    show refGo (lnOf nextT :: (lnOf (lineT y) :: ((ys.map lineT).map lnOf ++ M))) ps true false = _
    rw [refGo]
    have e1 : (lnOf nextT).f1 = false := rfl
    have e2 : (lnOf nextT).f0.data.toList = nextT := rfl
    rw [e1, if_neg (by decide), if_pos e2, if_pos ⟨rfl, rfl⟩]
    exact first true true (by simp)
theorem join_lines : ∀ ls : List (List UInt8), joinOf (ls.map lnOf) = bytesL (endAll ls)
 | [] => rfl
 | l :: ls => by
  rw [List.map_cons, joinOf, join_lines ls]
  have : nlOf (lnOf l) (ls.map lnOf) = [10] := by unfold nlOf lnOf; rw [if_neg Bool.false_ne_true]
  rw [this]
  simp [endAll, bytesL, lnOf, bytesOf, baOf_data]
theorem right_nl : ∀ ls : List (List UInt8), (∀ l ∈ ls, noNl l) → rightOf (ls.map lnOf) = true
 | [], _ => rfl
 | l :: ls, h => by
  rw [List.map_cons, rightOf]
  have h1 : ¬ 0 ≤ Lib.indexByte (lnOf l).f0.data.toList 10 := by
   intro e
   rw [indexByte_mem] at e
   exact h l (by simp) 10 e rfl
  rw [if_neg h1, if_neg (show ¬ (lnOf l).f1 = true from Bool.false_ne_true)]
  exact right_nl ls (fun x hx => h x (by simp [hx]))
theorem print_read (d : List S27) (b : List UInt8) (h : printGo false d [] = (b, 0)) (hc : ∀ p ∈ d, ∀ x ∈ p.f2, catsFit x) : refGo (linesOf (bytesL b)) [] false false = some d ∧ linesOf (bytesL b) = (allLines false d).map lnOf := by
 obtain ⟨h1, h2⟩ := print_out d false [] b h
 rw [List.nil_append] at h1
 have hl : linesOf (bytesL b) = (allLines false d).map lnOf := by
  rw [h1, ← join_lines]
  exact lines_back _ (right_nl _ (lines_nl d false h2))
 refine ⟨?_, hl⟩
 rw [hl]
 have := read_back d false [] [] (fun p hp => ⟨h2 p hp, hc p hp⟩)
 rw [List.append_nil, List.nil_append] at this
 rw [this, refGo, if_neg (by decide)]
theorem str_inj (a : List Int) (ha : ∀ z ∈ a, 0 ≤ z ∧ z < 256) : bytesOf (strOfNums a) = a := by
 have h1 : (strOfNums a).data.toList = a.map fun z => UInt8.ofNat z.toNat := by simp [strOfNums]
 unfold bytesOf
 rw [h1, List.map_map]
 conv => rhs; rw [← List.map_id a]
 refine List.map_congr_left fun z hz => ?_
 have := ha z hz
 have h2 : (UInt8.ofNat z.toNat).toNat = z.toNat := by rw [UInt8.toNat_ofNat']; omega
 simp only [Function.comp, id, h2]
 omega
theorem join_bytes : ∀ l : List S39, (∀ x ∈ l, x.f1 = false) → joinOf l = bytesL (joinL l)
 | [], _ => rfl
 | x :: l, h => by
  have e : nlOf x l = [10] := by unfold nlOf; rw [h x (by simp), if_neg (by decide)]
  rw [joinOf, e, joinL_cons, join_bytes l (fun y hy => h y (by simp [hy]))]
  simp [bytesL, bytesOf]
theorem bytesL_fit (l : List UInt8) : ∀ z ∈ bytesL l, 0 ≤ z ∧ z < 256 := by
 intro z hz
 obtain ⟨b, _, rfl⟩ := List.mem_map.1 hz
 have := b.toNat_lt
 omega
def goParse (l : List Int) : List S27 × Int := if (printGo false (parsedGo (linesOf l) [] false) []).2 = 0 ∧ bytesL (printGo false (parsedGo (linesOf l) [] false) []).1 = l then (parsedGo (linesOf l) [] false, 0) else ([], 3)
theorem taken_cats (s : ByteArray) (h : isTaken s = true) : catsFit (itemTaken s) := by
 unfold isTaken at h
 unfold catsFit itemTaken
 unfold takenRes at h ⊢
 by_cases h5 : (piecesOf s).length < 5
 ·
  rw [if_pos h5] at h; cases h
 ·
  rw [if_neg h5] at h ⊢
  simp only [Bool.and_eq_true] at h
  obtain ⟨Z, hZ, _, _, z2, _⟩ := labRead_sound (wdOf (piecesOf s) 2) (labRead (wdOf (piecesOf s) 2)).1 (labRead (wdOf (piecesOf s) 2)).2.1 (by rw [← h.2])
  simp only
  omega
theorem taken_size (s : ByteArray) : (itemTaken s).f3.f0.size ≤ s.size := by
 unfold itemTaken takenRes
 by_cases h5 : (piecesOf s).length < 5
 ·
  rw [if_pos h5]; exact Nat.zero_le _
 ·
  rw [if_neg h5]; exact piece_size s 4
def lineRoom (l : List S39) : Nat := (l.map fun x => x.f0.size + 1800).sum
theorem roomP_snoc (ps : List S27) (q : S27) : roomP (ps ++ [q]) = roomP ps + (roomL q.f2 + 1000) := by simp [roomP]
theorem roomL_snoc (l : List S41) (x : S41) : roomL (l ++ [x]) = roomL l + (x.f3.f0.size + 800) := by simp [roomL]
theorem parsed_fit : ∀ (l : List S39) (ps : List S27) (op : Bool), (op = true → ps ≠ []) → (∀ p ∈ ps, ∀ x ∈ p.f2, catsFit x) → roomP (parsedGo l ps op) ≤ roomP ps + lineRoom l ∧ ∀ p ∈ parsedGo l ps op, ∀ x ∈ p.f2, catsFit x
 | [], ps, op, hop, hc => ⟨by simp [parsedGo, lineRoom], by rw [parsedGo]; exact hc⟩
 | x :: l, ps, op, hop, hc => by
  have hr : lineRoom (x :: l) = x.f0.size + 1800 + lineRoom l := by simp [lineRoom]
  rw [parsedGo, hr]
  by_cases h1 : isCopy x.f0
  ·
   rw [if_pos h1]
   obtain ⟨a, b⟩ := parsed_fit l (ps ++ [⟨(numOf (wdOf (wordsOf x.f0) 1)).1, (numOf (wdOf (wordsOf x.f0) 2)).1, []⟩]) false (fun e => by cases e) (fun p hp => by
    rcases List.mem_append.1 hp with hp | hp
    ·
     exact hc p hp
    ·
     rw [List.mem_singleton.1 hp]; intro y hy; cases hy)
   rw [roomP_snoc] at a
   have : roomL ([] : List S41) = 0 := rfl
   simp only [this] at a
   exact ⟨by omega, b⟩
  rw [if_neg h1]
  by_cases h2 : isNext x.f0
  ·
   rw [if_pos h2]
   obtain ⟨a, b⟩ := parsed_fit l ps false (fun e => by cases e) hc
   exact ⟨by omega, b⟩
  rw [if_neg h2]
  by_cases h3 : isTaken x.f0 = true
  ·
   rw [if_pos h3]
   have hct := taken_cats x.f0 h3
   have hsz := taken_size x.f0
   cases op with
   | true =>
    obtain ⟨qs, q, rfl⟩ := parts_last (hop rfl)
    rw [if_pos rfl, inP_snoc]
    obtain ⟨a, b⟩ := parsed_fit l (qs ++ [⟨q.f0, q.f1, q.f2 ++ [itemTaken x.f0]⟩]) true (fun _ => by simp) (fun p hp => by
     rcases List.mem_append.1 hp with hp | hp
     ·
      exact hc p (by simp [hp])
     ·
      rw [List.mem_singleton.1 hp]
      intro y hy
      rcases List.mem_append.1 hy with hy | hy
      ·
       exact hc q (by simp) y hy
      ·
       rw [List.mem_singleton.1 hy]; exact hct)
    rw [roomP_snoc, roomL_snoc] at a
    rw [roomP_snoc]
    refine ⟨Nat.le_trans a ?_, b⟩
    generalize (itemTaken x.f0).f3.f0.size = z at hsz ⊢
    generalize x.f0.size = z2 at hsz ⊢
    generalize roomP qs = A
    generalize roomL q.f2 = B
    generalize lineRoom l = C
    omega
   | false =>
    rw [if_neg (by decide), inP, if_neg (by decide)]
    obtain ⟨a, b⟩ := parsed_fit l (ps ++ [⟨0, 0, [itemTaken x.f0]⟩]) true (fun _ => by simp) (fun p hp => by
     rcases List.mem_append.1 hp with hp | hp
     ·
      exact hc p hp
     ·
      rw [List.mem_singleton.1 hp]
      intro y hy
      rw [List.mem_singleton.1 hy]; exact hct)
    rw [roomP_snoc] at a
    have : roomL [itemTaken x.f0] = (itemTaken x.f0).f3.f0.size + 800 := by simp [roomL]
    simp only [this] at a
    exact ⟨by omega, b⟩
  ·
   rw [if_neg h3]
   exact ⟨by simp [roomP], fun p hp => by cases hp⟩
theorem parse_same (l : List Int) (hl : ∀ z ∈ l, 0 ≤ z ∧ z < 256) : goParse l = match refGo (linesOf l) [] false false with
  | none => ([], 3)
  | some d => (d, 0) := by
 cases h : refGo (linesOf l) [] false false with
 | some d =>
  obtain ⟨a1, a2, a3⟩ := read_sound (linesOf l) [] false false [] d rfl (fun e => by cases e) rfl (fun e => by cases e) h
  simp only [Bool.false_and, if_neg Bool.false_ne_true, List.nil_append] at a1 a2
  have e : bytesL (joinL (linesOf l)) = l := by
   have h1 := back_join l
   rw [join_bytes _ a3] at h1
   rw [← str_inj (bytesL (joinL (linesOf l))) (bytesL_fit _), h1, str_inj l hl]
  unfold goParse
  rw [a1, a2]
  simp only
  rw [if_pos ⟨trivial, e⟩]
 | none =>
  unfold goParse
  rw [if_neg]
  rintro ⟨h1, h2⟩
  have hp : printGo false (parsedGo (linesOf l) [] false) [] = ((printGo false (parsedGo (linesOf l) [] false) []).1, 0) := by rw [← h1]
  obtain ⟨p1, _⟩ := print_read _ _ hp (parsed_fit (linesOf l) [] false (fun e => by cases e) (fun p hp => by cases hp)).2
  rw [h2, h] at p1
  cases p1
end Go.Proofs.YthppicgolkpbaaaDoor.P

/- requests and responses as bytes: what is right, what is printed, what is read; and how these go together -/
import Derived.Test.YthaimkdnddmokaaDoorWireBackHLabelRead
import Derived.Test.YthaimkdnddmokaaDoorWireBackGHEqLabel
import Derived.Test.YthaimkdnddmokaaDoorWireBackGHNumBack
import Derived.Test.YthaimkdnddmokaaDoorWireBackGHLineLaws
import Derived.Test.YthaimkdnddmokaaDoorWireBackGHLabelText
namespace Go.Proofs.YthaimkdnddmokaaDoor.P
open Go.RowKit Go.Proofs.YthaimkdnddmokaaDoorW.PrintWords Go.Proofs.YthaimkdnddmokaaDoorW.PrintLast Go.Proofs.YthaimkdnddmokaaDoorW.PrintMore
set_option linter.unusedVariables false
set_option linter.unusedSimpArgs false
def verbT : List (List UInt8) := [[108, 105, 115, 116], [108, 111, 103], [99, 97, 116], [108, 97, 98, 101, 108, 115], [100, 105, 102, 102], [112, 114, 101, 118, 105, 101, 119], [115, 117, 98, 109, 105, 116], [97, 117, 100, 105, 116], [105, 110, 103, 101, 115, 116], [101, 120, 112, 111, 114, 116], [114, 97, 110, 107]]
def codeT : List (List UInt8) := [[111, 107], [110, 111, 116, 104, 105, 110, 103], [116, 111, 111, 45, 109, 117, 99, 104], [109, 97, 108, 102, 111, 114, 109, 101, 100], [116, 111, 111, 45, 108, 111, 110, 103], [98, 97, 100, 45, 108, 97, 98, 101, 108], [110, 111, 116, 45, 102, 111, 117, 110, 100], [101, 120, 105, 115, 116, 115], [109, 105, 115, 97, 112, 112, 108, 105, 101, 100], [102, 111, 114, 98, 105, 100, 100, 101, 110], [99, 111, 110, 102, 108, 105, 99, 116], [113, 117, 111, 116, 97], [100, 101, 110, 105, 101, 100], [97, 117, 100, 105, 116, 45, 102, 117, 108, 108], [110, 111, 45, 112, 111, 108, 105, 99, 121]]
def verbL (v : Int) : List UInt8 := if 1 ≤ v ∧ v ≤ 11 then verbT.getD (v.toNat - 1) [] else []
def codeL (e : Int) : List UInt8 := if 0 ≤ e ∧ e ≤ 14 then codeT.getD e.toNat [] else []
/-- what a verb names: a file; how many numbers; a body -/
def formV (v : Int) : Bool × Nat × Bool :=
  if v = 1 ∨ v = 8 then (false, 0, false) else if v = 3 ∨ v = 4 then (true, 1, false) else if v = 5 then (true, 3, false) else if v = 6 ∨ v = 7 then (true, 1, true) else if v = 9 then (true, 0, true) else (true, 0, false)
def okFile (s : ByteArray) : Bool := nameOf s && !decide (s.data.toList = [45])
def okNum (n : Int) (named : Bool) : Bool := decide (n = 0) || (named && (decide (0 < n) && decide (n ≤ 2147483647)))
def checkR (v l : Int) (file : ByteArray) (a b c : Int) (n : Nat) : Int :=
  if verbL v = [] then 3 else if ¬ (0 ≤ l ∧ l ≤ 15) then 3 else if (formV v).1 = true ∧ okFile file = false then 3 else if (formV v).1 = false ∧ ¬ file.size = 0 then 3 else
  if okNum a (decide (1 ≤ (formV v).2.1)) = false then 3 else if okNum b (decide (3 ≤ (formV v).2.1)) = false then 3 else if okNum c (decide (3 ≤ (formV v).2.1)) = false then 3 else if (formV v).2.2 = false ∧ 0 < n then 3 else if 32768 < n then 4 else 0
/-- words with a blank between each two -/
def joinW : List (List UInt8) → List UInt8
  | [] => []
  | [x] => x
  | x :: y :: l => x ++ 32 :: joinW (y :: l)
def wordsR (v l : Int) (c : Nat) (file : ByteArray) (a b d : Int) : List (List UInt8) := [verbL v, labL l c] ++ (if (formV v).1 = true then [file.data.toList] else []) ++ (([a, b, d].take (formV v).2.1).map decL)
def lineR (v l : Int) (c : Nat) (file : ByteArray) (a b d : Int) : List UInt8 := joinW (wordsR v l c file a b d)
def noB (c : UInt8) (l : List UInt8) : Prop := ∀ b ∈ l, b ≠ c
theorem split_join : ∀ ws : List (List UInt8), ws ≠ [] → (∀ w ∈ ws, noB 32 w) → splitC 32 (joinW ws) = ws
  | [], h, _ => absurd rfl h
  | [x], _, h => by rw [joinW, splitC_out 32 x (h x (by simp))]
  | x :: y :: l, _, h => by rw [joinW, splitC_in 32 _ _ (h x (by simp)), split_join (y :: l) (by simp) (fun w hw => h w (by simp [hw]))]
theorem join_split : ∀ (n : Nat) (l : List UInt8), l.length ≤ n → joinW (splitC 32 l) = l
  | n, l, hn => by
    rcases indexByte_cases 32 l with ⟨_, h⟩ | ⟨i, h1, h2, h3⟩
    · rw [h]; rfl
    · have hat := (Lib.indexByte_some h1).1
      rw [List.getElem?_eq_getElem h2] at hat
      have e : l = l.take i ++ 32 :: l.drop (i + 1) := by
        conv => lhs; rw [← List.take_append_drop i l, List.drop_eq_getElem_cons h2]
        rw [Option.some.inj hat]
      cases n with
      | zero => omega
      | succ n =>
        have ih := join_split n (l.drop (i + 1)) (by rw [List.length_drop]; omega)
        have hne := splitC_ne 32 (l.drop (i + 1))
        rw [h3]
        cases hs : splitC 32 (l.drop (i + 1)) with
        | nil => exact absurd hs hne
        | cons y ys =>
          rw [hs] at ih
          rw [joinW, ih]
          exact e.symm
def indexL (x : List UInt8) : List (List UInt8) → Int
  | [] => -1
  | y :: l => if y = x then 0 else if indexL x l = -1 then -1 else indexL x l + 1
theorem indexL_ge (x : List UInt8) : ∀ l, -1 ≤ indexL x l
  | [] => by simp [indexL]
  | y :: l => by
    have := indexL_ge x l
    unfold indexL
    split
    · omega
    · split <;> omega
theorem indexL_at (x : List UInt8) : ∀ (l : List (List UInt8)), ¬ indexL x l = -1 → l.getD (indexL x l).toNat [] = x ∧ (indexL x l).toNat < l.length
  | [], h => absurd rfl h
  | y :: l, h => by
    unfold indexL at h ⊢
    by_cases e : y = x
    · rw [if_pos e]; simpa using e
    · rw [if_neg e] at h ⊢
      by_cases e2 : indexL x l = -1
      · rw [if_pos e2] at h; exact absurd rfl h
      · rw [if_neg e2] at h ⊢
        obtain ⟨h1, h2⟩ := indexL_at x l e2
        have h3 := indexL_ge x l
        have h4 : (indexL x l + 1).toNat = (indexL x l).toNat + 1 := by omega
        rw [h4]
        exact ⟨by simpa using h1, by simp; omega⟩
def verbOf (w : List UInt8) : Int := indexL w verbT + 1
theorem verb_of : ∀ v : Int, 1 ≤ v → v ≤ 11 → verbOf (verbL v) = v := by
  intro v h1 h2
  obtain ⟨n, rfl⟩ : ∃ n : Nat, v = (n : Int) + 1 := ⟨v.toNat - 1, by omega⟩
  have : ∀ n : Nat, n < 11 → verbOf (verbL ((n : Int) + 1)) = (n : Int) + 1 := by decide
  exact this n (by omega)
theorem verb_inv (w : List UInt8) (h : ¬ verbOf w = 0) : verbL (verbOf w) = w ∧ 1 ≤ verbOf w ∧ verbOf w ≤ 11 := by
  unfold verbOf at h ⊢
  have h1 := indexL_ge w verbT
  obtain ⟨h2, h3⟩ := indexL_at w verbT (by omega)
  have h4 : verbT.length = 11 := rfl
  unfold verbL
  rw [if_pos (by omega), show (indexL w verbT + 1).toNat - 1 = (indexL w verbT).toNat by omega]
  exact ⟨h2, by omega, by omega⟩
theorem verb_some (v : Int) : verbL v = [] ↔ ¬ (1 ≤ v ∧ v ≤ 11) := by
  constructor
  · rintro h ⟨h1, h2⟩
    obtain ⟨n, rfl⟩ : ∃ n : Nat, v = (n : Int) + 1 := ⟨v.toNat - 1, by omega⟩
    have : ∀ n : Nat, n < 11 → ¬ verbL ((n : Int) + 1) = [] := by decide
    exact this n (by omega) h
  · intro h; unfold verbL; rw [if_neg h]
theorem verb_byte (v : Int) : ∀ b ∈ verbL v, b ≠ 32 ∧ b ≠ 10 := by
  by_cases h : 1 ≤ v ∧ v ≤ 11
  · obtain ⟨n, rfl⟩ : ∃ n : Nat, v = (n : Int) + 1 := ⟨v.toNat - 1, by omega⟩
    have : ∀ n : Nat, n < 11 → ∀ b ∈ verbL ((n : Int) + 1), b ≠ 32 ∧ b ≠ 10 := by decide
    exact this n (by omega)
  · rw [(verb_some v).2 h]; intro b hb; cases hb
def cutI : List Int → List Int × List Int × Bool
  | [] => ([], [], false)
  | b :: l => if b = 10 then ([], l, true) else (b :: (cutI l).1, (cutI l).2.1, (cutI l).2.2)
theorem cutI_in : ∀ (a l : List Int), (∀ b ∈ a, b ≠ 10) → cutI (a ++ 10 :: l) = (a, l, true)
  | [], l, h => by simp [cutI]
  | x :: a, l, h => by
    rw [List.cons_append, cutI, if_neg (h x (by simp)), cutI_in a l (fun b hb => h b (by simp [hb]))]
theorem cutI_out : ∀ l : List Int, (cutI l).2.2 = true → l = (cutI l).1 ++ 10 :: (cutI l).2.1
  | [], h => by cases h
  | x :: l, h => by
    rw [cutI] at h ⊢
    by_cases e : x = 10
    · rw [if_pos e, e]; rfl
    · rw [if_neg e] at h ⊢
      have ih := cutI_out l h
      simp only [List.cons_append]
      rw [← ih]
def wdW (ws : List ByteArray) (i : Nat) : ByteArray := ws.getD i ByteArray.empty
def wordsW (s : ByteArray) : List ByteArray := (splitC 32 s.data.toList).map baOf
abbrev WFields := Int × Int × Int × ByteArray × Int × Int × Int
abbrev WAns := Int × Int × Int × ByteArray × Int × Int × Int × List Int × Int
def noReq (e : Int) : WAns := (0, 0, 0, ⟨#[]⟩, 0, 0, 0, [], e)
def headW (v : Int) : Nat := if (formV v).1 = true then 3 else 2
def okWords (ws : List ByteArray) (v : Int) : Prop := ¬ ws.length < 2 ∧ ¬ v = 0 ∧ (labRead (wdW ws 1)).2.2 = true ∧ ws.length = headW v + (formV v).2.1 ∧ (1 ≤ (formV v).2.1 → (numOf (wdW ws (headW v))).2 = true) ∧ (3 ≤ (formV v).2.1 → (numOf (wdW ws (headW v + 1))).2 = true ∧ (numOf (wdW ws (headW v + 2))).2 = true)
instance (ws : List ByteArray) (v : Int) : Decidable (okWords ws v) := by unfold okWords; exact inferInstance
def fieldsW (ws : List ByteArray) : Option WFields :=
  if okWords ws (verbOf (wdW ws 0).data.toList) then some (verbOf (wdW ws 0).data.toList, (labRead (wdW ws 1)).1, (labRead (wdW ws 1)).2.1, if (formV (verbOf (wdW ws 0).data.toList)).1 = true then wdW ws 2 else ⟨#[]⟩,
    if 1 ≤ (formV (verbOf (wdW ws 0).data.toList)).2.1 then (numOf (wdW ws (headW (verbOf (wdW ws 0).data.toList)))).1 else 0, if 3 ≤ (formV (verbOf (wdW ws 0).data.toList)).2.1 then (numOf (wdW ws (headW (verbOf (wdW ws 0).data.toList) + 1))).1 else 0, if 3 ≤ (formV (verbOf (wdW ws 0).data.toList)).2.1 then (numOf (wdW ws (headW (verbOf (wdW ws 0).data.toList) + 2))).1 else 0) else none
def endW (r : WFields) (body : List Int) : WAns := if checkR r.1 r.2.1 r.2.2.2.1 r.2.2.2.2.1 r.2.2.2.2.2.1 r.2.2.2.2.2.2 body.length = 0 then (r.1, r.2.1, r.2.2.1, r.2.2.2.1, r.2.2.2.2.1, r.2.2.2.2.2.1, r.2.2.2.2.2.2, body, 0) else noReq (checkR r.1 r.2.1 r.2.2.2.1 r.2.2.2.2.1 r.2.2.2.2.2.1 r.2.2.2.2.2.2 body.length)
def parseW (l : List Int) : WAns := if (cutI l).2.2 = false then noReq 3 else match fieldsW (wordsW (strOfNums (cutI l).1)) with
  | none => noReq 3
  | some r => endW r (cutI l).2.1
def printR (v l : Int) (c : Nat) (file : ByteArray) (a b d : Int) (body : List Int) : List Int × Int := if checkR v l file a b d body.length = 0 then (bytesOf (baOf (lineR v l c file a b d)) ++ 10 :: body, 0) else ([], checkR v l file a b d body.length)
theorem form_cases (v : Int) : formV v = (false, 0, false) ∨ formV v = (true, 1, false) ∨ formV v = (true, 3, false) ∨ formV v = (true, 1, true) ∨ formV v = (true, 0, true) ∨ formV v = (true, 0, false) := by
  unfold formV
  repeat' split
  all_goals simp
theorem ok_num {n : Int} {b : Bool} (h : okNum n b = true) : (b = false → n = 0) ∧ 0 ≤ n ∧ n ≤ 2147483647 := by
  unfold okNum at h
  simp only [Bool.or_eq_true, Bool.and_eq_true, decide_eq_true_eq] at h
  rcases h with h | ⟨h1, h2, h3⟩
  · exact ⟨fun _ => h, by omega, by omega⟩
  · exact ⟨fun e => (by rw [h1] at e; cases e), by omega, h3⟩
theorem check_ok {v l : Int} {file : ByteArray} {a b c : Int} {n : Nat} (h : checkR v l file a b c n = 0) : 1 ≤ v ∧ v ≤ 11 ∧ 0 ≤ l ∧ l ≤ 15 ∧ ((formV v).1 = true → okFile file = true) ∧ ((formV v).1 = false → file.size = 0) ∧ okNum a (decide (1 ≤ (formV v).2.1)) = true ∧ okNum b (decide (3 ≤ (formV v).2.1)) = true ∧ okNum c (decide (3 ≤ (formV v).2.1)) = true := by
  unfold checkR at h
  by_cases h1 : verbL v = []
  · rw [if_pos h1] at h; cases h
  rw [if_neg h1] at h
  have hv : 1 ≤ v ∧ v ≤ 11 := Classical.not_not.1 (fun e => h1 ((verb_some v).2 e))
  by_cases h2 : ¬ (0 ≤ l ∧ l ≤ 15)
  · rw [if_pos h2] at h; cases h
  rw [if_neg h2] at h
  by_cases h3 : (formV v).1 = true ∧ okFile file = false
  · rw [if_pos h3] at h; cases h
  rw [if_neg h3] at h
  by_cases h4 : (formV v).1 = false ∧ ¬ file.size = 0
  · rw [if_pos h4] at h; cases h
  rw [if_neg h4] at h
  by_cases h5 : okNum a (decide (1 ≤ (formV v).2.1)) = false
  · rw [if_pos h5] at h; cases h
  rw [if_neg h5] at h
  by_cases h6 : okNum b (decide (3 ≤ (formV v).2.1)) = false
  · rw [if_pos h6] at h; cases h
  rw [if_neg h6] at h
  by_cases h7 : okNum c (decide (3 ≤ (formV v).2.1)) = false
  · rw [if_pos h7] at h; cases h
  have h2' := Classical.not_not.1 h2
  refine ⟨hv.1, hv.2, h2'.1, h2'.2, fun e => ?_, fun e => ?_, by simpa using h5, by simpa using h6, by simpa using h7⟩
  · cases hf : okFile file with
    | true => rfl
    | false => exact absurd ⟨e, hf⟩ h3
  · exact Classical.not_not.1 (fun hf => h4 ⟨e, hf⟩)
theorem file_byte {s : ByteArray} (h : okFile s = true) : ∀ b ∈ s.data.toList, b ≠ 32 ∧ b ≠ 10 := by
  unfold okFile nameOf at h
  simp only [Bool.and_eq_true, List.all_eq_true] at h
  intro b hb
  have := h.1.1 b hb
  unfold nameB at this
  simp only [Bool.and_eq_true, decide_eq_true_eq] at this
  constructor
  · rintro rfl; have h3 : (32 : UInt8).toNat = 32 := rfl; omega
  · rintro rfl; have h3 : (10 : UInt8).toNat = 10 := rfl; omega
theorem dec_byteW (n : Int) (b : UInt8) (h : b ∈ decL n) : b ≠ 32 ∧ b ≠ 10 := by
  unfold decL decOf at h
  split at h
  · have h1 : b ∈ [(63 : UInt8)] := h
    rw [List.mem_singleton.1 h1]; decide
  · split at h
    · have h1 : b ∈ [(63 : UInt8)] := h
      rw [List.mem_singleton.1 h1]; decide
    · have := decF_sep 10 _ b h
      constructor
      · rintro rfl; have h3 : (32 : UInt8).toNat = 32 := rfl; omega
      · rintro rfl; have h3 : (10 : UInt8).toNat = 10 := rfl; omega
theorem tail_byteW : ∀ (cs : List Int) (g : UInt8), g ≠ 32 ∧ g ≠ 10 → ∀ b ∈ printTail g cs, b ≠ 32 ∧ b ≠ 10
  | [], g, hg, b, h => by cases h
  | c :: cs, g, hg, b, h => by
    rw [printTail] at h
    rcases List.mem_cons.1 h with rfl | h
    · exact hg
    · rcases List.mem_append.1 h with h | h
      · exact dec_byteW c b h
      · exact tail_byteW cs 44 (by decide) b h
theorem lab_byteW (a : Int) (A : Nat) (b : UInt8) (h : b ∈ labL a A) : b ≠ 32 ∧ b ≠ 10 := by
  unfold labL at h
  rcases List.mem_append.1 h with h | h
  · exact dec_byteW a b h
  · exact tail_byteW _ 58 (by decide) b h
theorem words_byte {v l : Int} {c : Nat} {file : ByteArray} {a b d : Int} (hf : (formV v).1 = true → okFile file = true) : ∀ w ∈ wordsR v l c file a b d, ∀ x ∈ w, x ≠ 32 ∧ x ≠ 10 := by
  intro w hw x hx
  unfold wordsR at hw
  rcases List.mem_append.1 hw with hw | hw
  · rcases List.mem_append.1 hw with hw | hw
    · rcases List.mem_cons.1 hw with rfl | hw
      · exact verb_byte v x hx
      · rw [List.mem_singleton.1 hw] at hx
        exact lab_byteW _ _ x hx
    · by_cases e : (formV v).1 = true
      · rw [if_pos e] at hw
        rw [List.mem_singleton.1 hw] at hx
        exact file_byte (hf e) x hx
      · rw [if_neg e] at hw; cases hw
  · obtain ⟨n, _, rfl⟩ := List.mem_map.1 hw
    exact dec_byteW n x hx
theorem join_byte (c : UInt8) (hc : c ≠ 32) : ∀ ws : List (List UInt8), (∀ w ∈ ws, ∀ x ∈ w, x ≠ c) → ∀ x ∈ joinW ws, x ≠ c
  | [], _, x, hx => by cases hx
  | [w], h, x, hx => h w (by simp) x hx
  | w :: y :: l, h, x, hx => by
    rw [joinW] at hx
    rcases List.mem_append.1 hx with hx | hx
    · exact h w (by simp) x hx
    · rcases List.mem_cons.1 hx with rfl | hx
      · exact fun e => hc e.symm
      · exact join_byte c hc (y :: l) (fun u hu => h u (by simp [hu])) x hx
theorem num_decW (c : Int) (h0 : 0 ≤ c) (h1 : c ≤ 2147483647) : numOf (baOf (decL c)) = (c, true) := num_decL c h0 h1
theorem lab_decW (l : Int) (c : Nat) (h0 : 0 ≤ l) (h1 : l ≤ 15) (hc : c < 18446744073709551616) : labRead (baOf (labL l c)) = (l, (c : Int), true) := labRead_lab l c h0 h1 hc
theorem fields_eq (ws : List ByteArray) (v : Int) (hv : verbOf (wdW ws 0).data.toList = v) (h : okWords ws v) : fieldsW ws = some (v, (labRead (wdW ws 1)).1, (labRead (wdW ws 1)).2.1, if (formV v).1 = true then wdW ws 2 else ⟨#[]⟩,
    if 1 ≤ (formV v).2.1 then (numOf (wdW ws (headW v))).1 else 0, if 3 ≤ (formV v).2.1 then (numOf (wdW ws (headW v + 1))).1 else 0, if 3 ≤ (formV v).2.1 then (numOf (wdW ws (headW v + 2))).1 else 0) := by
  subst hv
  unfold fieldsW
  rw [if_pos h]
/-- the words of a right request, read -/
theorem fields_of {v l : Int} {c : Nat} {file : ByteArray} {a b d : Int} {n : Nat} (hc : c < 18446744073709551616) (h : checkR v l file a b d n = 0) : fieldsW ((wordsR v l c file a b d).map baOf) = some (v, l, (c : Int), file, a, b, d) := by
  obtain ⟨v1, v2, l1, l2, hf1, hf2, ha, hb, hd⟩ := check_ok h
  obtain ⟨a1, a2, a3⟩ := ok_num ha
  obtain ⟨b1, b2, b3⟩ := ok_num hb
  obtain ⟨d1, d2, d3⟩ := ok_num hd
  have hv : verbOf (verbL v) = v := verb_of v v1 v2
  have na := num_decW a a2 a3
  have nb := num_decW b b2 b3
  have nd := num_decW d d2 d3
  have nl := lab_decW l c l1 l2 hc
  have hnil : file.size = 0 → (⟨#[]⟩ : ByteArray) = file := by
    intro e
    apply ba_eq
    have : file.data.toList = [] := by rw [← List.length_eq_zero_iff, data_length]; exact e
    rw [this]
  have hself := baOf_self file
  rcases form_cases v with hf | hf | hf | hf | hf | hf
  all_goals
    rw [hf] at hf1 hf2 a1 b1 d1
    simp only [decide_eq_false_iff_not, Nat.not_le] at a1 b1 d1
  · have hw : (wordsR v l c file a b d).map baOf = [baOf (verbL v), baOf (labL l c)] := by unfold wordsR; rw [hf]; rfl
    rw [hw, fields_eq [baOf (verbL v), baOf (labL l c)] v hv ⟨by simp, by omega, by show (labRead (baOf (labL l c))).2.2 = true; rw [nl], by unfold headW; rw [hf]; rfl, fun e => (by rw [hf] at e; cases e), fun e => (by rw [hf] at e; cases e)⟩]
    simp only [hf, show wdW [baOf (verbL v), baOf (labL l c)] 1 = baOf (labL l c) from rfl, nl]
    rw [if_neg (by decide), if_neg (by decide), if_neg (by decide), if_neg (by decide), hnil (hf2 rfl), a1 (by decide), b1 (by decide), d1 (by decide)]
  · have hw : (wordsR v l c file a b d).map baOf = [baOf (verbL v), baOf (labL l c), file, baOf (decL a)] := by unfold wordsR; rw [hf]; simp [hself]
    have hh : headW v = 3 := by unfold headW; rw [hf]; rfl
    have w3 : wdW [baOf (verbL v), baOf (labL l c), file, baOf (decL a)] 3 = baOf (decL a) := rfl
    rw [hw, fields_eq [baOf (verbL v), baOf (labL l c), file, baOf (decL a)] v hv ⟨by simp, by omega, by show (labRead (baOf (labL l c))).2.2 = true; rw [nl], by rw [hh, hf]; rfl, fun _ => (by rw [hh, w3, na]), fun e => (by rw [hf] at e; exact absurd e (by decide))⟩]
    simp only [hf, hh, show wdW [baOf (verbL v), baOf (labL l c), file, baOf (decL a)] 1 = baOf (labL l c) from rfl, show wdW [baOf (verbL v), baOf (labL l c), file, baOf (decL a)] 2 = file from rfl, w3, nl, na]
    rw [if_pos trivial, if_pos (by decide), if_neg (by decide), if_neg (by decide), b1 (by decide), d1 (by decide)]
  · have hw : (wordsR v l c file a b d).map baOf = [baOf (verbL v), baOf (labL l c), file, baOf (decL a), baOf (decL b), baOf (decL d)] := by unfold wordsR; rw [hf]; simp [hself]
    have hh : headW v = 3 := by unfold headW; rw [hf]; rfl
    have w3 : wdW [baOf (verbL v), baOf (labL l c), file, baOf (decL a), baOf (decL b), baOf (decL d)] 3 = baOf (decL a) := rfl
    have w4 : wdW [baOf (verbL v), baOf (labL l c), file, baOf (decL a), baOf (decL b), baOf (decL d)] (3 + 1) = baOf (decL b) := rfl
    have w5 : wdW [baOf (verbL v), baOf (labL l c), file, baOf (decL a), baOf (decL b), baOf (decL d)] (3 + 2) = baOf (decL d) := rfl
    rw [hw, fields_eq [baOf (verbL v), baOf (labL l c), file, baOf (decL a), baOf (decL b), baOf (decL d)] v hv ⟨by simp, by omega, by show (labRead (baOf (labL l c))).2.2 = true; rw [nl], by rw [hh, hf]; rfl, fun _ => (by rw [hh, w3, na]), fun _ => (by rw [hh, w4, w5, nb, nd]; exact ⟨rfl, rfl⟩)⟩]
    simp only [hf, hh, show wdW [baOf (verbL v), baOf (labL l c), file, baOf (decL a), baOf (decL b), baOf (decL d)] 1 = baOf (labL l c) from rfl, show wdW [baOf (verbL v), baOf (labL l c), file, baOf (decL a), baOf (decL b), baOf (decL d)] 2 = file from rfl, w3, w4, w5, nl, na, nb, nd]
    rw [if_pos trivial, if_pos (by decide), if_pos (by decide), if_pos (by decide)]
  · have hw : (wordsR v l c file a b d).map baOf = [baOf (verbL v), baOf (labL l c), file, baOf (decL a)] := by unfold wordsR; rw [hf]; simp [hself]
    have hh : headW v = 3 := by unfold headW; rw [hf]; rfl
    have w3 : wdW [baOf (verbL v), baOf (labL l c), file, baOf (decL a)] 3 = baOf (decL a) := rfl
    rw [hw, fields_eq [baOf (verbL v), baOf (labL l c), file, baOf (decL a)] v hv ⟨by simp, by omega, by show (labRead (baOf (labL l c))).2.2 = true; rw [nl], by rw [hh, hf]; rfl, fun _ => (by rw [hh, w3, na]), fun e => (by rw [hf] at e; exact absurd e (by decide))⟩]
    simp only [hf, hh, show wdW [baOf (verbL v), baOf (labL l c), file, baOf (decL a)] 1 = baOf (labL l c) from rfl, show wdW [baOf (verbL v), baOf (labL l c), file, baOf (decL a)] 2 = file from rfl, w3, nl, na]
    rw [if_pos trivial, if_pos (by decide), if_neg (by decide), if_neg (by decide), b1 (by decide), d1 (by decide)]
  all_goals
    have hw : (wordsR v l c file a b d).map baOf = [baOf (verbL v), baOf (labL l c), file] := by unfold wordsR; rw [hf]; simp [hself]
    have hh : headW v = 3 := by unfold headW; rw [hf]; rfl
    rw [hw, fields_eq [baOf (verbL v), baOf (labL l c), file] v hv ⟨by simp, by omega, by show (labRead (baOf (labL l c))).2.2 = true; rw [nl], by rw [hh, hf]; rfl, fun e => (by rw [hf] at e; exact absurd e (by decide)), fun e => (by rw [hf] at e; exact absurd e (by decide))⟩]
    simp only [hf, hh, show wdW [baOf (verbL v), baOf (labL l c), file] 1 = baOf (labL l c) from rfl, show wdW [baOf (verbL v), baOf (labL l c), file] 2 = file from rfl, nl]
    rw [if_pos trivial, if_neg (by decide), if_neg (by decide), if_neg (by decide), a1 (by decide), b1 (by decide), d1 (by decide)]
theorem line_words {v l : Int} {c : Nat} {file : ByteArray} {a b d : Int} (hf : (formV v).1 = true → okFile file = true) : wordsW (baOf (lineR v l c file a b d)) = (wordsR v l c file a b d).map baOf := by
  unfold wordsW lineR
  rw [baOf_data, split_join _ (by unfold wordsR; simp) (fun w hw x hx => (words_byte hf w hw x hx).1)]
theorem bytes_no (l : List UInt8) (h : ∀ x ∈ l, x ≠ 10) : ∀ b ∈ bytesOf (baOf l), b ≠ 10 := by
  intro b hb
  unfold bytesOf at hb
  rw [baOf_data] at hb
  obtain ⟨x, hx, rfl⟩ := List.mem_map.1 hb
  intro e
  have : x = 10 := by apply UInt8.toNat_inj.1; have h3 : (10 : UInt8).toNat = 10 := rfl; rw [h3]; omega
  exact h x hx this
/-- what is printed of a right request is read as it -/
theorem parse_print {v l : Int} {c : Nat} {file : ByteArray} {a b d : Int} {body : List Int} (hc : c < 18446744073709551616) (h : checkR v l file a b d body.length = 0) : parseW (printR v l c file a b d body).1 = (v, l, (c : Int), file, a, b, d, body, 0) := by
  obtain ⟨_, _, _, _, hf1, _⟩ := check_ok h
  unfold printR
  rw [if_pos h]
  unfold parseW
  simp only
  have hno : ∀ x ∈ lineR v l c file a b d, x ≠ 10 := join_byte 10 (by decide) _ (fun w hw x hx => (words_byte hf1 w hw x hx).2)
  rw [cutI_in _ _ (bytes_no (lineR v l c file a b d) hno)]
  simp only
  rw [if_neg (by decide), str_of_bytes]
  show (match fieldsW (wordsW (baOf (lineR v l c file a b d))) with | none => noReq 3 | some r => endW r body) = _
  rw [line_words hf1, fields_of hc h]
  simp only
  unfold endW
  rw [if_pos h]
theorem str_injW (a : List Int) (ha : ∀ z ∈ a, 0 ≤ z ∧ z < 256) : bytesOf (strOfNums a) = a := by
  have h1 : (strOfNums a).data.toList = a.map fun z => UInt8.ofNat z.toNat := by simp [strOfNums]
  unfold bytesOf
  rw [h1, List.map_map]
  conv => rhs; rw [← List.map_id a]
  refine List.map_congr_left fun z hz => ?_
  have := ha z hz
  have h2 : (UInt8.ofNat z.toNat).toNat = z.toNat := by rw [UInt8.toNat_ofNat']; omega
  simp only [Function.comp, id, h2]
  omega
theorem dec_backW (s : ByteArray) (h : (numOf s).2 = true) : decL (numOf s).1 = s.data.toList := by
  have := dec_numOf s (numOf s).1 (num_pair s h)
  unfold decL
  rw [this]
theorem lab_backW (s : ByteArray) (h : (labRead s).2.2 = true) : ∃ Z : Nat, (labRead s).2.1 = (Z : Int) ∧ Z < 18446744073709551616 ∧ labL (labRead s).1 Z = s.data.toList := by
  obtain ⟨Z, hZ, _, _, z2, hl⟩ := labRead_sound s (labRead s).1 (labRead s).2.1 (by rw [← h])
  refine ⟨Z, hZ, z2, ?_⟩
  have := congrArg (fun z => z.data.toList) hl
  exact this.symm
theorem len2 {α : Type} : ∀ {l : List α}, l.length = 2 → ∃ x y, l = [x, y]
  | [x, y], _ => ⟨x, y, rfl⟩
theorem len3 {α : Type} : ∀ {l : List α}, l.length = 3 → ∃ x y z, l = [x, y, z]
  | [x, y, z], _ => ⟨x, y, z, rfl⟩
theorem len4 {α : Type} : ∀ {l : List α}, l.length = 4 → ∃ x y z u, l = [x, y, z, u]
  | [x, y, z, u], _ => ⟨x, y, z, u, rfl⟩
theorem len6 {α : Type} : ∀ {l : List α}, l.length = 6 → ∃ x y z u p q, l = [x, y, z, u, p, q]
  | [x, y, z, u, p, q], _ => ⟨x, y, z, u, p, q, rfl⟩
/-- words that are read are those of what was read -/
theorem fields_back {ws : List (List UInt8)} {v l c a b d : Int} {file : ByteArray} (h : fieldsW (ws.map baOf) = some (v, l, c, file, a, b, d)) : ∃ Z : Nat, c = (Z : Int) ∧ Z < 18446744073709551616 ∧ wordsR v l Z file a b d = ws := by
  have hw0 : ∀ i, (wdW (ws.map baOf) i).data.toList = ws.getD i [] := by
    intro i
    unfold wdW
    rw [List.getD_eq_getElem?_getD, List.getD_eq_getElem?_getD, List.getElem?_map]
    cases ws[i]? <;> rfl
  unfold fieldsW at h
  by_cases hok : okWords (ws.map baOf) (verbOf (wdW (ws.map baOf) 0).data.toList)
  case neg => rw [if_neg hok] at h; cases h
  rw [if_pos hok] at h
  obtain ⟨o1, o2, o3, o4, o5, o6⟩ := hok
  have hv := verb_inv _ o2
  obtain ⟨Z, z1, z2, z3⟩ := lab_backW _ o3
  generalize hV : verbOf (wdW (ws.map baOf) 0).data.toList = V at h o2 o4 o5 o6 hv
  have h' := Option.some.inj h
  simp only [Prod.mk.injEq] at h'
  obtain ⟨rfl, rfl, rfl, rfl, rfl, rfl, rfl⟩ := h'
  refine ⟨Z, z1, z2, ?_⟩
  unfold wordsR
  rw [hv.1, hw0, z3, hw0]
  rw [List.length_map] at o4
  unfold headW at o4 o5 o6 ⊢
  rcases form_cases V with hf | hf | hf | hf | hf | hf
  all_goals
    rw [hf] at o4 o5 o6 ⊢
    simp only [if_true, if_false, Bool.false_eq_true, Nat.add_zero, Nat.reduceAdd] at o4 o5 o6 ⊢
  · obtain ⟨x, y, rfl⟩ := len2 o4
    rfl
  · obtain ⟨x, y, z, u, rfl⟩ := len4 o4
    have e : decL (numOf (wdW [baOf x, baOf y, baOf z, baOf u] 3)).1 = u := dec_backW _ (o5 (by decide))
    simp only [List.take_succ_cons, List.take_zero, List.map_cons, List.map_nil, Nat.le_refl, if_true, e]
    rfl
  · obtain ⟨x, y, z, u, p, q, rfl⟩ := len6 o4
    have e : decL (numOf (wdW [baOf x, baOf y, baOf z, baOf u, baOf p, baOf q] 3)).1 = u := dec_backW _ (o5 (by decide))
    have e2 : decL (numOf (wdW [baOf x, baOf y, baOf z, baOf u, baOf p, baOf q] 4)).1 = p := dec_backW _ (o6 (by decide)).1
    have e3 : decL (numOf (wdW [baOf x, baOf y, baOf z, baOf u, baOf p, baOf q] 5)).1 = q := dec_backW _ (o6 (by decide)).2
    simp only [List.take_succ_cons, List.take_zero, List.map_cons, List.map_nil, Nat.le_refl, if_true, e, e2, e3, show (1 : Nat) ≤ 3 from by decide]
    rfl
  · obtain ⟨x, y, z, u, rfl⟩ := len4 o4
    have e : decL (numOf (wdW [baOf x, baOf y, baOf z, baOf u] 3)).1 = u := dec_backW _ (o5 (by decide))
    simp only [List.take_succ_cons, List.take_zero, List.map_cons, List.map_nil, Nat.le_refl, if_true, e]
    rfl
  all_goals
    obtain ⟨x, y, z, rfl⟩ := len3 o4
    simp only [List.take_zero, List.map_nil]
    rfl
theorem words_map (s : ByteArray) : wordsW s = (splitC 32 s.data.toList).map baOf := rfl
/-- what is read of bytes is printed as they are -/
theorem print_parse {l : List Int} (hg : ∀ z ∈ l, 0 ≤ z ∧ z < 256) {v lv c a b d : Int} {file : ByteArray} {body : List Int} (h : parseW l = (v, lv, c, file, a, b, d, body, 0)) : ∃ Z : Nat, c = (Z : Int) ∧ Z < 18446744073709551616 ∧ checkR v lv file a b d body.length = 0 ∧ printR v lv Z file a b d body = (l, 0) := by
  unfold parseW at h
  by_cases hm : (cutI l).2.2 = false
  · rw [if_pos hm] at h
    unfold noReq at h
    simp at h
  rw [if_neg hm] at h
  have hl := cutI_out l (by simpa using hm)
  cases hf : fieldsW (wordsW (strOfNums (cutI l).1)) with
  | none =>
    rw [hf] at h
    unfold noReq at h
    simp at h
  | some r =>
    rw [hf] at h
    obtain ⟨v', lv', c', file', a', b', d'⟩ := r
    simp only at h
    unfold endW at h
    by_cases hc : checkR v' lv' file' a' b' d' (cutI l).2.1.length = 0
    · simp only [if_pos hc, Prod.mk.injEq, and_true] at h
      obtain ⟨rfl, rfl, rfl, rfl, rfl, rfl, rfl, rfl⟩ := h
      rw [words_map] at hf
      obtain ⟨Z, z1, z2, hw⟩ := fields_back hf
      refine ⟨Z, z1, z2, hc, ?_⟩
      unfold printR
      rw [if_pos hc]
      unfold lineR
      rw [hw, join_split _ _ (Nat.le_refl _), baOf_self, str_injW _ (fun z hz => hg z (by rw [hl]; simp [hz])), ← hl]
    · exfalso
      simp only [if_neg hc] at h
      unfold noReq at h
      simp only [Prod.mk.injEq] at h
      exact hc h.2.2.2.2.2.2.2.2
/-- a response's bytes, and what is read of bytes -/
def answerW (e : Int) (body : List Int) : List Int := bytesOf (baOf (codeL e)) ++ 10 :: body
end Go.Proofs.YthaimkdnddmokaaDoor.P

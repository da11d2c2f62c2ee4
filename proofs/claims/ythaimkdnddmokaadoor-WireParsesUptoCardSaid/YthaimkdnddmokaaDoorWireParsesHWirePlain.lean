/- requests and responses as bytes: what is right, what is printed, what is read; and how these go together -/
import Derived.Test.YthaimkdnddmokaaDoorWireParsesHLabelRead
import Derived.Test.YthaimkdnddmokaaDoorWireParsesGHEqLabel
import Derived.Test.YthaimkdnddmokaaDoorWireParsesGHNumBack
import Derived.Test.YthaimkdnddmokaaDoorWireParsesHNames
import Derived.Test.YthaimkdnddmokaaDoorWireParsesGHTabs
import Derived.Lib.Hide
import Derived.WalkMore
import Derived.Test.YthaimkdnddmokaaDoorWireParsesHStrings
import Derived.Test.YthaimkdnddmokaaDoorWireParsesHRefWords
namespace Go.Proofs.YthaimkdnddmokaaDoor.P
open Go.RowKit Go.Proofs.YthaimkdnddmokaaDoorW.PrintWords Go.Proofs.YthaimkdnddmokaaDoorW.PrintLast Go.Proofs.YthaimkdnddmokaaDoorW.PrintMore
set_option linter.unusedVariables false
set_option linter.unusedSimpArgs false
def verbT : List (List UInt8) := [[108, 105, 115, 116], [108, 111, 103], [99, 97, 116], [108, 97, 98, 101, 108, 115], [100, 105, 102, 102], [112, 114, 101, 118, 105, 101, 119], [115, 117, 98, 109, 105, 116], [97, 117, 100, 105, 116], [105, 110, 103, 101, 115, 116], [101, 120, 112, 111, 114, 116], [114, 97, 110, 107]]
def codeT : List (List UInt8) := [[111, 107], [110, 111, 116, 104, 105, 110, 103], [116, 111, 111, 45, 109, 117, 99, 104], [109, 97, 108, 102, 111, 114, 109, 101, 100], [116, 111, 111, 45, 108, 111, 110, 103], [98, 97, 100, 45, 108, 97, 98, 101, 108], [110, 111, 116, 45, 102, 111, 117, 110, 100], [101, 120, 105, 115, 116, 115], [109, 105, 115, 97, 112, 112, 108, 105, 101, 100], [102, 111, 114, 98, 105, 100, 100, 101, 110], [99, 111, 110, 102, 108, 105, 99, 116], [113, 117, 111, 116, 97], [100, 101, 110, 105, 101, 100], [97, 117, 100, 105, 116, 45, 102, 117, 108, 108], [110, 111, 45, 112, 111, 108, 105, 99, 121]]
def verbL (v : Int) : List UInt8 := if 1 ≤ v ∧ v ≤ 11 then verbT.getD (v.toNat - 1) [] else []
def codeL (e : Int) : List UInt8 := if 0 ≤ e ∧ e ≤ 14 then codeT.getD e.toNat [] else []
/-- what a verb names: a file; how many numbers; a body -/
def formV (v : Int) : Bool × Nat × Bool :=
  if v = 1 ∨ v = 8 then (false, 0, false) else if v = 3 ∨ v = 4 then (true, 1, false) else if v = 5 then (true, 3, false) else if v = 6 ∨ v = 7 then (true, 1, true) else if v = 9 then (true, 0, true) else (true, 0, false)
def okFile (s : ByteArray) : Bool := nameOf s && !decide (s.data.toList = [45])
def okNum (n : Int) (named : Bool) : Bool := decide (n = 0) || (named && (decide (0 < n) && decide (n ≤ 2147483647)))
def checkR (v l : Int) (file : ByteArray) (a b c : Int) (n : Nat) : Int :=
  if verbL v = [] then 3 else if ¬ (0 ≤ l ∧ l ≤ 15) then 3 else if (formV v).1 = true ∧ okFile file = false then 3 else if (formV v).1 = false ∧ ¬ file.size = 0 then 3 else
  if okNum a (decide (1 ≤ (formV v).2.1)) = false then 3 else if okNum b (decide (3 ≤ (formV v).2.1)) = false then 3 else if okNum c (decide (3 ≤ (formV v).2.1)) = false then 3 else if (formV v).2.2 = false ∧ 0 < n then 3 else if 32768 < n then 4 else 0
def indexL (x : List UInt8) : List (List UInt8) → Int
  | [] => -1
  | y :: l => if y = x then 0 else if indexL x l = -1 then -1 else indexL x l + 1
theorem indexL_ge (x : List UInt8) : ∀ l, -1 ≤ indexL x l
  | [] => by simp [indexL]
  | y :: l => by
    have := indexL_ge x l
    unfold indexL
    split
    · omega
    · split <;> omega
theorem indexL_at (x : List UInt8) : ∀ (l : List (List UInt8)), ¬ indexL x l = -1 → l.getD (indexL x l).toNat [] = x ∧ (indexL x l).toNat < l.length
  | [], h => absurd rfl h
  | y :: l, h => by
    unfold indexL at h ⊢
    by_cases e : y = x
    · rw [if_pos e]; simpa using e
    · rw [if_neg e] at h ⊢
      by_cases e2 : indexL x l = -1
      · rw [if_pos e2] at h; exact absurd rfl h
      · rw [if_neg e2] at h ⊢
        obtain ⟨h1, h2⟩ := indexL_at x l e2
        have h3 := indexL_ge x l
        have h4 : (indexL x l + 1).toNat = (indexL x l).toNat + 1 := by omega
        rw [h4]
        exact ⟨by simpa using h1, by simp; omega⟩
def verbOf (w : List UInt8) : Int := indexL w verbT + 1
theorem verb_of : ∀ v : Int, 1 ≤ v → v ≤ 11 → verbOf (verbL v) = v := by
  intro v h1 h2
  obtain ⟨n, rfl⟩ : ∃ n : Nat, v = (n : Int) + 1 := ⟨v.toNat - 1, by omega⟩
  have : ∀ n : Nat, n < 11 → verbOf (verbL ((n : Int) + 1)) = (n : Int) + 1 := by decide
  exact this n (by omega)
theorem verb_inv (w : List UInt8) (h : ¬ verbOf w = 0) : verbL (verbOf w) = w ∧ 1 ≤ verbOf w ∧ verbOf w ≤ 11 := by
  unfold verbOf at h ⊢
  have h1 := indexL_ge w verbT
  obtain ⟨h2, h3⟩ := indexL_at w verbT (by omega)
  have h4 : verbT.length = 11 := rfl
  unfold verbL
  rw [if_pos (by omega), show (indexL w verbT + 1).toNat - 1 = (indexL w verbT).toNat by omega]
  exact ⟨h2, by omega, by omega⟩
theorem verb_some (v : Int) : verbL v = [] ↔ ¬ (1 ≤ v ∧ v ≤ 11) := by
  constructor
  · rintro h ⟨h1, h2⟩
    obtain ⟨n, rfl⟩ : ∃ n : Nat, v = (n : Int) + 1 := ⟨v.toNat - 1, by omega⟩
    have : ∀ n : Nat, n < 11 → ¬ verbL ((n : Int) + 1) = [] := by decide
    exact this n (by omega) h
  · intro h; unfold verbL; rw [if_neg h]
def cutI : List Int → List Int × List Int × Bool
  | [] => ([], [], false)
  | b :: l => if b = 10 then ([], l, true) else (b :: (cutI l).1, (cutI l).2.1, (cutI l).2.2)
theorem cutI_in : ∀ (a l : List Int), (∀ b ∈ a, b ≠ 10) → cutI (a ++ 10 :: l) = (a, l, true)
  | [], l, h => by simp [cutI]
  | x :: a, l, h => by
    rw [List.cons_append, cutI, if_neg (h x (by simp)), cutI_in a l (fun b hb => h b (by simp [hb]))]
theorem cutI_out : ∀ l : List Int, (cutI l).2.2 = true → l = (cutI l).1 ++ 10 :: (cutI l).2.1
  | [], h => by cases h
  | x :: l, h => by
    rw [cutI] at h ⊢
    by_cases e : x = 10
    · rw [if_pos e, e]; rfl
    · rw [if_neg e] at h ⊢
      have ih := cutI_out l h
      simp only [List.cons_append]
      rw [← ih]
def wdW (ws : List ByteArray) (i : Nat) : ByteArray := ws.getD i ByteArray.empty
def wordsW (s : ByteArray) : List ByteArray := (splitC 32 s.data.toList).map baOf
abbrev WFields := Int × Int × Int × ByteArray × Int × Int × Int
abbrev WAns := Int × Int × Int × ByteArray × Int × Int × Int × List Int × Int
def noReq (e : Int) : WAns := (0, 0, 0, ⟨#[]⟩, 0, 0, 0, [], e)
def headW (v : Int) : Nat := if (formV v).1 = true then 3 else 2
def okWords (ws : List ByteArray) (v : Int) : Prop := ¬ ws.length < 2 ∧ ¬ v = 0 ∧ (labRead (wdW ws 1)).2.2 = true ∧ ws.length = headW v + (formV v).2.1 ∧ (1 ≤ (formV v).2.1 → (numOf (wdW ws (headW v))).2 = true) ∧ (3 ≤ (formV v).2.1 → (numOf (wdW ws (headW v + 1))).2 = true ∧ (numOf (wdW ws (headW v + 2))).2 = true)
instance (ws : List ByteArray) (v : Int) : Decidable (okWords ws v) := by unfold okWords; exact inferInstance
def fieldsW (ws : List ByteArray) : Option WFields :=
  if okWords ws (verbOf (wdW ws 0).data.toList) then some (verbOf (wdW ws 0).data.toList, (labRead (wdW ws 1)).1, (labRead (wdW ws 1)).2.1, if (formV (verbOf (wdW ws 0).data.toList)).1 = true then wdW ws 2 else ⟨#[]⟩,
    if 1 ≤ (formV (verbOf (wdW ws 0).data.toList)).2.1 then (numOf (wdW ws (headW (verbOf (wdW ws 0).data.toList)))).1 else 0, if 3 ≤ (formV (verbOf (wdW ws 0).data.toList)).2.1 then (numOf (wdW ws (headW (verbOf (wdW ws 0).data.toList) + 1))).1 else 0, if 3 ≤ (formV (verbOf (wdW ws 0).data.toList)).2.1 then (numOf (wdW ws (headW (verbOf (wdW ws 0).data.toList) + 2))).1 else 0) else none
def endW (r : WFields) (body : List Int) : WAns := if checkR r.1 r.2.1 r.2.2.2.1 r.2.2.2.2.1 r.2.2.2.2.2.1 r.2.2.2.2.2.2 body.length = 0 then (r.1, r.2.1, r.2.2.1, r.2.2.2.1, r.2.2.2.2.1, r.2.2.2.2.2.1, r.2.2.2.2.2.2, body, 0) else noReq (checkR r.1 r.2.1 r.2.2.2.1 r.2.2.2.2.1 r.2.2.2.2.2.1 r.2.2.2.2.2.2 body.length)
def parseW (l : List Int) : WAns := if (cutI l).2.2 = false then noReq 3 else match fieldsW (wordsW (strOfNums (cutI l).1)) with
  | none => noReq 3
  | some r => endW r (cutI l).2.1
theorem form_cases (v : Int) : formV v = (false, 0, false) ∨ formV v = (true, 1, false) ∨ formV v = (true, 3, false) ∨ formV v = (true, 1, true) ∨ formV v = (true, 0, true) ∨ formV v = (true, 0, false) := by
  unfold formV
  repeat' split
  all_goals simp
theorem fields_eq (ws : List ByteArray) (v : Int) (hv : verbOf (wdW ws 0).data.toList = v) (h : okWords ws v) : fieldsW ws = some (v, (labRead (wdW ws 1)).1, (labRead (wdW ws 1)).2.1, if (formV v).1 = true then wdW ws 2 else ⟨#[]⟩,
    if 1 ≤ (formV v).2.1 then (numOf (wdW ws (headW v))).1 else 0, if 3 ≤ (formV v).2.1 then (numOf (wdW ws (headW v + 1))).1 else 0, if 3 ≤ (formV v).2.1 then (numOf (wdW ws (headW v + 2))).1 else 0) := by
  subst hv
  unfold fieldsW
  rw [if_pos h]
/-- a response's bytes, and what is read of bytes -/
def answerW (e : Int) (body : List Int) : List Int := bytesOf (baOf (codeL e)) ++ 10 :: body
end Go.Proofs.YthaimkdnddmokaaDoor.P

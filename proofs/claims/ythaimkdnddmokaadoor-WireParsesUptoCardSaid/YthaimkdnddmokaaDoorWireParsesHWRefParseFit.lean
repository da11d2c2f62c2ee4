/- jalousieref21.Parse's contract: the request of bytes; condition: at most 4000000000 of them. -/
import Derived.Test.YthaimkdnddmokaaDoorWireParsesHWRefParse
import Derived.Test.YthaimkdnddmokaaDoorWireParsesGHWParseFit
import Derived.Test.YthaimkdnddmokaaDoorWireParsesHLabelText
import Derived.Test.YthaimkdnddmokaaDoorWireParsesHWTells
namespace Go.Proofs.YthaimkdnddmokaaDoor.P
open Go.RowKit Go.Proofs.YthaimkdnddmokaaDoorW.PrintWords Go.Proofs.YthaimkdnddmokaaDoorW.PrintLast Go.Proofs.YthaimkdnddmokaaDoorW.PrintMore
set_option linter.unusedVariables false
set_option linter.unusedSimpArgs false
theorem rparse_end (is : Bool) (ws : List ByteArray) (body : List Int) (V : Int) (hV : verbOf (wdW ws 0).data.toList = V) :
    rparseEnd is ws V (labRead (wdW ws 1)).1 (labRead (wdW ws 1)).2.1 (labRead (wdW ws 1)).2.2 (formV V).1 (formV V).2.1 body = if is = false then noReq 3 else match fieldsW ws with | none => noReq 3 | some r => endW r body := by
  have hk : kW (formV V).1 = headW V := rfl
  unfold rparseEnd
  cases is with
  | false => simp
  | true =>
    rw [if_neg (show ¬ true = false by decide)]
    by_cases hok : okWords ws V
    · rw [fields_eq ws V hV hok]
      have hok' := hok
      obtain ⟨h1, h2, h3, h4, h5, h6⟩ := hok
      rw [if_pos ⟨rfl, by omega, h2, h3, by rw [hk]; exact h4⟩, hk]
      rcases form_cases V with h | h | h | h | h | h
      all_goals
        rw [h] at h4 h5 h6 ⊢
        simp at h5 h6
        simp [numsR, rparseLast, fileW, h5, h6]
    · have hf : fieldsW ws = none := by unfold fieldsW; rw [hV, if_neg hok]
      rw [hf]
      by_cases hc : true = true ∧ 2 ≤ ws.length ∧ ¬ V = 0 ∧ (labRead (wdW ws 1)).2.2 = true ∧ ws.length = kW (formV V).1 + (formV V).2.1
      · rw [if_pos hc, hk]
        obtain ⟨_, h1, h2, h3, h4⟩ := hc
        rw [hk] at h4
        have hno : numsR ws (headW V) (formV V).2.1 0 0 0 0 = none := by
          unfold okWords at hok
          have hh : ¬ ((1 ≤ (formV V).2.1 → (numOf (wdW ws (headW V))).2 = true) ∧ (3 ≤ (formV V).2.1 → (numOf (wdW ws (headW V + 1))).2 = true ∧ (numOf (wdW ws (headW V + 2))).2 = true)) := fun h => hok ⟨by omega, h2, h3, h4, h⟩
          rcases form_cases V with h | h | h | h | h | h
          all_goals
            rw [h] at hh ⊢
            first
              | (simp at hh; done)
              | (simp at hh; simp [numsR]; done)
              | (simp at hh; simp [numsR]; exact hh)
              | (simp at hh; simp [numsR, hh])
              | (simp at hh; simp [numsR]; intro x1 x2; simp_all)
        rw [hno]
        rfl
      · rw [if_neg hc]
theorem form_le (V : Int) : (formV V).2.1 ≤ 3 := by
  rcases form_cases V with h | h | h | h | h | h <;> rw [h] <;> decide
theorem parseW_ref (l0 : List Int) (sv : ByteArray) (body : List Int) (is : Bool) (h : (if (cutI l0).2.2 = true then (strOfNums (cutI l0).1, (cutI l0).2.1, true) else ((⟨#[]⟩ : ByteArray), [], false)) = (sv, body, is)) (V : Int) (hV : verbOf (wdW (wordsW sv) 0).data.toList = V) :
    rparseEnd is (wordsW sv) V (labRead (wdW (wordsW sv) 1)).1 (labRead (wdW (wordsW sv) 1)).2.1 (labRead (wdW (wordsW sv) 1)).2.2 (formV V).1 (formV V).2.1 body = parseW l0 := by
  rw [rparse_end is (wordsW sv) body V hV]
  unfold parseW
  by_cases hc : (cutI l0).2.2 = true
  · rw [if_pos hc] at h
    injection h with h1 h2
    injection h2 with h2 h3
    subst h1 h2 h3
    rw [hc]
    rfl
  · rw [if_neg hc] at h
    injection h with h1 h2
    injection h2 with h2 h3
    subst h1 h2 h3
    have hc2 : (cutI l0).2.2 = false := by simpa using hc
    rw [hc2]
    simp
theorem RefParse.tells (A0 : Option Addr) (c0 : Nat) (l0 : List Int) (r1 r2 r3 : Int) (r4 : ByteArray) (r5 r6 r7 : Int) (r8 : List Int) (r9 : Int) (w : World) (hr0 : Kd.C (Kd.int .u8) w A0 l0.length l0) (hc0 : l0.length ≤ c0) (hs : l0.length ≤ 4000000000) (h : parseW l0 = (r1, r2, r3, r4, r5, r6, r7, r8, r9)) :
    Calls Tryd.prog 9 #[.slice A0 l0.length c0] w fun e w' => ∃ v_ : Value, e = .returned (.tuple #[.agg #[.int .i64 r1, .int .i64 r2, .int .u64 r3, .string r4, .int .i64 r5, .int .i64 r6, .int .i64 r7, v_], .int .i64 r9]) ∧ Kd.R (Kd.int .u8) 5 w' w.heap.size (fun _ => True) v_ r8 ∧ Below w.heap.size w w' := by
  obtain ⟨sv, body, is, hcut⟩ : ∃ sv body is, (if (cutI l0).2.2 = true then (strOfNums (cutI l0).1, (cutI l0).2.1, true) else ((⟨#[]⟩ : ByteArray), [], false)) = (sv, body, is) := ⟨_, _, _, rfl⟩
  have hsz : sv.size ≤ l0.length := by
    by_cases hc : (cutI l0).2.2 = true
    · have hl := congrArg List.length (cutI_out l0 hc)
      rw [if_pos hc] at hcut
      injection hcut with h1 _
      rw [← h1, strOf_size]
      simp at hl
      omega
    · rw [if_neg hc] at hcut
      injection hcut with h1 _
      rw [← h1]
      exact Nat.zero_le _
  obtain ⟨hwl, hws⟩ := words_fit sv 4000000000 (by omega)
  have hw1 : (wdW (wordsW sv) 1).size ≤ 4000000000 := by
    unfold wdW
    rw [List.getD_eq_getElem?_getD]
    cases hg : (wordsW sv)[1]? with
    | none => exact Nat.zero_le _
    | some x => exact hws x (List.mem_of_getElem? hg)
  have hw2 : (wdW (wordsW sv) 2).size ≤ 4000000000 := by
    unfold wdW
    rw [List.getD_eq_getElem?_getD]
    cases hg : (wordsW sv)[2]? with
    | none => exact Nat.zero_le _
    | some x => exact hws x (List.mem_of_getElem? hg)
  have hN := names_tells (verbOf (wdW (wordsW sv) 0).data.toList)
  have hfl : (fileW (wordsW sv) (formV (verbOf (wdW (wordsW sv) 0).data.toList)).1).size ≤ 4000000000 := by
    unfold fileW
    split
    · exact hw2
    · exact Nat.zero_le _
  refine RefParse.walk A0 c0 l0 sv body is (wordsW sv) _ _ _ _ _ _ (3 * (wdW (wordsW sv) 1).size + 20) r1 r2 r3 r4 r5 r6 r7 r8 r9 w hr0 hc0 (by unfold jalousieref21_Cut.f; rw [if_pos (by omega), hcut]) (ref_Words_tells sv (by omega)) (by omega)
    (ref_Parse_label_tells _ (by omega) _ (Nat.le_refl _)) hN (form_le _) (fun a b d => by unfold jalousieref21_Check.f; rw [if_pos (by omega)]) ((parseW_ref l0 sv body is hcut _ rfl).trans h)
end Go.Proofs.YthaimkdnddmokaaDoor.P

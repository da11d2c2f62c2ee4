/- what the small functions of wire and jalousieref21 tell -/
import Derived.Test.YthaimkdnddmokaaDoorWireParsesHWirePlain
import Derived.Test.YthaimkdnddmokaaDoorWireParsesGHLabelOf
import Derived.Test.YthaimkdnddmokaaDoorWireParsesGHWFields
import Derived.Test.YthaimkdnddmokaaDoorWireParsesPxWire
import Derived.Test.YthaimkdnddmokaaDoorWireParsesPxJalousieref21
namespace Go.Proofs.YthaimkdnddmokaaDoor.P
open Go.RowKit Go.Proofs.YthaimkdnddmokaaDoorW.PrintWords Go.Proofs.YthaimkdnddmokaaDoorW.PrintLast Go.Proofs.YthaimkdnddmokaaDoorW.PrintMore
set_option linter.unusedVariables false
set_option linter.unusedSimpArgs false
theorem words_is : wire_words.f = some (verbT.map baOf) := by decide +kernel
theorem codes_is : wire_codes.f = some (codeT.map baOf) := by decide +kernel
theorem in_verb {v : Int} (h : 1 ≤ v ∧ v ≤ 11) : ∃ n : Nat, v = (n : Int) + 1 ∧ n < 11 := ⟨v.toNat - 1, by omega, by omega⟩
theorem wire_Word_tells (v : Int) : wire_Word.f v = some (baOf (verbL v)) := by
  unfold wire_Word.f
  by_cases h1 : v < 1
  · rw [if_pos h1, (verb_some v).2 (by omega)]; rfl
  rw [if_neg h1]
  by_cases h2 : v > 11
  · rw [if_pos h2, (verb_some v).2 (by omega)]; rfl
  rw [if_neg h2, words_is]
  obtain ⟨n, rfl, hn⟩ := in_verb (v := v) ⟨by omega, by omega⟩
  have : ∀ n : Nat, n < 11 → ((some (verbT.map baOf)).bind fun t104 => (if 0 ≤ (wrap64 (((n : Int) + 1) - 1)) then (if (wrap64 (((n : Int) + 1) - 1)) < (t104.length : Int) then (some (rdOf ByteArray.empty t104 (wrap64 (((n : Int) + 1) - 1)))) else (none)) else (none))) = some (baOf (verbL ((n : Int) + 1))) := by decide +kernel
  exact this n hn
theorem wire_Code_tells (e : Int) : wire_Code.f e = some (baOf (codeL e)) := by
  unfold wire_Code.f
  by_cases h1 : e < 0
  · rw [if_pos h1]; unfold codeL; rw [if_neg (by omega)]; rfl
  rw [if_neg h1]
  by_cases h2 : e > 14
  · rw [if_pos h2]; unfold codeL; rw [if_neg (by omega)]; rfl
  rw [if_neg h2, codes_is]
  obtain ⟨n, rfl⟩ := Int.eq_ofNat_of_zero_le (show 0 ≤ e by omega)
  have : ∀ n : Nat, n < 15 → ((some (codeT.map baOf)).bind fun t209 => (if 0 ≤ (n : Int) then (if (n : Int) < (t209.length : Int) then (some (rdOf ByteArray.empty t209 (n : Int))) else (none)) else (none))) = some (baOf (codeL (n : Int))) := by decide +kernel
  exact this n (by omega)
theorem ref_Word_tells (v : Int) : jalousieref21_Word.f v = some (baOf (verbL v)) := by
  by_cases h : 1 ≤ v ∧ v ≤ 11
  · obtain ⟨n, rfl, hn⟩ := in_verb h
    have : ∀ n : Nat, n < 11 → jalousieref21_Word.f ((n : Int) + 1) = some (baOf (verbL ((n : Int) + 1))) := by decide +kernel
    exact this n hn
  · rw [(verb_some v).2 h]
    unfold jalousieref21_Word.f
    simp only [Option.bind_some]
    by_cases h1 : v < 1
    · rw [if_pos h1]; rfl
    · rw [if_neg h1, if_pos (by omega)]; rfl
theorem verb_small_le (v : Int) : (baOf (verbL v)).size ≤ 100 := by
  by_cases h : 1 ≤ v ∧ v ≤ 11
  · obtain ⟨n, rfl, hn⟩ := in_verb h
    have : ∀ n : Nat, n < 11 → (baOf (verbL ((n : Int) + 1))).size ≤ 100 := by decide +kernel
    exact this n hn
  · rw [(verb_some v).2 h]; decide
def formS (v : Int) : ByteArray := if v = 2 ∨ v = 10 ∨ v = 11 then ⟨#[102]⟩ else if v = 3 ∨ v = 4 then ⟨#[102, 97]⟩ else if v = 5 then ⟨#[102, 97, 98, 99]⟩ else if v = 6 ∨ v = 7 then ⟨#[102, 97, 43]⟩ else if v = 9 then ⟨#[102, 43]⟩ else ⟨#[]⟩
theorem form_tells (v : Int) : wire_form.f 4 v = some (formS v) := by
  by_cases h : 1 ≤ v ∧ v ≤ 11
  · obtain ⟨n, rfl, hn⟩ := in_verb h
    have : ∀ n : Nat, n < 11 → wire_form.f 4 ((n : Int) + 1) = some (formS ((n : Int) + 1)) := by decide +kernel
    exact this n hn
  · have n2 : ¬ v = 2 := by omega
    have n3 : ¬ v = 3 := by omega
    have n4 : ¬ v = 4 := by omega
    have n5 : ¬ v = 5 := by omega
    have n6 : ¬ v = 6 := by omega
    have n7 : ¬ v = 7 := by omega
    have n9 : ¬ v = 9 := by omega
    have n10 : ¬ v = 10 := by omega
    have n11 : ¬ v = 11 := by omega
    simp [wire_form.f, wire_form.j0, wire_form.j1, wire_form.j2, formS, n2, n3, n4, n5, n6, n7, n9, n10, n11]
theorem names_tells (v : Int) : jalousieref21_Names.f 2 v = some ((formV v).1, (((formV v).2.1 : Nat) : Int), (formV v).2.2) := by
  by_cases h : 1 ≤ v ∧ v ≤ 11
  · obtain ⟨n, rfl, hn⟩ := in_verb h
    have : ∀ n : Nat, n < 11 → jalousieref21_Names.f 2 ((n : Int) + 1) = some ((formV ((n : Int) + 1)).1, (((formV ((n : Int) + 1)).2.1 : Nat) : Int), (formV ((n : Int) + 1)).2.2) := by decide +kernel
    exact this n hn
  · have n1 : ¬ v = 1 := by omega
    have n3 : ¬ v = 3 := by omega
    have n4 : ¬ v = 4 := by omega
    have n5 : ¬ v = 5 := by omega
    have n6 : ¬ v = 6 := by omega
    have n7 : ¬ v = 7 := by omega
    have n8 : ¬ v = 8 := by omega
    have n9 : ¬ v = 9 := by omega
    simp [jalousieref21_Names.f, jalousieref21_Names.j0, formV, n1, n3, n4, n5, n6, n7, n8, n9]
theorem has_tells {v : Int} (h : 1 ≤ v ∧ v ≤ 11) : strings_Contains.f (formS v) ⟨#[102]⟩ = some (formV v).1 ∧ strings_Contains.f (formS v) ⟨#[97]⟩ = some (decide (1 ≤ (formV v).2.1)) ∧ strings_Contains.f (formS v) ⟨#[98]⟩ = some (decide (3 ≤ (formV v).2.1)) ∧ strings_Contains.f (formS v) ⟨#[99]⟩ = some (decide (3 ≤ (formV v).2.1)) ∧ strings_Contains.f (formS v) ⟨#[43]⟩ = some (formV v).2.2 := by
  obtain ⟨n, rfl, hn⟩ := in_verb h
  have : ∀ n : Nat, n < 11 → strings_Contains.f (formS ((n : Int) + 1)) ⟨#[102]⟩ = some (formV ((n : Int) + 1)).1 ∧ strings_Contains.f (formS ((n : Int) + 1)) ⟨#[97]⟩ = some (decide (1 ≤ (formV ((n : Int) + 1)).2.1)) ∧ strings_Contains.f (formS ((n : Int) + 1)) ⟨#[98]⟩ = some (decide (3 ≤ (formV ((n : Int) + 1)).2.1)) ∧ strings_Contains.f (formS ((n : Int) + 1)) ⟨#[99]⟩ = some (decide (3 ≤ (formV ((n : Int) + 1)).2.1)) ∧ strings_Contains.f (formS ((n : Int) + 1)) ⟨#[43]⟩ = some (formV ((n : Int) + 1)).2.2 := by decide +kernel
  exact this n hn
theorem file_tells (s : ByteArray) (hs : s.size ≤ 140737488355328) : wire_file.f (s.size + 1) s = some (okFile s) := by
  unfold wire_file.f okFile
  rw [text_Name_tells s hs]
  simp only [Option.bind_some]
  cases nameOf s with
  | false => rfl
  | true =>
    rw [if_pos rfl, toList_data]
    congr 1
    by_cases e : s.data.toList = [45]
    · rw [e]; rfl
    · simp [e]
theorem ref_file_tells (s : ByteArray) (hs : s.size ≤ 140737488355328) : jalousieref21_File.f (s.size + 2) s = some (okFile s) := by
  unfold jalousieref21_File.f okFile
  rw [ref_Name_tells s hs]
  simp only [Option.bind_some]
  cases nameOf s with
  | false => rfl
  | true =>
    rw [if_pos rfl]
    by_cases e : s.data.toList = [45]
    · have hz : s.size = 1 := by rw [← data_length, e]; rfl
      have hb : bt s 0 = 45 := by
        have := (byte_is s 0 (by omega) 45).1 (by simp [e])
        exact this
      rw [if_pos (by omega), if_pos (by omega), hb, e]
      rfl
    · by_cases hz : s.size = 1
      · rw [if_pos (by omega), if_pos (by omega)]
        have hl : s.data.toList.length = 1 := by rw [data_length]; exact hz
        obtain ⟨x, hx⟩ := List.length_eq_one_iff.1 hl
        have hb : ¬ bt s 0 = 45 := by
          intro hb
          have := (byte_is s 0 (by omega) 45).2 hb
          apply e
          rw [hx]
          simp only [hx, List.getElem_cons_zero] at this
          rw [this]
        have : (bt s 0 != 45) = true := bne_iff_ne.2 hb
        rw [this]
        simp [e]
      · rw [if_neg (by omega)]
        simp [e]
theorem number_tells (n : Int) (b : Bool) : wire_number.f n b = some (okNum n b) := by
  unfold wire_number.f okNum
  by_cases h0 : n = 0
  · simp [h0]
  · rw [if_neg h0, decide_eq_false h0]
    cases b with
    | false => rfl
    | true =>
      rw [if_pos rfl]
      by_cases h1 : n > 0
      · rw [if_pos h1, decide_eq_true (show 0 < n from h1)]; rfl
      · rw [if_neg h1, decide_eq_false (show ¬ 0 < n from h1)]; rfl
end Go.Proofs.YthaimkdnddmokaaDoor.P

/- what this claim needs of the words and the printed functions; conditions: as each statement says -/
import Derived.Test.YthaimkdnddmokaaDoorWireParsesGHTabs
import Derived.Test.YthaimkdnddmokaaDoorWireParsesHNames
import Derived.Test.YthaimkdnddmokaaDoorWireParsesHText
import Derived.Lib.Hide
import Derived.WalkMore
import Derived.Test.YthaimkdnddmokaaDoorWireParsesPxText
import Derived.Lib.SlBytesConst
import Derived.Test.YthaimkdnddmokaaDoorWireParsesHRefWords
import Derived.Test.YthaimkdnddmokaaDoorWireParsesHWParse
namespace Go.Proofs.YthaimkdnddmokaaDoor.P
open Go.RowKit Go.Proofs.YthaimkdnddmokaaDoorW.PrintWords Go.Proofs.YthaimkdnddmokaaDoorW.PrintLast Go.Proofs.YthaimkdnddmokaaDoorW.PrintMore
set_option linter.unusedVariables false
set_option linter.unusedSimpArgs false
theorem text_Words_tells (s : ByteArray) (hs : s.size < 4294967281) : text_Words.f s = some ((splitC 32 s.data.toList).map baOf) := by
  unfold text_Words.f strings_Split.f
  rw [if_pos (by decide), if_pos hs]
  rfl
theorem ref_Words_tells (s : ByteArray) (hs : s.size < 4294967281) : jalousieref01_Words.f s = some ((splitC 32 s.data.toList).map baOf) := by
  unfold jalousieref01_Words.f
  rw [if_pos hs]
end Go.Proofs.YthaimkdnddmokaaDoor.P
namespace Go.Proofs.YthaimkdnddmokaaDoor.P
open Go.RowKit Go.Proofs.YthaimkdnddmokaaDoorW.PrintWords Go.Proofs.YthaimkdnddmokaaDoorW.PrintLast Go.Proofs.YthaimkdnddmokaaDoorW.PrintMore
set_option linter.unusedVariables false
set_option linter.unusedSimpArgs false
theorem splitC_part (c : UInt8) : ∀ (l : List UInt8) (x : List UInt8), x ∈ splitC c l → x.length ≤ l.length
  | [], x, h => by
    simp [splitC] at h
    rw [h]
    exact Nat.le_refl _
  | b :: l, x, h => by
    have ih := splitC_part c l
    unfold splitC at h
    split at h
    · rcases List.mem_cons.1 h with rfl | h
      · simp
      · have := ih x h; simp; omega
    · split at h
      · rename_i hs
        exact absurd hs (splitC_ne c l)
      · rename_i y ys hs
        rcases List.mem_cons.1 h with rfl | h
        · have := ih y (by rw [hs]; simp)
          simp; omega
        · have := ih x (by rw [hs]; simp [h])
          simp; omega
theorem goL_file (N : Nat) : ∀ (F : List UInt8) (ws : List ByteArray) (f : ByteArray) (a b d : Int) (is : Bool), (∀ s ∈ ws, s.size ≤ N) → f.size ≤ N → (goL F ws f a b d is).1.size ≤ N
  | [], ws, f, a, b, d, is, hs, hf => by simpa [goL] using hf
  | x :: F, [], f, a, b, d, is, hs, hf => by
    by_cases hx : x = 43
    · subst hx
      rw [goL_plus]
      exact goL_file N F [] f a b d is hs hf
    · rw [goL_none _ _ _ _ _ _ _ hx]
      exact hf
  | x :: F, y :: ws, f, a, b, d, is, hs, hf => by
    have h1 : ∀ s ∈ ws, s.size ≤ N := fun s h => hs s (by simp [h])
    by_cases hx : x = 43
    · subst hx
      rw [goL_plus]
      exact goL_file N F (y :: ws) f a b d is hs hf
    · unfold goL
      rw [if_neg hx]
      simp only
      split
      · exact goL_file N F ws y a b d is h1 (hs y (by simp))
      · split
        · exact goL_file N F ws f _ b d _ h1 hf
        · split
          · exact goL_file N F ws f a _ d _ h1 hf
          · exact goL_file N F ws f a b _ _ h1 hf
theorem lineF_file (N : Nat) (ws : List ByteArray) (hs : ∀ s ∈ ws, s.size ≤ N) : (lineF ws).2.2.2.1.size ≤ N := by
  rcases ws with _ | ⟨x0, _ | ⟨x1, vs⟩⟩
  · exact Nat.zero_le _
  · exact Nat.zero_le _
  · exact goL_file N _ vs _ _ _ _ _ (fun s h => hs s (by simp [h])) (Nat.zero_le _)
theorem parse_end (more : Bool) (sv body l0 : List Int) (h1 : more = true → cutI l0 = (sv, body, true)) (h2 : more = false → cutI l0 = (l0, [], false) ∧ sv = l0 ∧ body = []) (v l c : Int) (f : ByteArray) (a b d : Int) (ok : Bool) (hl : lineF (wordsW (strOfNums sv)) = (v, l, c, f, a, b, d, ok)) :
    wparseEnd more ok v l c f a b d body (checkR v l f a b d body.length) = parseW l0 := by
  have hF := line_fields (wordsW (strOfNums sv))
  rw [hl] at hF
  simp only at hF
  unfold wparseEnd parseW
  cases more with
  | false =>
    rw [(h2 rfl).1]
    simp
  | true =>
    rw [h1 rfl]
    simp only [true_and, Bool.true_eq_false, if_false]
    rw [← hF]
    cases ok with
    | false => simp
    | true =>
      by_cases h0 : v = 0
      · subst h0
        have e : checkR 0 l f a b d body.length = 3 := by unfold checkR; rw [if_pos ((verb_some 0).2 (by omega))]
        rw [e]
        simp
      · rw [if_pos (show true = true ∧ ¬ v = 0 from ⟨rfl, h0⟩)]
        simp [endW]
def parseFit (l0 : List Int) : Bool := bytesB l0 && decide (l0.length ≤ 4000000000)
def wire_Parse.f (l0 : List Int) : Option WAns := if parseFit l0 = true then some (parseW l0) else none
theorem strOf_size (l : List Int) : (strOfNums l).size = l.length := by rw [← data_length]; simp [strOfNums]
theorem words_fit (s : ByteArray) (N : Nat) (hs : s.size ≤ N) : (wordsW s).length ≤ N + 1 ∧ ∀ x ∈ wordsW s, x.size ≤ N := by
  unfold wordsW
  constructor
  · rw [List.length_map]
    have := splitC_length 32 s.data.toList
    rw [data_length] at this
    omega
  · intro x hx
    obtain ⟨y, hy, rfl⟩ := List.mem_map.1 hx
    have := splitC_part 32 _ y hy
    rw [data_length] at this
    rw [baOf_len]
    omega
theorem wire_Parse.calls (A0 : Option Addr) (c0 : Nat) (l0 : List Int) (r1 r2 r3 : Int) (r4 : ByteArray) (r5 r6 r7 : Int) (r8 : List Int) (r9 : Int) (w : World) (hr0 : Kd.C (Kd.int .u8) w A0 l0.length l0) (hc0 : l0.length ≤ c0) (hn0 : A0 = none → c0 = 0) (hT : Tabs w) (h : wire_Parse.f l0 = some (r1, r2, r3, r4, r5, r6, r7, r8, r9)) :
    Calls Tryd.prog 8 #[.slice A0 l0.length c0] w fun e w' => ∃ v_ : Value, e = .returned (.tuple #[.agg #[.int .i64 r1, .int .i64 r2, .int .u64 r3, .string r4, .int .i64 r5, .int .i64 r6, .int .i64 r7, v_], .int .i64 r9]) ∧ Kd.R (Kd.int .u8) 5 w' w.heap.size (fun _ => True) v_ r8 ∧ Below w.heap.size w w' := by
  unfold wire_Parse.f at h
  split at h
  case isFalse => cases h
  rename_i hf
  have h := Option.some.inj h
  unfold parseFit at hf
  simp only [Bool.and_eq_true, decide_eq_true_eq] at hf
  obtain ⟨A2, c2, sv, body, more, h1, h2, hs1, hb1, _, hS, hB, hc2, hcut⟩ := cut_calls A0 c0 l0 w hf.1 (by omega) hr0 hc0 hn0
  have hsz := strOf_size sv
  obtain ⟨hwl, hws⟩ := words_fit (strOfNums sv) 4000000000 (by omega)
  have hfile := lineF_file 4000000000 _ hws
  obtain ⟨v, l, c, f, a, b, d, ok, hl⟩ : ∃ v l c f a b d ok, lineF (wordsW (strOfNums sv)) = (v, l, c, f, a, b, d, ok) := ⟨_, _, _, _, _, _, _, _, rfl⟩
  rw [hl] at hfile
  refine Parse.walk A0 l0.length c0 A2 c2 sv body more (wordsW (strOfNums sv)) v l c f a b d ok (checkR v l f a b d body.length) r1 r2 r3 r4 r5 r6 r7 r8 r9 w hT hcut hS hB hc2 (by omega) (text_Words_tells _ (by omega)) (by omega) (fun s hs => by have := hws s hs; omega) hl (by unfold wire_Check.f; rw [if_pos (by simp only at hfile; omega)]) ?_
  rw [parse_end more sv body l0 h1 h2 v l c f a b d ok hl, h]
end Go.Proofs.YthaimkdnddmokaaDoor.P

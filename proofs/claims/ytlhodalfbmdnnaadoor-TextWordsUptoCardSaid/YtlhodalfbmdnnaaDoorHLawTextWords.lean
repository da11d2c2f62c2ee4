/- the walk of jalousielaw01.TextWords -/
import Derived.Test.YtlhodalfbmdnnaaDoorPx0
import Derived.Test.YtlhodalfbmdnnaaDoorHNames
import Derived.Test.YtlhodalfbmdnnaaDoorHLive01
import Derived.Test.YtlhodalfbmdnnaaDoorHRefWords
import Derived.Test.YtlhodalfbmdnnaaDoorPx3
namespace Go.Proofs.YtlhodalfbmdnnaaDoor.P
open Go.RowKit Go.Proofs.YtlhodalfbmdnnaaDoorW.PrintWords Go.Proofs.YtlhodalfbmdnnaaDoorW.PrintLast Go.Proofs.YtlhodalfbmdnnaaDoorW.PrintMore
set_option linter.unusedVariables false
set_option linter.unusedSimpArgs false

theorem text_Words_tells (s : ByteArray) (hs : s.size < 4294967281) : text_Words.f s = some ((splitC 32 s.data.toList).map baOf) := by
  unfold text_Words.f strings_Split.f
  rw [if_pos (by decide), if_pos hs]
  rfl
theorem ref_Words_tells (s : ByteArray) (hs : s.size < 4294967281) : jalousieref01_Words.f s = some ((splitC 32 s.data.toList).map baOf) := by
  unfold jalousieref01_Words.f
  rw [if_pos hs]

/-- words, each with a blank ahead of it but the first -/
def joinC (c : UInt8) : List (List UInt8) → List UInt8
  | [] => []
  | [x] => x
  | x :: y :: xs => x ++ c :: joinC c (y :: xs)
theorem joinC_split (c : UInt8) : ∀ (l : List UInt8), joinC c (splitC c l) = l
  | [] => rfl
  | b :: l => by
    have ih := joinC_split c l
    unfold splitC
    by_cases hb : b = c
    · rw [if_pos hb]
      cases h : splitC c l with
      | nil => exact absurd h (splitC_ne c l)
      | cons x xs => rw [h] at ih; simp [joinC, ih, hb]
    · rw [if_neg hb]
      cases h : splitC c l with
      | nil => exact absurd h (splitC_ne c l)
      | cons x xs =>
        rw [h] at ih
        cases xs with
        | nil => simp only [joinC] at ih ⊢; rw [ih]
        | cons y ys => simp only [joinC, List.cons_append] at ih ⊢; rw [ih]
/-- what stands when i words are joined -/
def joinTo (c : UInt8) (ws : List (List UInt8)) : Nat → List UInt8
  | 0 => []
  | i + 1 => joinTo c ws i ++ (if i = 0 then [] else [c]) ++ ws.getD i []
theorem joinTo_cons (c : UInt8) (x : List UInt8) (ws : List (List UInt8)) : ∀ i, joinTo c (x :: ws) (i + 2) = x ++ c :: joinTo c ws (i + 1)
  | 0 => by simp [joinTo]
  | i + 1 => by
    rw [joinTo, joinTo_cons c x ws i]
    conv => rhs; rw [joinTo]
    simp
theorem joinTo_all (c : UInt8) : ∀ (ws : List (List UInt8)), ws ≠ [] → joinTo c ws ws.length = joinC c ws
  | [], h => absurd rfl h
  | [x], _ => by simp [joinTo, joinC]
  | x :: y :: xs, _ => by
    have := joinTo_all c (y :: xs) (by simp)
    rw [List.length_cons, List.length_cons, joinTo_cons]
    rw [List.length_cons] at this
    rw [this]; rfl
theorem joinTo_length (c : UInt8) (ws : List (List UInt8)) : ∀ i, i ≤ ws.length → (joinTo c ws i).length ≤ (joinTo c ws ws.length).length := by
  intro i hi
  induction h : ws.length - i generalizing i with
  | zero => rw [show i = ws.length by omega]; exact Nat.le_refl _
  | succ d ih =>
    have := ih (i + 1) (by omega) (by omega)
    rw [joinTo] at this
    simp at this; omega

theorem joinTo_ge (c : UInt8) (ws : List (List UInt8)) : ∀ i, i ≤ (joinTo c ws (i + 1)).length
  | 0 => by omega
  | i + 1 => by
    have := joinTo_ge c ws i
    rw [joinTo, if_neg (by omega)]
    simp; omega
theorem baOf_append (a b : List UInt8) : baOf a ++ baOf b = baOf (a ++ b) := by
  apply ByteArray.ext
  apply Array.toList_inj.1
  simp [baOf]
theorem baOf_size (a : List UInt8) : (baOf a).size = a.length := by rw [← data_length]; rfl

set_option maxHeartbeats 4000000 in
set_option maxRecDepth 100000 in
theorem TextWords.walk (s : ByteArray) (w : World) (hs : s.size < 4294967281) :
    Calls Tryd.prog 5 #[.string s] w fun e w' => e = .returned (.bool true) ∧ Below w.heap.size w w' := by
  have H1 := Lib.hid (text_Words_tells s hs)
  have H2 := Lib.hid (ref_Words_tells s hs)
  have H3 := Lib.hid (text_Name_tells s (by omega))
  have H4 := Lib.hid (ref_Name_tells s (by omega))
  have HJ : Hid (joinTo 32 (splitC 32 s.data.toList) (splitC 32 s.data.toList).length = s.data.toList) := by
    show _ = _
    rw [joinTo_all _ _ (splitC_ne _ _), joinC_split]
  have HL := joinTo_length 32 (splitC 32 s.data.toList)
  rw [HJ.out, data_length] at HL
  generalize splitC 32 s.data.toList = ws at H1 H2 HJ HL
  have hlen : (ws.map baOf).length = ws.length := by simp
  go_enter Tryd.func5, Tryd.ntmps5
  go_wp2_with (first
    | (go_at_call 21; (refine (text_Words.calls s _ _ H1.out).mono ?_); rintro e w1 ⟨v1, rfl, ho1, hb1⟩)
    | (go_at_call 22; (refine (jalousieref01_Words.calls s _ _ H2.out).mono ?_); rintro e w2 ⟨v2, rfl, ho2, hb2⟩; obtain ⟨A1, c1, rfl, hc1, hC1⟩ := Kd.R_reads (Kd.R_below ho1 hb2); obtain ⟨A2, c2, rfl, hc2, hC2⟩ := Kd.R_reads ho2; rw [hlen] at hc1 hc2; have HC1 := Lib.hid hC1; have HC2 := Lib.hid hC2; have HB := Lib.hid (below_step hb1 hb2); clear hC1 hC2 hb1 hb2 ho1 ho2; clear H1 H2))
  go_loopw [5, 6] (fun v5 v6 w' => ∃ i : Nat, i ≤ ws.length ∧ v5 = .string (baOf (joinTo 32 ws i)) ∧ v6 = .int .i64 i ∧ ∃ m, w' = w2.drewN m) (fun _ v6 _ => ws.length - (intOf v6).toNat)
  case atStart => exact ⟨0, by omega, rfl, rfl, 0, rfl⟩
  case round =>
    obtain ⟨i, hi, rfl, rfl, m, rfl⟩ := hrel
    have hjl := HL i hi
    have hjs : (baOf (joinTo 32 ws i)).size = (joinTo 32 ws i).length := by rw [← data_length]; rfl
    by_cases hlt : i < ws.length
    · have hd : decide (i < ws.length) = true := decide_eq_true hlt
      have hnext := HL (i + 1) hlt
      have hge := joinTo_ge 32 ws i
      have hi1 : (i : Int) < 4294967281 := by omega
      obtain ⟨ad1, rfl, hc1'⟩ := Kd.at_string HC1.out (i : Int) (by omega) (by rw [hlen]; omega)
      obtain ⟨ad2, rfl, hc2'⟩ := Kd.at_string HC2.out (i : Int) (by omega) (by rw [hlen]; omega)
      have hx : rdOf ByteArray.empty (ws.map baOf) (i : Int) = baOf (ws.getD i []) := by simp [rdOf, List.getD_eq_getElem?_getD, hlt]
      rw [hx, Int.toNat_natCast] at hc1' hc2'
      have HX := Lib.hid hx
      clear hx
      have mixed : Tryd.prog.follows Departure.mixedOrders = true := by kernel_rfl
      have c1 : (0 : Int) ≤ (i : Int) := by omega
      have hstep : joinTo 32 ws (i + 1) = joinTo 32 ws i ++ (if i = 0 then [] else [32]) ++ ws.getD i [] := rfl
      generalize ws.getD i [] = x at hc1' hc2' hstep HX
      have hsz := baOf_size x
      have hlen2 := congrArg List.length hstep
      simp only [List.length_append] at hlen2
      rcases Nat.eq_zero_or_pos i with rfl | hpos
      · have e0 : joinTo 32 ws 0 = [] := rfl
        rw [if_pos rfl] at hlen2
        simp only [List.length_nil] at hlen2
        have hb1 : (9223372036854775807 < (baOf (joinTo 32 ws 0)).size + (baOf x).size) = False := eq_false (by omega)
        have z1 : w2.cell? ad1 = some (.string (baOf x)) := hc1'
        have z2 : w2.cell? ad2 = some (.string (baOf x)) := hc2'
        have HS := Lib.hid hstep
        clear hstep hlen2 hsz hjs e0 hc1' hc2'
        go_wp2
        go_region_o
        go_wp2
        refine ⟨⟨1, hlt, ?_, rfl, _, rfl⟩, ?_⟩
        · rw [baOf_append, HS.out]; rfl
        · show ws.length - 1 < ws.length - 0
          omega
      · have hd2 : decide (0 < i) = true := decide_eq_true hpos
        rw [if_neg (by omega)] at hlen2 hstep
        simp only [List.length_singleton] at hlen2
        have hb1 : (9223372036854775807 < (baOf (joinTo 32 ws i)).size + 1) = False := eq_false (by omega)
        have hb2 : (9223372036854775807 < (baOf (joinTo 32 ws i) ++ (⟨#[32]⟩ : ByteArray)).size + (baOf x).size) = False := eq_false (by rw [ByteArray.size_append]; show ¬ (9223372036854775807 < _ + 1 + _); omega)
        have hb3 : (9223372036854775807 < (baOf (joinTo 32 ws i)).size + 1 + (baOf x).size) = False := eq_false (by omega)
        have HS := Lib.hid hstep
        clear hstep hlen2 hsz hjs
        go_wp2
        go_region_o
        go_wp2
        refine ⟨⟨i + 1, hlt, ?_, by go_num, _, rfl⟩, ?_⟩
        · rw [show (⟨#[32]⟩ : ByteArray) = baOf [32] from rfl, baOf_append, baOf_append, HS.out]
        · simp [intOf]; omega
    · obtain rfl : i = ws.length := by omega
      have hd : decide (ws.length < ws.length) = false := by simp
      have hS : Hid (baOf (joinTo 32 ws ws.length) = s) := by show _ = _; rw [HJ.out]; exact baOf_self s
      rw [hS.out]
      clear hjs hjl
      go_wp2_with (first
        | (go_at_call 18; (refine (jalousielaw01_live.calls true _ rfl).mono ?_); rintro e w4 ⟨rfl, hb⟩; have HB1 := Lib.hid (below_step (show Below w.heap.size w _ from by repeat (first | exact HB.out | apply pw_below_drewN)) hb); clear hb)
        | (go_at_call 23; (refine (text_Name.calls _ _ _ _ H3.out).mono ?_); rintro e w5 ⟨rfl, ⟨n1, rfl⟩⟩)
        | (go_at_call 24; (refine (jalousieref01_Name.calls _ _ _ _ H4.out).mono ?_); rintro e w6 ⟨rfl, ⟨n2, rfl⟩⟩))
      go_ret
      exact ⟨by simp, by repeat (first | exact HB1.out | apply pw_below_drewN)⟩
end Go.Proofs.YtlhodalfbmdnnaaDoor.P

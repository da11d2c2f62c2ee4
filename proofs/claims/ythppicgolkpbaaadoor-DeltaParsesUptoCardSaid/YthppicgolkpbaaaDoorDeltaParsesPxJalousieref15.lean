
import Derived.Test.YthppicgolkpbaaaDoorDeltaParsesPx0
import Derived.Test.YthppicgolkpbaaaDoorDeltaParsesPxEq37
import Derived.Test.YthppicgolkpbaaaDoorDeltaParsesPxJalousieref02
import Derived.Test.YthppicgolkpbaaaDoorDeltaParsesGHText
namespace Go.Proofs.YthppicgolkpbaaaDoor.P
open Go.RowKit Go.Proofs.YthppicgolkpbaaaDoorW.PrintWords Go.Proofs.YthppicgolkpbaaaDoorW.PrintLast Go.Proofs.YthppicgolkpbaaaDoorW.PrintMore
attribute [local go_sem] max2_int min2_int max_two min_two max_three min_three max_four min_four
set_option linter.unusedVariables false
set_option linter.unusedSimpArgs false
attribute [local go_sem high] eqA41
mutual
def jalousieref15_Same.l0 : Nat → List (S27) → List (S27) → Int → Option (Bool)
  | 0, _, _, _ => none
  | k + 1, x0, x1, x5 => if x5 < (x0.length : Int) then (if 0 ≤ x5 then (if x5 < (x1.length : Int) then (if ((rd_T27 x0 x5).f0) = ((rd_T27 x1 x5).f0) then (if ((rd_T27 x0 x5).f1) = ((rd_T27 x1 x5).f1) then (jalousieref15_Same.j1 k x0 x1 x5 ((((rd_T27 x0 x5).f2).length : Int) != (((rd_T27 x1 x5).f2).length : Int))) else (jalousieref15_Same.j1 k x0 x1 x5 true)) else (jalousieref15_Same.j1 k x0 x1 x5 true)) else (none)) else (none)) else (some true)
def jalousieref15_Same.j1 : Nat → List (S27) → List (S27) → Int → Bool → Option (Bool)
  | 0, _, _, _, _ => none
  | k + 1, x0, x1, x5, x56 => if x56 = true then (some false) else (jalousieref15_Same.l1 k x0 x1 x5 0)
def jalousieref15_Same.l1 : Nat → List (S27) → List (S27) → Int → Int → Option (Bool)
  | 0, _, _, _, _ => none
  | k + 1, x0, x1, x5, x6 => if 0 ≤ x5 then (if x5 < (x0.length : Int) then (if x6 < (((rd_T27 x0 x5).f2).length : Int) then (if 0 ≤ x6 then (if x5 < (x1.length : Int) then (if x6 < (((rd_T27 x1 x5).f2).length : Int) then (if (!(((rd_T41 ((rd_T27 x0 x5).f2) x6).f0) == ((rd_T41 ((rd_T27 x1 x5).f2) x6).f0)) || ((!(((rd_T41 ((rd_T27 x0 x5).f2) x6).f1.f0) == ((rd_T41 ((rd_T27 x1 x5).f2) x6).f1.f0)) || (!(((rd_T41 ((rd_T27 x0 x5).f2) x6).f1.f1) == ((rd_T41 ((rd_T27 x1 x5).f2) x6).f1.f1)))) || (!(((rd_T41 ((rd_T27 x0 x5).f2) x6).f2) == ((rd_T41 ((rd_T27 x1 x5).f2) x6).f2)) || ((!((((rd_T41 ((rd_T27 x0 x5).f2) x6).f3.f0).toList) == (((rd_T41 ((rd_T27 x1 x5).f2) x6).f3.f0).toList)) || (!(((rd_T41 ((rd_T27 x0 x5).f2) x6).f3.f1) == ((rd_T41 ((rd_T27 x1 x5).f2) x6).f3.f1)))))))) = true then (some false) else (jalousieref15_Same.l1 k x0 x1 x5 (wrap64 (x6 + 1)))) else (none)) else (none)) else (none)) else (jalousieref15_Same.l0 k x0 x1 (wrap64 (x5 + 1)))) else (none)) else (none)
end
def jalousieref15_Same.f (k : Nat) (l0 : List (S27)) (l1 : List (S27)) : Option (Bool) := if (l0.length : Int) = (l1.length : Int) then (jalousieref15_Same.l0 k l0 l1 0) else (some false)
set_option maxHeartbeats 8000000 in
set_option maxRecDepth 100000 in
theorem jalousieref15_Same.calls (k : Nat) (A0 : Option Addr) (c0 : Nat) (l0 : List (S27)) (A1 : Option Addr) (c1 : Nat) (l1 : List (S27)) (r : Bool) (w : World) (hr0 : Kd.C k27 w A0 l0.length l0) (hc0 : l0.length ≤ c0) (hr1 : Kd.C k27 w A1 l1.length l1) (hc1 : l1.length ≤ c1) (h : jalousieref15_Same.f k l0 l1 = some r) :
    Calls Tryd.prog 13 #[.slice A0 l0.length c0, .slice A1 l1.length c1] w fun e w' => e = .returned (.bool r) ∧ Drawn0 w w' := by
 have hu41 := Tryd.underlying41
 have HR0 := Aside0.mk hr0
 have HC0 := Aside0.mk hc0
 clear hr0 hc0
 have HR1 := Aside0.mk hr1
 have HC1 := Aside0.mk hc1
 clear hr1 hc1
 have H : (if (l0.length : Int) = (l1.length : Int) then (jalousieref15_Same.l0 k l0 l1 0) else (some false)) = some r := h
 clear h
 by_cases c3 : (l0.length : Int) = (l1.length : Int)
 ·
  rw [if_pos c3] at H
  have c3b0 : ((l0.length : Int) == (l1.length : Int)) = true := beq_iff_eq.mpr c3
  have c3b1 : ((l0.length : Int) != (l1.length : Int)) = false := bne_eq_false_iff_eq.mpr c3
  have c3b2 : (l0.length == l1.length) = true := by first | simpa using c3 | (simp at c3 ⊢; omega)
  clear c3
  have H' := Aside0.mk H
  clear H
  go_enter Tryd.func13, Tryd.ntmps13
  go_wp2
  repeat (go_quiet (fail); try go_wp2)
  go_loopg [5] k (fun kq v5 w' => ∃ (x5_1 : Int), v5 = .int .i64 x5_1 ∧ Aside0 (jalousieref15_Same.l0 kq l0 l1 x5_1 = some r) ∧ Aside0 (kq ≤ k) ∧ Drawn0 w w')
  case atStart => exact ⟨(0), (by first | rfl | (simp; done) | (simp [*]; done)), H', ⟨Nat.le_refl _⟩, by repeat (first | exact Drawn0.refl _ | apply Drawn0.step)⟩
  case round =>
   clear H'
   try clear c1
   try clear p2
   try clear c3
   try clear c3b0
   try clear c3b1
   try clear c3b2
   obtain ⟨x5_1, rfl, HA, HK1, ⟨m1, rfl⟩⟩ := hrel
   cases gk with
   | zero => exact absurd HA.out (by simp [jalousieref15_Same.l0])
   | succ k1 =>
    have H := HA.out
    clear HA
    simp only [jalousieref15_Same.l0] at H
    by_cases c4 : x5_1 < (l0.length : Int)
    ·
     rw [if_pos c4] at H
     have c4b0 : decide (x5_1 < (l0.length : Int)) = true := decide_eq_true c4
     clear c4
     have HC5 := Aside0.mk H
     clear H
     go_upto_region 6 with (fail)
     repeat (go_quiet (fail); go_upto_region 6 with (fail))
     go_cut [56] (fun v56 wc => ∃ (kq : Nat) (x56_4 : Bool), v56 = .bool x56_4 ∧ Aside0 (jalousieref15_Same.j1 kq l0 l1 x5_1 x56_4 = some r) ∧ Aside0 (kq ≤ k1) ∧ Drawn0 w wc)
     case first =>
      have H := HC5.out
      clear HC5
      by_cases c6 : 0 ≤ x5_1
      rotate_left
      ·
       rw [if_neg c6] at H
       exact absurd H (by simp)
      rw [if_pos c6] at H
      have c6b0 : decide (0 ≤ x5_1) = true := decide_eq_true c6
      clear c6
      (first | rw [c6b0] | (simp only [i64_w, i32_w]; rw [c6b0]) | skip)
      by_cases c7 : x5_1 < (l1.length : Int)
      rotate_left
      ·
       rw [if_neg c7] at H
       exact absurd H (by simp)
      rw [if_pos c7] at H
      have c7b0 : decide (x5_1 < (l1.length : Int)) = true := decide_eq_true c7
      clear c7
      by_cases c8 : ((rd_T27 l0 x5_1).f0) = ((rd_T27 l1 x5_1).f0)
      ·
       rw [if_pos c8] at H
       have c8b0 : (((rd_T27 l0 x5_1).f0) == ((rd_T27 l1 x5_1).f0)) = true := beq_iff_eq.mpr c8
       have c8b1 : (((rd_T27 l0 x5_1).f0) != ((rd_T27 l1 x5_1).f0)) = false := bne_eq_false_iff_eq.mpr c8
       clear c8
       by_cases c9 : ((rd_T27 l0 x5_1).f1) = ((rd_T27 l1 x5_1).f1)
       ·
        rw [if_pos c9] at H
        have c9b0 : (((rd_T27 l0 x5_1).f1) == ((rd_T27 l1 x5_1).f1)) = true := beq_iff_eq.mpr c9
        have c9b1 : (((rd_T27 l0 x5_1).f1) != ((rd_T27 l1 x5_1).f1)) = false := bne_eq_false_iff_eq.mpr c9
        clear c9
        have H' := Aside0.mk H
        clear H
        have p164 : 0 ≤ (x5_1 : Int) := of_decide_eq_true (by first | (with_reducible assumption) | assumption)
        have q164 : x5_1 < (l0.length : Int) := of_decide_eq_true (by first | (with_reducible assumption) | assumption)
        obtain ⟨ad164, A164_2, c164_2, e164, hx164_0, hx164_1, hx164_2, hl164_2, hi164_2⟩ := at_T27 HR0.out x5_1 p164 q164
        cases e164
        have HR164_2 := Aside0.mk hi164_2
        have HC164_2 := Aside0.mk hl164_2
        clear hi164_2 hl164_2
        replace p164 := eq_true p164
        replace q164 := eq_true q164
        have p165 : 0 ≤ (x5_1 : Int) := of_decide_eq_true (by first | (with_reducible assumption) | assumption)
        have q165 : x5_1 < (l1.length : Int) := of_decide_eq_true (by first | (with_reducible assumption) | assumption)
        obtain ⟨ad165, A165_2, c165_2, e165, hx165_0, hx165_1, hx165_2, hl165_2, hi165_2⟩ := at_T27 HR1.out x5_1 p165 q165
        cases e165
        have HR165_2 := Aside0.mk hi165_2
        have HC165_2 := Aside0.mk hl165_2
        clear hi165_2 hl165_2
        replace p165 := eq_true p165
        replace q165 := eq_true q165
        have p166 : 0 ≤ (x5_1 : Int) := of_decide_eq_true (by first | (with_reducible assumption) | assumption)
        have q166 : x5_1 < (l0.length : Int) := of_decide_eq_true (by first | (with_reducible assumption) | assumption)
        obtain ⟨ad166, A166_2, c166_2, e166, hx166_0, hx166_1, hx166_2, hl166_2, hi166_2⟩ := at_T27 HR0.out x5_1 p166 q166
        obtain rfl : ad164 = ad166 := (by injection e166)
        have HR166_2 := Aside0.mk hi166_2
        have HC166_2 := Aside0.mk hl166_2
        clear hi166_2 hl166_2
        replace p166 := eq_true p166
        replace q166 := eq_true q166
        have ea_ := Option.some.inj (hx164_2.symm.trans hx166_2)
        injection ea_ with ea_ en_ ec_
        subst ea_
        subst ec_
        clear en_
        have p167 : 0 ≤ (x5_1 : Int) := of_decide_eq_true (by first | (with_reducible assumption) | assumption)
        have q167 : x5_1 < (l1.length : Int) := of_decide_eq_true (by first | (with_reducible assumption) | assumption)
        obtain ⟨ad167, A167_2, c167_2, e167, hx167_0, hx167_1, hx167_2, hl167_2, hi167_2⟩ := at_T27 HR1.out x5_1 p167 q167
        obtain rfl : ad165 = ad167 := (by injection e167)
        have HR167_2 := Aside0.mk hi167_2
        have HC167_2 := Aside0.mk hl167_2
        clear hi167_2 hl167_2
        replace p167 := eq_true p167
        replace q167 := eq_true q167
        have ea_ := Option.some.inj (hx165_2.symm.trans hx167_2)
        injection ea_ with ea_ en_ ec_
        subst ea_
        subst ec_
        clear en_
        have p168 : 0 ≤ (x5_1 : Int) := of_decide_eq_true (by first | (with_reducible assumption) | assumption)
        have q168 : x5_1 < (l0.length : Int) := of_decide_eq_true (by first | (with_reducible assumption) | assumption)
        obtain ⟨ad168, A168_2, c168_2, e168, hx168_0, hx168_1, hx168_2, hl168_2, hi168_2⟩ := at_T27 HR0.out x5_1 p168 q168
        obtain rfl : ad164 = ad168 := (by injection e168)
        have HR168_2 := Aside0.mk hi168_2
        have HC168_2 := Aside0.mk hl168_2
        clear hi168_2 hl168_2
        replace p168 := eq_true p168
        replace q168 := eq_true q168
        have ea_ := Option.some.inj (hx164_2.symm.trans hx168_2)
        injection ea_ with ea_ en_ ec_
        subst ea_
        subst ec_
        clear en_
        have p169 : 0 ≤ (x5_1 : Int) := of_decide_eq_true (by first | (with_reducible assumption) | assumption)
        have q169 : x5_1 < (l1.length : Int) := of_decide_eq_true (by first | (with_reducible assumption) | assumption)
        obtain ⟨ad169, A169_2, c169_2, e169, hx169_0, hx169_1, hx169_2, hl169_2, hi169_2⟩ := at_T27 HR1.out x5_1 p169 q169
        obtain rfl : ad165 = ad169 := (by injection e169)
        have HR169_2 := Aside0.mk hi169_2
        have HC169_2 := Aside0.mk hl169_2
        clear hi169_2 hl169_2
        replace p169 := eq_true p169
        replace q169 := eq_true q169
        have ea_ := Option.some.inj (hx165_2.symm.trans hx169_2)
        injection ea_ with ea_ en_ ec_
        subst ea_
        subst ec_
        clear en_
        go_wp2
        repeat (go_quiet (fail); try go_wp2)
        go_meet
        case rel => exact ⟨_, (((((rd_T27 l0 x5_1).f2).length : Int) != (((rd_T27 l1 x5_1).f2).length : Int))), (by first | rfl | (simp; done) | (simp [*]; done)), H', ⟨by have := HK1.out; first | omega | exact Nat.le_refl _⟩, by repeat (first | exact Drawn0.refl _ | apply Drawn0.step)⟩
       ·
        rw [if_neg c9] at H
        have c9b0 : (((rd_T27 l0 x5_1).f1) == ((rd_T27 l1 x5_1).f1)) = false := beq_eq_false_iff_ne.mpr c9
        have c9b1 : (((rd_T27 l0 x5_1).f1) != ((rd_T27 l1 x5_1).f1)) = true := bne_iff_ne.mpr c9
        have H' := Aside0.mk H
        clear H
        have p164 : 0 ≤ (x5_1 : Int) := of_decide_eq_true (by first | (with_reducible assumption) | assumption)
        have q164 : x5_1 < (l0.length : Int) := of_decide_eq_true (by first | (with_reducible assumption) | assumption)
        obtain ⟨ad164, A164_2, c164_2, e164, hx164_0, hx164_1, hx164_2, hl164_2, hi164_2⟩ := at_T27 HR0.out x5_1 p164 q164
        cases e164
        have HR164_2 := Aside0.mk hi164_2
        have HC164_2 := Aside0.mk hl164_2
        clear hi164_2 hl164_2
        replace p164 := eq_true p164
        replace q164 := eq_true q164
        have p165 : 0 ≤ (x5_1 : Int) := of_decide_eq_true (by first | (with_reducible assumption) | assumption)
        have q165 : x5_1 < (l1.length : Int) := of_decide_eq_true (by first | (with_reducible assumption) | assumption)
        obtain ⟨ad165, A165_2, c165_2, e165, hx165_0, hx165_1, hx165_2, hl165_2, hi165_2⟩ := at_T27 HR1.out x5_1 p165 q165
        cases e165
        have HR165_2 := Aside0.mk hi165_2
        have HC165_2 := Aside0.mk hl165_2
        clear hi165_2 hl165_2
        replace p165 := eq_true p165
        replace q165 := eq_true q165
        have p166 : 0 ≤ (x5_1 : Int) := of_decide_eq_true (by first | (with_reducible assumption) | assumption)
        have q166 : x5_1 < (l0.length : Int) := of_decide_eq_true (by first | (with_reducible assumption) | assumption)
        obtain ⟨ad166, A166_2, c166_2, e166, hx166_0, hx166_1, hx166_2, hl166_2, hi166_2⟩ := at_T27 HR0.out x5_1 p166 q166
        obtain rfl : ad164 = ad166 := (by injection e166)
        have HR166_2 := Aside0.mk hi166_2
        have HC166_2 := Aside0.mk hl166_2
        clear hi166_2 hl166_2
        replace p166 := eq_true p166
        replace q166 := eq_true q166
        have ea_ := Option.some.inj (hx164_2.symm.trans hx166_2)
        injection ea_ with ea_ en_ ec_
        subst ea_
        subst ec_
        clear en_
        have p167 : 0 ≤ (x5_1 : Int) := of_decide_eq_true (by first | (with_reducible assumption) | assumption)
        have q167 : x5_1 < (l1.length : Int) := of_decide_eq_true (by first | (with_reducible assumption) | assumption)
        obtain ⟨ad167, A167_2, c167_2, e167, hx167_0, hx167_1, hx167_2, hl167_2, hi167_2⟩ := at_T27 HR1.out x5_1 p167 q167
        obtain rfl : ad165 = ad167 := (by injection e167)
        have HR167_2 := Aside0.mk hi167_2
        have HC167_2 := Aside0.mk hl167_2
        clear hi167_2 hl167_2
        replace p167 := eq_true p167
        replace q167 := eq_true q167
        have ea_ := Option.some.inj (hx165_2.symm.trans hx167_2)
        injection ea_ with ea_ en_ ec_
        subst ea_
        subst ec_
        clear en_
        go_wp2
        repeat (go_quiet (fail); try go_wp2)
        go_meet
        case rel => exact ⟨_, (true), (by first | rfl | (simp; done) | (simp [*]; done)), H', ⟨by have := HK1.out; first | omega | exact Nat.le_refl _⟩, by repeat (first | exact Drawn0.refl _ | apply Drawn0.step)⟩
      rw [if_neg c8] at H
      have c8b0 : (((rd_T27 l0 x5_1).f0) == ((rd_T27 l1 x5_1).f0)) = false := beq_eq_false_iff_ne.mpr c8
      have c8b1 : (((rd_T27 l0 x5_1).f0) != ((rd_T27 l1 x5_1).f0)) = true := bne_iff_ne.mpr c8
      have H' := Aside0.mk H
      clear H
      have p164 : 0 ≤ (x5_1 : Int) := of_decide_eq_true (by first | (with_reducible assumption) | assumption)
      have q164 : x5_1 < (l0.length : Int) := of_decide_eq_true (by first | (with_reducible assumption) | assumption)
      obtain ⟨ad164, A164_2, c164_2, e164, hx164_0, hx164_1, hx164_2, hl164_2, hi164_2⟩ := at_T27 HR0.out x5_1 p164 q164
      cases e164
      have HR164_2 := Aside0.mk hi164_2
      have HC164_2 := Aside0.mk hl164_2
      clear hi164_2 hl164_2
      replace p164 := eq_true p164
      replace q164 := eq_true q164
      have p165 : 0 ≤ (x5_1 : Int) := of_decide_eq_true (by first | (with_reducible assumption) | assumption)
      have q165 : x5_1 < (l1.length : Int) := of_decide_eq_true (by first | (with_reducible assumption) | assumption)
      obtain ⟨ad165, A165_2, c165_2, e165, hx165_0, hx165_1, hx165_2, hl165_2, hi165_2⟩ := at_T27 HR1.out x5_1 p165 q165
      cases e165
      have HR165_2 := Aside0.mk hi165_2
      have HC165_2 := Aside0.mk hl165_2
      clear hi165_2 hl165_2
      replace p165 := eq_true p165
      replace q165 := eq_true q165
      go_wp2
      repeat (go_quiet (fail); try go_wp2)
      go_meet
      case rel => exact ⟨_, (true), (by first | rfl | (simp; done) | (simp [*]; done)), H', ⟨by have := HK1.out; first | omega | exact Nat.le_refl _⟩, by repeat (first | exact Drawn0.refl _ | apply Drawn0.step)⟩
     case rest =>
      clear HC5
      try clear c1
      try clear p1
      try clear q1
      try clear hx1
      try clear p2
      try clear c3
      try clear c3b0
      try clear c3b1
      try clear c3b2
      try clear c4
      try clear c4b0
      try clear c6
      try clear c6b0
      try clear c7
      try clear c7b0
      try clear c8
      try clear c8b0
      try clear c8b1
      try clear c9
      try clear c9b0
      try clear c9b1
      try clear hx164_0
      try clear hx164_1
      try clear hx164_2
      try clear hx165_0
      try clear hx165_1
      try clear hx165_2
      try clear hx166_0
      try clear hx166_1
      try clear hx166_2
      try clear hx167_0
      try clear hx167_1
      try clear hx167_2
      try clear hx168_0
      try clear hx168_1
      try clear hx168_2
      try clear hx169_0
      try clear hx169_1
      try clear hx169_2
      try clear p164
      try clear p165
      try clear p166
      try clear p167
      try clear p168
      try clear p169
      try clear p2
      try clear q164
      try clear q165
      try clear q166
      try clear q167
      try clear q168
      try clear q169
      obtain ⟨kq, x56_4, rfl, HA, HJ4, ⟨mc4, rfl⟩⟩ := hcut
      cases kq with
      | zero => exact absurd HA.out (by simp [jalousieref15_Same.j1])
      | succ kj4 =>
       have H := HA.out
       clear HA
       simp only [jalousieref15_Same.j1] at H
       by_cases c10 : x56_4 = true
       ·
        subst c10
        have H1 : (some false) = some r := by rw [if_pos rfl] at H; exact H
        clear H; have H := H1; clear H1
        obtain rfl := Option.some.inj H
        go_wp2
        repeat (go_quiet (fail); try go_wp2)
        go_ret
        exact ⟨by first | rfl | (simp; done) | (simp [*]; done), by repeat (first | exact Drawn0.refl _ | apply Drawn0.step)⟩
       ·
        replace c10 := Bool.eq_false_iff.mpr c10
        subst c10
        have H1 : (jalousieref15_Same.l1 kj4 l0 l1 x5_1 0) = some r := by rw [if_neg (show ¬ (false = true) by decide)] at H; exact H
        clear H; have H := H1; clear H1
        have H' := Aside0.mk H
        clear H
        go_wp2
        repeat (go_quiet (fail); try go_wp2)
        go_loopg [6] kj4 (fun kq v6 w' => ∃ (x6_3 : Int), v6 = .int .i64 x6_3 ∧ Aside0 (jalousieref15_Same.l1 kq l0 l1 x5_1 x6_3 = some r) ∧ Aside0 (kq ≤ kj4) ∧ Drawn0 w w')
        case atStart => exact ⟨(0), (by first | rfl | (simp; done) | (simp [*]; done)), H', ⟨Nat.le_refl _⟩, by repeat (first | exact Drawn0.refl _ | apply Drawn0.step)⟩
        case round =>
         clear H'
         try clear c1
         try clear p1
         try clear q1
         try clear hx1
         try clear p2
         try clear c3
         try clear c3b0
         try clear c3b1
         try clear c3b2
         try clear c4
         try clear c4b0
         try clear c6
         try clear c6b0
         try clear c7
         try clear c7b0
         try clear c8
         try clear c8b0
         try clear c8b1
         try clear c9
         try clear c9b0
         try clear c9b1
         try clear c10
         try clear hx164_0
         try clear hx164_1
         try clear hx164_2
         try clear hx165_0
         try clear hx165_1
         try clear hx165_2
         try clear hx166_0
         try clear hx166_1
         try clear hx166_2
         try clear hx167_0
         try clear hx167_1
         try clear hx167_2
         try clear hx168_0
         try clear hx168_1
         try clear hx168_2
         try clear hx169_0
         try clear hx169_1
         try clear hx169_2
         try clear p1
         try clear p164
         try clear p165
         try clear p166
         try clear p167
         try clear p168
         try clear p169
         try clear p2
         try clear q1
         try clear q164
         try clear q165
         try clear q166
         try clear q167
         try clear q168
         try clear q169
         obtain ⟨x6_3, rfl, HA, HK3, ⟨m3, rfl⟩⟩ := hrel
         cases gk with
         | zero => exact absurd HA.out (by simp [jalousieref15_Same.l1])
         | succ k3 =>
          have H := HA.out
          clear HA
          simp only [jalousieref15_Same.l1] at H
          by_cases c11 : 0 ≤ x5_1
          rotate_left
          ·
           rw [if_neg c11] at H
           exact absurd H (by simp)
          rw [if_pos c11] at H
          have c11b0 : decide (0 ≤ x5_1) = true := decide_eq_true c11
          clear c11
          by_cases c12 : x5_1 < (l0.length : Int)
          rotate_left
          ·
           rw [if_neg c12] at H
           exact absurd H (by simp)
          rw [if_pos c12] at H
          have c12b0 : decide (x5_1 < (l0.length : Int)) = true := decide_eq_true c12
          clear c12
          by_cases c13 : x6_3 < (((rd_T27 l0 x5_1).f2).length : Int)
          ·
           rw [if_pos c13] at H
           have c13b0 : decide (x6_3 < (((rd_T27 l0 x5_1).f2).length : Int)) = true := decide_eq_true c13
           clear c13
           by_cases c14 : 0 ≤ x6_3
           ·
            rw [if_pos c14] at H
            have c14b0 : decide (0 ≤ x6_3) = true := decide_eq_true c14
            clear c14
            by_cases c15 : x5_1 < (l1.length : Int)
            ·
             rw [if_pos c15] at H
             have c15b0 : decide (x5_1 < (l1.length : Int)) = true := decide_eq_true c15
             clear c15
             by_cases c16 : x6_3 < (((rd_T27 l1 x5_1).f2).length : Int)
             ·
              rw [if_pos c16] at H
              have c16b0 : decide (x6_3 < (((rd_T27 l1 x5_1).f2).length : Int)) = true := decide_eq_true c16
              clear c16
              by_cases c17 : (!(((rd_T41 ((rd_T27 l0 x5_1).f2) x6_3).f0) == ((rd_T41 ((rd_T27 l1 x5_1).f2) x6_3).f0)) || ((!(((rd_T41 ((rd_T27 l0 x5_1).f2) x6_3).f1.f0) == ((rd_T41 ((rd_T27 l1 x5_1).f2) x6_3).f1.f0)) || (!(((rd_T41 ((rd_T27 l0 x5_1).f2) x6_3).f1.f1) == ((rd_T41 ((rd_T27 l1 x5_1).f2) x6_3).f1.f1)))) || (!(((rd_T41 ((rd_T27 l0 x5_1).f2) x6_3).f2) == ((rd_T41 ((rd_T27 l1 x5_1).f2) x6_3).f2)) || ((!((((rd_T41 ((rd_T27 l0 x5_1).f2) x6_3).f3.f0).toList) == (((rd_T41 ((rd_T27 l1 x5_1).f2) x6_3).f3.f0).toList)) || (!(((rd_T41 ((rd_T27 l0 x5_1).f2) x6_3).f3.f1) == ((rd_T41 ((rd_T27 l1 x5_1).f2) x6_3).f3.f1)))))))) = true
              ·
               rw [if_pos c17] at H
               have c17b0 : (!(((rd_T41 ((rd_T27 l0 x5_1).f2) x6_3).f0) == ((rd_T41 ((rd_T27 l1 x5_1).f2) x6_3).f0)) || ((!(((rd_T41 ((rd_T27 l0 x5_1).f2) x6_3).f1.f0) == ((rd_T41 ((rd_T27 l1 x5_1).f2) x6_3).f1.f0)) || (!(((rd_T41 ((rd_T27 l0 x5_1).f2) x6_3).f1.f1) == ((rd_T41 ((rd_T27 l1 x5_1).f2) x6_3).f1.f1)))) || (!(((rd_T41 ((rd_T27 l0 x5_1).f2) x6_3).f2) == ((rd_T41 ((rd_T27 l1 x5_1).f2) x6_3).f2)) || ((!((((rd_T41 ((rd_T27 l0 x5_1).f2) x6_3).f3.f0).toList) == (((rd_T41 ((rd_T27 l1 x5_1).f2) x6_3).f3.f0).toList)) || (!(((rd_T41 ((rd_T27 l0 x5_1).f2) x6_3).f3.f1) == ((rd_T41 ((rd_T27 l1 x5_1).f2) x6_3).f3.f1)))))))) = true := c17
               clear c17
               obtain rfl := Option.some.inj H
               have p170 : 0 ≤ (x5_1 : Int) := of_decide_eq_true (by first | (with_reducible assumption) | assumption)
               have q170 : x5_1 < (l0.length : Int) := of_decide_eq_true (by first | (with_reducible assumption) | assumption)
               obtain ⟨ad170, A170_2, c170_2, e170, hx170_0, hx170_1, hx170_2, hl170_2, hi170_2⟩ := at_T27 HR0.out x5_1 p170 q170
               cases e170
               have HR170_2 := Aside0.mk hi170_2
               have HC170_2 := Aside0.mk hl170_2
               clear hi170_2 hl170_2
               replace p170 := eq_true p170
               replace q170 := eq_true q170
               have p171 : 0 ≤ (x5_1 : Int) := of_decide_eq_true (by first | (with_reducible assumption) | assumption)
               have q171 : x5_1 < (l0.length : Int) := of_decide_eq_true (by first | (with_reducible assumption) | assumption)
               obtain ⟨ad171, A171_2, c171_2, e171, hx171_0, hx171_1, hx171_2, hl171_2, hi171_2⟩ := at_T27 HR0.out x5_1 p171 q171
               obtain rfl : ad170 = ad171 := (by injection e171)
               have HR171_2 := Aside0.mk hi171_2
               have HC171_2 := Aside0.mk hl171_2
               clear hi171_2 hl171_2
               replace p171 := eq_true p171
               replace q171 := eq_true q171
               have ea_ := Option.some.inj (hx170_2.symm.trans hx171_2)
               injection ea_ with ea_ en_ ec_
               subst ea_
               subst ec_
               clear en_
               have p172 : 0 ≤ (x6_3 : Int) := of_decide_eq_true (by first | (with_reducible assumption) | assumption)
               have q172 : x6_3 < (((rd_T27 l0 x5_1).f2).length : Int) := of_decide_eq_true (by first | (with_reducible assumption) | assumption)
               obtain ⟨ad172, e172, hx172_0, hx172_1, hx172_2, hx172_3, hx172_4, hx172_5⟩ := at_T41 HR171_2.out x6_3 p172 q172
               cases e172
               replace p172 := eq_true p172
               replace q172 := eq_true q172
               have p173 : 0 ≤ (x5_1 : Int) := of_decide_eq_true (by first | (with_reducible assumption) | assumption)
               have q173 : x5_1 < (l1.length : Int) := of_decide_eq_true (by first | (with_reducible assumption) | assumption)
               obtain ⟨ad173, A173_2, c173_2, e173, hx173_0, hx173_1, hx173_2, hl173_2, hi173_2⟩ := at_T27 HR1.out x5_1 p173 q173
               cases e173
               have HR173_2 := Aside0.mk hi173_2
               have HC173_2 := Aside0.mk hl173_2
               clear hi173_2 hl173_2
               replace p173 := eq_true p173
               replace q173 := eq_true q173
               have p174 : 0 ≤ (x6_3 : Int) := of_decide_eq_true (by first | (with_reducible assumption) | assumption)
               have q174 : x6_3 < (((rd_T27 l1 x5_1).f2).length : Int) := of_decide_eq_true (by first | (with_reducible assumption) | assumption)
               obtain ⟨ad174, e174, hx174_0, hx174_1, hx174_2, hx174_3, hx174_4, hx174_5⟩ := at_T41 HR173_2.out x6_3 p174 q174
               cases e174
               replace p174 := eq_true p174
               replace q174 := eq_true q174
               go_wp2
               repeat (go_quiet (fail); try go_wp2)
               go_ret
               exact ⟨by first | rfl | (simp; done) | (simp [*]; done), by repeat (first | exact Drawn0.refl _ | apply Drawn0.step)⟩
              ·
               rw [if_neg c17] at H
               have c17b0 : (!(((rd_T41 ((rd_T27 l0 x5_1).f2) x6_3).f0) == ((rd_T41 ((rd_T27 l1 x5_1).f2) x6_3).f0)) || ((!(((rd_T41 ((rd_T27 l0 x5_1).f2) x6_3).f1.f0) == ((rd_T41 ((rd_T27 l1 x5_1).f2) x6_3).f1.f0)) || (!(((rd_T41 ((rd_T27 l0 x5_1).f2) x6_3).f1.f1) == ((rd_T41 ((rd_T27 l1 x5_1).f2) x6_3).f1.f1)))) || (!(((rd_T41 ((rd_T27 l0 x5_1).f2) x6_3).f2) == ((rd_T41 ((rd_T27 l1 x5_1).f2) x6_3).f2)) || ((!((((rd_T41 ((rd_T27 l0 x5_1).f2) x6_3).f3.f0).toList) == (((rd_T41 ((rd_T27 l1 x5_1).f2) x6_3).f3.f0).toList)) || (!(((rd_T41 ((rd_T27 l0 x5_1).f2) x6_3).f3.f1) == ((rd_T41 ((rd_T27 l1 x5_1).f2) x6_3).f3.f1)))))))) = false := by simpa using c17
               clear c17
               have H' := Aside0.mk H
               clear H
               have p170 : 0 ≤ (x5_1 : Int) := of_decide_eq_true (by first | (with_reducible assumption) | assumption)
               have q170 : x5_1 < (l0.length : Int) := of_decide_eq_true (by first | (with_reducible assumption) | assumption)
               obtain ⟨ad170, A170_2, c170_2, e170, hx170_0, hx170_1, hx170_2, hl170_2, hi170_2⟩ := at_T27 HR0.out x5_1 p170 q170
               cases e170
               have HR170_2 := Aside0.mk hi170_2
               have HC170_2 := Aside0.mk hl170_2
               clear hi170_2 hl170_2
               replace p170 := eq_true p170
               replace q170 := eq_true q170
               have p171 : 0 ≤ (x5_1 : Int) := of_decide_eq_true (by first | (with_reducible assumption) | assumption)
               have q171 : x5_1 < (l0.length : Int) := of_decide_eq_true (by first | (with_reducible assumption) | assumption)
               obtain ⟨ad171, A171_2, c171_2, e171, hx171_0, hx171_1, hx171_2, hl171_2, hi171_2⟩ := at_T27 HR0.out x5_1 p171 q171
               obtain rfl : ad170 = ad171 := (by injection e171)
               have HR171_2 := Aside0.mk hi171_2
               have HC171_2 := Aside0.mk hl171_2
               clear hi171_2 hl171_2
               replace p171 := eq_true p171
               replace q171 := eq_true q171
               have ea_ := Option.some.inj (hx170_2.symm.trans hx171_2)
               injection ea_ with ea_ en_ ec_
               subst ea_
               subst ec_
               clear en_
               have p172 : 0 ≤ (x6_3 : Int) := of_decide_eq_true (by first | (with_reducible assumption) | assumption)
               have q172 : x6_3 < (((rd_T27 l0 x5_1).f2).length : Int) := of_decide_eq_true (by first | (with_reducible assumption) | assumption)
               obtain ⟨ad172, e172, hx172_0, hx172_1, hx172_2, hx172_3, hx172_4, hx172_5⟩ := at_T41 HR171_2.out x6_3 p172 q172
               cases e172
               replace p172 := eq_true p172
               replace q172 := eq_true q172
               have p173 : 0 ≤ (x5_1 : Int) := of_decide_eq_true (by first | (with_reducible assumption) | assumption)
               have q173 : x5_1 < (l1.length : Int) := of_decide_eq_true (by first | (with_reducible assumption) | assumption)
               obtain ⟨ad173, A173_2, c173_2, e173, hx173_0, hx173_1, hx173_2, hl173_2, hi173_2⟩ := at_T27 HR1.out x5_1 p173 q173
               cases e173
               have HR173_2 := Aside0.mk hi173_2
               have HC173_2 := Aside0.mk hl173_2
               clear hi173_2 hl173_2
               replace p173 := eq_true p173
               replace q173 := eq_true q173
               have p174 : 0 ≤ (x6_3 : Int) := of_decide_eq_true (by first | (with_reducible assumption) | assumption)
               have q174 : x6_3 < (((rd_T27 l1 x5_1).f2).length : Int) := of_decide_eq_true (by first | (with_reducible assumption) | assumption)
               obtain ⟨ad174, e174, hx174_0, hx174_1, hx174_2, hx174_3, hx174_4, hx174_5⟩ := at_T41 HR173_2.out x6_3 p174 q174
               cases e174
               replace p174 := eq_true p174
               replace q174 := eq_true q174
               go_wp2
               repeat (go_quiet (fail); try go_wp2)
               go_roundg k3
               case measure => have := HK1.out; have := HJ4.out; have := HK3.out; omega
               case rel => exact ⟨(wrap64 (x6_3 + 1)), (by first | rfl | (simp; done) | (simp [*]; done)), H', ⟨by have := HK1.out; have := HJ4.out; have := HK3.out; omega⟩, by repeat (first | exact Drawn0.refl _ | apply Drawn0.step)⟩
             ·
              rw [if_neg c16] at H
              exact absurd H (by simp)
            ·
             rw [if_neg c15] at H
             exact absurd H (by simp)
           ·
            rw [if_neg c14] at H
            exact absurd H (by simp)
          rw [if_neg c13] at H
          have c13b0 : decide (x6_3 < (((rd_T27 l0 x5_1).f2).length : Int)) = false := decide_eq_false c13
          clear c13
          have H' := Aside0.mk H
          clear H
          have p170 : 0 ≤ (x5_1 : Int) := of_decide_eq_true (by first | (with_reducible assumption) | assumption)
          have q170 : x5_1 < (l0.length : Int) := of_decide_eq_true (by first | (with_reducible assumption) | assumption)
          obtain ⟨ad170, A170_2, c170_2, e170, hx170_0, hx170_1, hx170_2, hl170_2, hi170_2⟩ := at_T27 HR0.out x5_1 p170 q170
          cases e170
          have HR170_2 := Aside0.mk hi170_2
          have HC170_2 := Aside0.mk hl170_2
          clear hi170_2 hl170_2
          replace p170 := eq_true p170
          replace q170 := eq_true q170
          go_wp2
          repeat (go_quiet (fail); try go_wp2)
          go_roundg k3
          case measure => have := HK1.out; have := HJ4.out; have := HK3.out; omega
          case rel => exact ⟨(wrap64 (x5_1 + 1)), (by first | rfl | (simp; done) | (simp [*]; done)), H', ⟨by have := HK1.out; have := HJ4.out; have := HK3.out; omega⟩, by repeat (first | exact Drawn0.refl _ | apply Drawn0.step)⟩
    ·
     rw [if_neg c4] at H
     have c4b0 : decide (x5_1 < (l0.length : Int)) = false := decide_eq_false c4
     clear c4
     obtain rfl := Option.some.inj H
     go_wp2
     repeat (go_quiet (fail); try go_wp2)
     go_ret
     exact ⟨by first | rfl | (simp; done) | (simp [*]; done), by repeat (first | exact Drawn0.refl _ | apply Drawn0.step)⟩
 ·
  rw [if_neg c3] at H
  have c3b0 : ((l0.length : Int) == (l1.length : Int)) = false := beq_eq_false_iff_ne.mpr c3
  have c3b1 : ((l0.length : Int) != (l1.length : Int)) = true := bne_iff_ne.mpr c3
  have c3b2 : (l0.length == l1.length) = false := by first | simpa using c3 | (simp at c3 ⊢; omega)
  obtain rfl := Option.some.inj H
  go_enter Tryd.func13, Tryd.ntmps13
  go_wp2
  repeat (go_quiet (fail); try go_wp2)
  go_ret
  exact ⟨by first | rfl | (simp; done) | (simp [*]; done), by repeat (first | exact Drawn0.refl _ | apply Drawn0.step)⟩
mutual
def jalousieref15_check.j0 : Nat → Bool → Int → Int → Int → Bool → ByteArray → Bool → Option (Int)
  | 0, _, _, _, _, _, _, _ => none
  | k + 1, x17, x248000, x248001, x248002, x248003, x248004, x248005 => if x17 = true then (some 2) else (jalousieref15_check.l0 k 0 x248000 x248001 x248002 x248003 x248004 x248005)
def jalousieref15_check.l0 : Nat → Int → Int → Int → Int → Bool → ByteArray → Bool → Option (Int)
  | 0, _, _, _, _, _, _, _ => none
  | k + 1, x3, x248000, x248001, x248002, x248003, x248004, x248005 => if x3 < (x248004.size : Int) then (if 0 ≤ x3 then (if (bt x248004 x3) = 10 then (some 3) else (jalousieref15_check.l0 k (wrap64 (x3 + 1)) x248000 x248001 x248002 x248003 x248004 x248005)) else (none)) else (if (x248004.size : Int) > 200 then (some 4) else (some 0))
end
def jalousieref15_check.f (k : Nat) (a0_0 : Int) (a0_1 : Int) (a0_2 : Int) (a0_3 : Bool) (a0_4 : ByteArray) (a0_5 : Bool) : Option (Int) := if a0_0 < 0 then (jalousieref15_check.j0 k true a0_0 a0_1 a0_2 a0_3 a0_4 a0_5) else (if a0_0 > 2147483647 then (jalousieref15_check.j0 k true a0_0 a0_1 a0_2 a0_3 a0_4 a0_5) else ((jalousieref02_Right.f a0_1 a0_2).bind fun t248 => (jalousieref15_check.j0 k (!t248) a0_0 a0_1 a0_2 a0_3 a0_4 a0_5)))
set_option maxHeartbeats 8000000 in
set_option maxRecDepth 100000 in
theorem jalousieref15_check.calls (k : Nat) (a0_0 : Int) (a0_1 : Int) (a0_2 : Int) (a0_3 : Bool) (a0_4 : ByteArray) (a0_5 : Bool) (r : Int) (w : World) (h : jalousieref15_check.f k a0_0 a0_1 a0_2 a0_3 a0_4 a0_5 = some r) :
    Calls Tryd.prog 31 #[.agg #[.int .i64 a0_0, .int .i64 a0_1, .int .u64 a0_2, .bool a0_3, .string a0_4, .bool a0_5]] w fun e w' => e = .returned (.int .i64 r) ∧ Below w.heap.size w w' := by
 have hu41 := Tryd.underlying41
 have hu37 := Tryd.underlying37
 have HB := Aside0.mk (Below.refl w.heap.size w)
 have H : (if a0_0 < 0 then (jalousieref15_check.j0 k true a0_0 a0_1 a0_2 a0_3 a0_4 a0_5) else (if a0_0 > 2147483647 then (jalousieref15_check.j0 k true a0_0 a0_1 a0_2 a0_3 a0_4 a0_5) else ((jalousieref02_Right.f a0_1 a0_2).bind fun t248 => (jalousieref15_check.j0 k (!t248) a0_0 a0_1 a0_2 a0_3 a0_4 a0_5)))) = some r := h
 clear h
 have HC2 := Aside0.mk H
 clear H
 go_enter Tryd.func31, Tryd.ntmps31
 go_upto_region 1 with (first | ((with_reducible refine gate_dst (N := 1) rfl ?_); refine box_event ?hg (N := 1) ?hd (cs := #[.int .i64 a0_0, .int .i64 a0_1, .int .u64 a0_2, .bool a0_3, .string a0_4, .bool a0_5]) (t := 41) ?hr ?_; (case hd => rfl); (case hg => rfl); (case hr => first | (go_simp; done) | (go_simp; rfl)); intro gb247 hg w3 hbox hb; have n0_ := Aside0.mk (below_step (by repeat (first | (with_reducible first | exact HB.out | apply below_alloc | apply pw_below_drewN | apply below_drew1) | exact HB.out)) hb); have n1_ := Aside0.mk (hbox); have n2_ := Aside0.mk ((by rw [hg]; exact (below_size (by repeat (first | (with_reducible first | exact HB.out | apply below_alloc | apply pw_below_drewN | apply below_drew1) | exact HB.out))) : w.heap.size ≤ gb247)); have n3_ := Aside0.mk ((by rw [hg]; exact (below_size (by repeat (first | (with_reducible first | exact HB.out | apply below_alloc | apply pw_below_drewN | apply below_drew1) | exact HB.out))) : w.heap.size ≤ gb247)); clear HB; have HB := n0_; have BK247 := n1_; have GW247 := n2_; have GE247 := n3_; clear n0_ n1_ n2_ n3_; clear hb hbox hg))
 (try simp only [Act.put, List.setIfInBounds_toArray, List.set_cons_zero, List.set_cons_succ])
 go_cut [17] (fun v17 wc => ∃ (kq : Nat) (x17_1 : Bool), v17 = .bool x17_1 ∧ Aside0 (jalousieref15_check.j0 kq x17_1 a0_0 a0_1 a0_2 a0_3 a0_4 a0_5 = some r) ∧ Aside0 (kq ≤ k) ∧ Aside0 (wc.heap[gb247]? = some (.cells #[.int .i64 a0_0, .int .i64 a0_1, .int .u64 a0_2, .bool a0_3, .string a0_4, .bool a0_5] 41 (0, 0))) ∧ Aside0 (Below w.heap.size w wc))
 case first =>
  have H := HC2.out
  clear HC2
  by_cases c4 : a0_0 < 0
  rotate_left
  ·
   rw [if_neg c4] at H
   have c4b0 : decide (a0_0 < 0) = false := decide_eq_false c4
   clear c4
   (first | rw [c4b0] | (simp only [i64_w, i32_w]; rw [c4b0]) | skip)
   by_cases c6 : a0_0 > 2147483647
   ·
    rw [if_pos c6] at H
    have c6b0 : decide (2147483647 < a0_0) = true := decide_eq_true c6
    clear c6
    have H' := Aside0.mk H
    clear H
    have hcz7_0 : w3.cell? ⟨gb247, 0, none⟩ = some (.int .i64 a0_0) := (blk_cell BK247.out 0).trans rfl
    have hcz7_1 : w3.cell? ⟨gb247, 1, none⟩ = some (.int .i64 a0_1) := (blk_cell BK247.out 1).trans rfl
    have hcz7_2 : w3.cell? ⟨gb247, 2, none⟩ = some (.int .u64 a0_2) := (blk_cell BK247.out 2).trans rfl
    have hcz7_3 : w3.cell? ⟨gb247, 3, none⟩ = some (.bool a0_3) := (blk_cell BK247.out 3).trans rfl
    have hcz7_4 : w3.cell? ⟨gb247, 4, none⟩ = some (.string a0_4) := (blk_cell BK247.out 4).trans rfl
    have hcz7_5 : w3.cell? ⟨gb247, 5, none⟩ = some (.bool a0_5) := (blk_cell BK247.out 5).trans rfl
    have hfz7_0 := blk_frozen BK247.out 0
    have hfz7_1 := blk_frozen BK247.out 1
    have hfz7_2 := blk_frozen BK247.out 2
    have hfz7_3 := blk_frozen BK247.out 3
    have hfz7_4 := blk_frozen BK247.out 4
    have hfz7_5 := blk_frozen BK247.out 5
    go_wp2
    go_meet
    case rel => exact ⟨_, (true), (by first | rfl | (simp; done) | (simp [*]; done)), H', ⟨by first | omega | exact Nat.le_refl _⟩, ⟨by (with_reducible repeat (first | refine blk_drewN ?_ _ | refine blk_drew ?_ | refine blk_alloc ?_ _)); exact BK247.out⟩, ⟨by repeat (first | (with_reducible first | exact HB.out | apply below_alloc | apply pw_below_drewN | apply below_drew1 | refine below_set ?_ GE247.out) | exact HB.out)⟩⟩
   ·
    rw [if_neg c6] at H
    have c6b0 : decide (2147483647 < a0_0) = false := decide_eq_false c6
    clear c6
    replace H := Option.bind_eq_some_iff.mp H
    obtain ⟨t248, A80, H⟩ := H
    replace H : (jalousieref15_check.j0 k (!t248) a0_0 a0_1 a0_2 a0_3 a0_4 a0_5) = some r := H
    have A8 := Aside0.mk A80
    clear A80
    have H' := Aside0.mk H
    clear H
    have hcz9_0 : w3.cell? ⟨gb247, 0, none⟩ = some (.int .i64 a0_0) := (blk_cell BK247.out 0).trans rfl
    have hcz9_1 : w3.cell? ⟨gb247, 1, none⟩ = some (.int .i64 a0_1) := (blk_cell BK247.out 1).trans rfl
    have hcz9_2 : w3.cell? ⟨gb247, 2, none⟩ = some (.int .u64 a0_2) := (blk_cell BK247.out 2).trans rfl
    have hcz9_3 : w3.cell? ⟨gb247, 3, none⟩ = some (.bool a0_3) := (blk_cell BK247.out 3).trans rfl
    have hcz9_4 : w3.cell? ⟨gb247, 4, none⟩ = some (.string a0_4) := (blk_cell BK247.out 4).trans rfl
    have hcz9_5 : w3.cell? ⟨gb247, 5, none⟩ = some (.bool a0_5) := (blk_cell BK247.out 5).trans rfl
    have hfz9_0 := blk_frozen BK247.out 0
    have hfz9_1 := blk_frozen BK247.out 1
    have hfz9_2 := blk_frozen BK247.out 2
    have hfz9_3 := blk_frozen BK247.out 3
    have hfz9_4 := blk_frozen BK247.out 4
    have hfz9_5 := blk_frozen BK247.out 5
    go_wp2_with (first | (go_at_call 45; (with_reducible refine (jalousieref02_Right.calls a0_1 a0_2 t248 _ A8.out).mono ?_); rintro e w10 ⟨rfl, hb⟩; have n0_ := Aside0.mk (blk_below (g := gb247) (o := .cells #[.int .i64 a0_0, .int .i64 a0_1, .int .u64 a0_2, .bool a0_3, .string a0_4, .bool a0_5] 41 (0, 0)) (by (with_reducible repeat (first | refine blk_drewN ?_ _ | refine blk_drew ?_ | refine blk_alloc ?_ _)); exact BK247.out) hb); have n1_ := Aside0.mk (below_step (by repeat (first | (with_reducible first | exact HB.out | apply below_alloc | apply pw_below_drewN | apply below_drew1 | refine below_set ?_ GE247.out) | exact HB.out)) hb); clear BK247; clear HB; have BK247 := n0_; have HB := n1_; clear n0_ n1_; (try clear hb); (try clear hb2); (try clear hk); (try clear hi)))
    go_meet
    case rel => exact ⟨_, (!t248), (by first | rfl | (simp; done) | (simp [*]; done)), H', ⟨by first | omega | exact Nat.le_refl _⟩, ⟨by (with_reducible repeat (first | refine blk_drewN ?_ _ | refine blk_drew ?_ | refine blk_alloc ?_ _)); exact BK247.out⟩, ⟨by repeat (first | (with_reducible first | exact HB.out | apply below_alloc | apply pw_below_drewN | apply below_drew1 | refine below_set ?_ GE247.out) | exact HB.out)⟩⟩
  rw [if_pos c4] at H
  have c4b0 : decide (a0_0 < 0) = true := decide_eq_true c4
  clear c4
  (first | rw [c4b0] | (simp only [i64_w, i32_w]; rw [c4b0]) | skip)
  have H' := Aside0.mk H
  clear H
  have hcz5_0 : w3.cell? ⟨gb247, 0, none⟩ = some (.int .i64 a0_0) := (blk_cell BK247.out 0).trans rfl
  have hcz5_1 : w3.cell? ⟨gb247, 1, none⟩ = some (.int .i64 a0_1) := (blk_cell BK247.out 1).trans rfl
  have hcz5_2 : w3.cell? ⟨gb247, 2, none⟩ = some (.int .u64 a0_2) := (blk_cell BK247.out 2).trans rfl
  have hcz5_3 : w3.cell? ⟨gb247, 3, none⟩ = some (.bool a0_3) := (blk_cell BK247.out 3).trans rfl
  have hcz5_4 : w3.cell? ⟨gb247, 4, none⟩ = some (.string a0_4) := (blk_cell BK247.out 4).trans rfl
  have hcz5_5 : w3.cell? ⟨gb247, 5, none⟩ = some (.bool a0_5) := (blk_cell BK247.out 5).trans rfl
  have hfz5_0 := blk_frozen BK247.out 0
  have hfz5_1 := blk_frozen BK247.out 1
  have hfz5_2 := blk_frozen BK247.out 2
  have hfz5_3 := blk_frozen BK247.out 3
  have hfz5_4 := blk_frozen BK247.out 4
  have hfz5_5 := blk_frozen BK247.out 5
  go_wp2
  go_meet
  case rel => exact ⟨_, (true), (by first | rfl | (simp; done) | (simp [*]; done)), H', ⟨by first | omega | exact Nat.le_refl _⟩, ⟨by (with_reducible repeat (first | refine blk_drewN ?_ _ | refine blk_drew ?_ | refine blk_alloc ?_ _)); exact BK247.out⟩, ⟨by repeat (first | (with_reducible first | exact HB.out | apply below_alloc | apply pw_below_drewN | apply below_drew1 | refine below_set ?_ GE247.out) | exact HB.out)⟩⟩
 case rest =>
  clear HC2
  try clear p2
  try clear c3
  try clear c4
  try clear c4b0
  try clear c6
  try clear c6b0
  try clear hcz5_0
  try clear hcz5_1
  try clear hcz5_2
  try clear hcz5_3
  try clear hcz5_4
  try clear hcz5_5
  try clear hcz7_0
  try clear hcz7_1
  try clear hcz7_2
  try clear hcz7_3
  try clear hcz7_4
  try clear hcz7_5
  try clear hcz9_0
  try clear hcz9_1
  try clear hcz9_2
  try clear hcz9_3
  try clear hcz9_4
  try clear hcz9_5
  try clear hfz5_0
  try clear hfz5_1
  try clear hfz5_2
  try clear hfz5_3
  try clear hfz5_4
  try clear hfz5_5
  try clear hfz7_0
  try clear hfz7_1
  try clear hfz7_2
  try clear hfz7_3
  try clear hfz7_4
  try clear hfz7_5
  try clear hfz9_0
  try clear hfz9_1
  try clear hfz9_2
  try clear hfz9_3
  try clear hfz9_4
  try clear hfz9_5
  obtain ⟨kq, x17_1, rfl, HA, HJ1, BK247, HB⟩ := hcut
  cases kq with
  | zero => exact absurd HA.out (by simp [jalousieref15_check.j0])
  | succ kj1 =>
   have H := HA.out
   clear HA
   simp only [jalousieref15_check.j0] at H
   by_cases c11 : x17_1 = true
   ·
    subst c11
    have H1 : (some 2) = some r := by rw [if_pos rfl] at H; exact H
    clear H; have H := H1; clear H1
    obtain rfl := Option.some.inj H
    go_wp2
    go_ret
    exact ⟨by first | rfl | (simp [errW_none, errW_some] <;> rfl) | (simp [*, errW_none, errW_some] <;> rfl), by repeat (first | (with_reducible first | exact HB.out | apply below_alloc | apply pw_below_drewN | apply below_drew1 | refine below_set ?_ GE247.out) | exact HB.out)⟩
   ·
    replace c11 := Bool.eq_false_iff.mpr c11
    subst c11
    have H1 : (jalousieref15_check.l0 kj1 0 a0_0 a0_1 a0_2 a0_3 a0_4 a0_5) = some r := by rw [if_neg (show ¬ (false = true) by decide)] at H; exact H
    clear H; have H := H1; clear H1
    have H' := Aside0.mk H
    clear H
    go_wp2
    go_loopg [3] kj1 (fun kq v3 w' => ∃ (x3_2 : Int), v3 = .int .i64 x3_2 ∧ Aside0 (jalousieref15_check.l0 kq x3_2 a0_0 a0_1 a0_2 a0_3 a0_4 a0_5 = some r) ∧ Aside0 (kq ≤ kj1) ∧ Aside0 (w'.heap[gb247]? = some (.cells #[.int .i64 a0_0, .int .i64 a0_1, .int .u64 a0_2, .bool a0_3, .string a0_4, .bool a0_5] 41 (0, 0))) ∧ Aside0 (Below w.heap.size w w'))
    case atStart => exact ⟨(0), (by first | rfl | (simp; done) | (simp [*]; done)), H', ⟨Nat.le_refl _⟩, ⟨by (with_reducible repeat (first | refine blk_drewN ?_ _ | refine blk_drew ?_ | refine blk_alloc ?_ _)); exact BK247.out⟩, ⟨by repeat (first | (with_reducible first | exact HB.out | apply below_alloc | apply pw_below_drewN | apply below_drew1 | refine below_set ?_ GE247.out) | exact HB.out)⟩⟩
    case round =>
     clear H'
     try clear c1
     try clear p2
     try clear c3
     try clear c4
     try clear c4b0
     try clear c6
     try clear c6b0
     try clear c11
     try clear hcz5_0
     try clear hcz5_1
     try clear hcz5_2
     try clear hcz5_3
     try clear hcz5_4
     try clear hcz5_5
     try clear hcz7_0
     try clear hcz7_1
     try clear hcz7_2
     try clear hcz7_3
     try clear hcz7_4
     try clear hcz7_5
     try clear hcz9_0
     try clear hcz9_1
     try clear hcz9_2
     try clear hcz9_3
     try clear hcz9_4
     try clear hcz9_5
     try clear hfz5_0
     try clear hfz5_1
     try clear hfz5_2
     try clear hfz5_3
     try clear hfz5_4
     try clear hfz5_5
     try clear hfz7_0
     try clear hfz7_1
     try clear hfz7_2
     try clear hfz7_3
     try clear hfz7_4
     try clear hfz7_5
     try clear hfz9_0
     try clear hfz9_1
     try clear hfz9_2
     try clear hfz9_3
     try clear hfz9_4
     try clear hfz9_5
     try clear p2
     obtain ⟨x3_2, rfl, HA, HK2, BK247, HB⟩ := hrel
     cases gk with
     | zero => exact absurd HA.out (by simp [jalousieref15_check.l0])
     | succ k2 =>
      have H := HA.out
      clear HA
      simp only [jalousieref15_check.l0] at H
      by_cases c12 : x3_2 < (a0_4.size : Int)
      ·
       rw [if_pos c12] at H
       have c12b0 : decide (x3_2 < (a0_4.size : Int)) = true := decide_eq_true c12
       clear c12
       by_cases c13 : 0 ≤ x3_2
       ·
        rw [if_pos c13] at H
        have c13b0 : decide (0 ≤ x3_2) = true := decide_eq_true c13
        clear c13
        by_cases c15 : (bt a0_4 x3_2) = 10
        ·
         rw [if_pos c15] at H
         have c15b0 : ((bt a0_4 x3_2) == 10) = true := beq_iff_eq.mpr c15
         have c15b1 : ((bt a0_4 x3_2) != 10) = false := bne_eq_false_iff_eq.mpr c15
         clear c15
         obtain rfl := Option.some.inj H
         have hcz16_0 : wr.cell? ⟨gb247, 0, none⟩ = some (.int .i64 a0_0) := (blk_cell BK247.out 0).trans rfl
         have hcz16_1 : wr.cell? ⟨gb247, 1, none⟩ = some (.int .i64 a0_1) := (blk_cell BK247.out 1).trans rfl
         have hcz16_2 : wr.cell? ⟨gb247, 2, none⟩ = some (.int .u64 a0_2) := (blk_cell BK247.out 2).trans rfl
         have hcz16_3 : wr.cell? ⟨gb247, 3, none⟩ = some (.bool a0_3) := (blk_cell BK247.out 3).trans rfl
         have hcz16_4 : wr.cell? ⟨gb247, 4, none⟩ = some (.string a0_4) := (blk_cell BK247.out 4).trans rfl
         have hcz16_5 : wr.cell? ⟨gb247, 5, none⟩ = some (.bool a0_5) := (blk_cell BK247.out 5).trans rfl
         have hfz16_0 := blk_frozen BK247.out 0
         have hfz16_1 := blk_frozen BK247.out 1
         have hfz16_2 := blk_frozen BK247.out 2
         have hfz16_3 := blk_frozen BK247.out 3
         have hfz16_4 := blk_frozen BK247.out 4
         have hfz16_5 := blk_frozen BK247.out 5
         have p14 : 0 ≤ (x3_2 : Int) := of_decide_eq_true (by first | (with_reducible assumption) | assumption)
         have q14 : x3_2 < (a0_4.size : Int) := of_decide_eq_true (by first | (with_reducible assumption) | assumption)
         have hx14 := bt_at a0_4 x3_2
         replace p14 := eq_true p14
         replace q14 := eq_true q14
         go_wp2
         go_ret
         exact ⟨by first | rfl | (simp [errW_none, errW_some] <;> rfl) | (simp [*, errW_none, errW_some] <;> rfl), by repeat (first | (with_reducible first | exact HB.out | apply below_alloc | apply pw_below_drewN | apply below_drew1 | refine below_set ?_ GE247.out) | exact HB.out)⟩
        ·
         rw [if_neg c15] at H
         have c15b0 : ((bt a0_4 x3_2) == 10) = false := beq_eq_false_iff_ne.mpr c15
         have c15b1 : ((bt a0_4 x3_2) != 10) = true := bne_iff_ne.mpr c15
         have H' := Aside0.mk H
         clear H
         have hcz17_0 : wr.cell? ⟨gb247, 0, none⟩ = some (.int .i64 a0_0) := (blk_cell BK247.out 0).trans rfl
         have hcz17_1 : wr.cell? ⟨gb247, 1, none⟩ = some (.int .i64 a0_1) := (blk_cell BK247.out 1).trans rfl
         have hcz17_2 : wr.cell? ⟨gb247, 2, none⟩ = some (.int .u64 a0_2) := (blk_cell BK247.out 2).trans rfl
         have hcz17_3 : wr.cell? ⟨gb247, 3, none⟩ = some (.bool a0_3) := (blk_cell BK247.out 3).trans rfl
         have hcz17_4 : wr.cell? ⟨gb247, 4, none⟩ = some (.string a0_4) := (blk_cell BK247.out 4).trans rfl
         have hcz17_5 : wr.cell? ⟨gb247, 5, none⟩ = some (.bool a0_5) := (blk_cell BK247.out 5).trans rfl
         have hfz17_0 := blk_frozen BK247.out 0
         have hfz17_1 := blk_frozen BK247.out 1
         have hfz17_2 := blk_frozen BK247.out 2
         have hfz17_3 := blk_frozen BK247.out 3
         have hfz17_4 := blk_frozen BK247.out 4
         have hfz17_5 := blk_frozen BK247.out 5
         have p14 : 0 ≤ (x3_2 : Int) := of_decide_eq_true (by first | (with_reducible assumption) | assumption)
         have q14 : x3_2 < (a0_4.size : Int) := of_decide_eq_true (by first | (with_reducible assumption) | assumption)
         have hx14 := bt_at a0_4 x3_2
         replace p14 := eq_true p14
         replace q14 := eq_true q14
         go_wp2
         go_roundg k2
         case measure => have := HJ1.out; have := HK2.out; omega
         case rel => exact ⟨(wrap64 (x3_2 + 1)), (by first | rfl | (simp; done) | (simp [*]; done)), H', ⟨by have := HJ1.out; have := HK2.out; omega⟩, ⟨by (with_reducible repeat (first | refine blk_drewN ?_ _ | refine blk_drew ?_ | refine blk_alloc ?_ _)); exact BK247.out⟩, ⟨by repeat (first | (with_reducible first | exact HB.out | apply below_alloc | apply pw_below_drewN | apply below_drew1 | refine below_set ?_ GE247.out) | exact HB.out)⟩⟩
       ·
        rw [if_neg c13] at H
        exact absurd H (by simp)
      rw [if_neg c12] at H
      have c12b0 : decide (x3_2 < (a0_4.size : Int)) = false := decide_eq_false c12
      clear c12
      by_cases c18 : (a0_4.size : Int) > 200
      focus
       rw [if_pos c18] at H
       have c18b0 : decide (200 < (a0_4.size : Int)) = true := decide_eq_true c18
       have c18b1 : decide (200 < a0_4.size) = true := decide_eq_true (by omega)
       clear c18
       obtain rfl := Option.some.inj H
       have hcz19_0 : wr.cell? ⟨gb247, 0, none⟩ = some (.int .i64 a0_0) := (blk_cell BK247.out 0).trans rfl
       have hcz19_1 : wr.cell? ⟨gb247, 1, none⟩ = some (.int .i64 a0_1) := (blk_cell BK247.out 1).trans rfl
       have hcz19_2 : wr.cell? ⟨gb247, 2, none⟩ = some (.int .u64 a0_2) := (blk_cell BK247.out 2).trans rfl
       have hcz19_3 : wr.cell? ⟨gb247, 3, none⟩ = some (.bool a0_3) := (blk_cell BK247.out 3).trans rfl
       have hcz19_4 : wr.cell? ⟨gb247, 4, none⟩ = some (.string a0_4) := (blk_cell BK247.out 4).trans rfl
       have hcz19_5 : wr.cell? ⟨gb247, 5, none⟩ = some (.bool a0_5) := (blk_cell BK247.out 5).trans rfl
       have hfz19_0 := blk_frozen BK247.out 0
       have hfz19_1 := blk_frozen BK247.out 1
       have hfz19_2 := blk_frozen BK247.out 2
       have hfz19_3 := blk_frozen BK247.out 3
       have hfz19_4 := blk_frozen BK247.out 4
       have hfz19_5 := blk_frozen BK247.out 5
      rotate_left
      focus
       rw [if_neg c18] at H
       have c18b0 : decide (200 < (a0_4.size : Int)) = false := decide_eq_false c18
       have c18b1 : decide (200 < a0_4.size) = false := decide_eq_false (by omega)
       clear c18
       obtain rfl := Option.some.inj H
       have hcz20_0 : wr.cell? ⟨gb247, 0, none⟩ = some (.int .i64 a0_0) := (blk_cell BK247.out 0).trans rfl
       have hcz20_1 : wr.cell? ⟨gb247, 1, none⟩ = some (.int .i64 a0_1) := (blk_cell BK247.out 1).trans rfl
       have hcz20_2 : wr.cell? ⟨gb247, 2, none⟩ = some (.int .u64 a0_2) := (blk_cell BK247.out 2).trans rfl
       have hcz20_3 : wr.cell? ⟨gb247, 3, none⟩ = some (.bool a0_3) := (blk_cell BK247.out 3).trans rfl
       have hcz20_4 : wr.cell? ⟨gb247, 4, none⟩ = some (.string a0_4) := (blk_cell BK247.out 4).trans rfl
       have hcz20_5 : wr.cell? ⟨gb247, 5, none⟩ = some (.bool a0_5) := (blk_cell BK247.out 5).trans rfl
       have hfz20_0 := blk_frozen BK247.out 0
       have hfz20_1 := blk_frozen BK247.out 1
       have hfz20_2 := blk_frozen BK247.out 2
       have hfz20_3 := blk_frozen BK247.out 3
       have hfz20_4 := blk_frozen BK247.out 4
       have hfz20_5 := blk_frozen BK247.out 5
      rotate_left
      all_goals
       go_wp2
       go_ret
       exact ⟨by first | rfl | (simp [errW_none, errW_some] <;> rfl) | (simp [*, errW_none, errW_some] <;> rfl), by repeat (first | (with_reducible first | exact HB.out | apply below_alloc | apply pw_below_drewN | apply below_drew1 | refine below_set ?_ GE247.out) | exact HB.out)⟩
def jalousieref15_word.l0 : Nat → ByteArray → Int → Option (ByteArray × ByteArray × Bool)
  | 0, _, _ => none
  | k + 1, x0, x5 => if x5 < (x0.size : Int) then (if 0 ≤ x5 then (if (bt x0 x5) = 32 then (if x5 ≤ (x0.size : Int) then (if 0 ≤ (wrap64 (x5 + 1)) then (if (wrap64 (x5 + 1)) ≤ (x0.size : Int) then (some (x0.extract 0 (x5 : Int).toNat, x0.extract ((wrap64 (x5 + 1)) : Int).toNat x0.size, true)) else (none)) else (none)) else (none)) else (jalousieref15_word.l0 k x0 (wrap64 (x5 + 1)))) else (none)) else (some ((⟨#[]⟩ : ByteArray), (⟨#[]⟩ : ByteArray), false))
def jalousieref15_word.f (k : Nat) (a0 : ByteArray) : Option (ByteArray × ByteArray × Bool) := jalousieref15_word.l0 k a0 0
set_option maxHeartbeats 8000000 in
set_option maxRecDepth 100000 in
theorem jalousieref15_word.calls (k : Nat) (a0 : ByteArray) (r1 : ByteArray) (r2 : ByteArray) (r3 : Bool) (w : World) (h : jalousieref15_word.f k a0 = some (r1, r2, r3)) :
    Calls Tryd.prog 50 #[.string a0] w fun e w' => e = .returned (.tuple #[.string r1, .string r2, .bool r3]) ∧ Drawn0 w w' := by
 have H : (jalousieref15_word.l0 k a0 0) = some (r1, r2, r3) := h
 clear h
 have H' := Aside0.mk H
 clear H
 go_enter Tryd.func50, Tryd.ntmps50
 go_wp2
 repeat (go_quiet (fail); try go_wp2)
 go_loopg [5] k (fun kq v5 w' => ∃ (x5_1 : Int), v5 = .int .i64 x5_1 ∧ Aside0 (jalousieref15_word.l0 kq a0 x5_1 = some (r1, r2, r3)) ∧ Aside0 (kq ≤ k) ∧ Drawn0 w w')
 case atStart => exact ⟨(0), (by first | rfl | (simp; done) | (simp [*]; done)), H', ⟨Nat.le_refl _⟩, by repeat (first | exact Drawn0.refl _ | apply Drawn0.step)⟩
 case round =>
  clear H'
  obtain ⟨x5_1, rfl, HA, HK1, ⟨m1, rfl⟩⟩ := hrel
  cases gk with
  | zero => exact absurd HA.out (by simp [jalousieref15_word.l0])
  | succ k1 =>
   have H := HA.out
   clear HA
   simp only [jalousieref15_word.l0] at H
   by_cases c2 : x5_1 < (a0.size : Int)
   ·
    rw [if_pos c2] at H
    have c2b0 : decide (x5_1 < (a0.size : Int)) = true := decide_eq_true c2
    clear c2
    by_cases c3 : 0 ≤ x5_1
    ·
     rw [if_pos c3] at H
     have c3b0 : decide (0 ≤ x5_1) = true := decide_eq_true c3
     clear c3
     by_cases c5 : (bt a0 x5_1) = 32
     ·
      rw [if_pos c5] at H
      have c5b0 : ((bt a0 x5_1) == 32) = true := beq_iff_eq.mpr c5
      have c5b1 : ((bt a0 x5_1) != 32) = false := bne_eq_false_iff_eq.mpr c5
      clear c5
      have c6b0 := eq_true (of_decide_eq_true (by first | (with_reducible assumption) | assumption) : 0 ≤ x5_1)
      by_cases c7 : x5_1 ≤ (a0.size : Int)
      rotate_left
      ·
       rw [if_neg c7] at H
       exact absurd H (by simp)
      rw [if_pos c7] at H
      have c7b0 := eq_true c7
      have c7b1 : decide (x5_1 ≤ (a0.size : Int)) = true := decide_eq_true c7
      clear c7
      obtain ⟨ji8, hji8⟩ : ∃ j_ : Int, (wrap64 (x5_1 + 1)) = j_ := ⟨_, rfl⟩
      replace H : (if 0 ≤ (ji8) then (if (ji8) ≤ (a0.size : Int) then (some (a0.extract 0 (x5_1 : Int).toNat, a0.extract ((ji8) : Int).toNat a0.size, true)) else (none)) else (none)) = some (r1, r2, r3) := by first | (rw [hji8] at H; exact H) | (simp only [hji8] at H ⊢; exact H)
      have hji8w : (IntKind.i64.wrap (x5_1 + 1)) = ji8 := (i64_w _).trans hji8
      by_cases c9 : 0 ≤ (ji8)
      rotate_left
      ·
       rw [if_neg c9] at H
       exact absurd H (by simp)
      rw [if_pos c9] at H
      have c9b0 := eq_true c9
      have c9b1 : decide (0 ≤ (ji8)) = true := decide_eq_true c9
      clear c9
      by_cases c10 : (ji8) ≤ (a0.size : Int)
      rotate_left
      ·
       rw [if_neg c10] at H
       exact absurd H (by simp)
      rw [if_pos c10] at H
      have c10b0 := eq_true c10
      have c10b1 : decide ((ji8) ≤ (a0.size : Int)) = true := decide_eq_true c10
      clear c10
      simp only [Option.some.injEq, Prod.mk.injEq] at H
      obtain ⟨rfl, rfl, rfl⟩ := H
      have p4 : 0 ≤ (x5_1 : Int) := of_decide_eq_true (by first | (with_reducible assumption) | assumption)
      have q4 : x5_1 < (a0.size : Int) := of_decide_eq_true (by first | (with_reducible assumption) | assumption)
      have hx4 := bt_at a0 x5_1
      replace p4 := eq_true p4
      replace q4 := eq_true q4
      go_wp2
      repeat (go_quiet (fail); try go_wp2)
      go_ret3
      exact ⟨by first | rfl | (simp; done) | (simp only [← hji8] <;> (first | rfl | simp)) | (simp [*]; done), by repeat (first | exact Drawn0.refl _ | apply Drawn0.step)⟩
     ·
      rw [if_neg c5] at H
      have c5b0 : ((bt a0 x5_1) == 32) = false := beq_eq_false_iff_ne.mpr c5
      have c5b1 : ((bt a0 x5_1) != 32) = true := bne_iff_ne.mpr c5
      have H' := Aside0.mk H
      clear H
      have p4 : 0 ≤ (x5_1 : Int) := of_decide_eq_true (by first | (with_reducible assumption) | assumption)
      have q4 : x5_1 < (a0.size : Int) := of_decide_eq_true (by first | (with_reducible assumption) | assumption)
      have hx4 := bt_at a0 x5_1
      replace p4 := eq_true p4
      replace q4 := eq_true q4
      go_wp2
      repeat (go_quiet (fail); try go_wp2)
      go_roundg k1
      case measure => have := HK1.out; omega
      case rel => exact ⟨(wrap64 (x5_1 + 1)), (by first | rfl | (simp; done) | (simp [*]; done)), H', ⟨by have := HK1.out; omega⟩, by repeat (first | exact Drawn0.refl _ | apply Drawn0.step)⟩
    ·
     rw [if_neg c3] at H
     exact absurd H (by simp)
   rw [if_neg c2] at H
   have c2b0 : decide (x5_1 < (a0.size : Int)) = false := decide_eq_false c2
   clear c2
   simp only [Option.some.injEq, Prod.mk.injEq] at H
   obtain ⟨rfl, rfl, rfl⟩ := H
   go_wp2
   repeat (go_quiet (fail); try go_wp2)
   go_ret3
   exact ⟨by first | rfl | (simp; done) | (simp [*]; done), by repeat (first | exact Drawn0.refl _ | apply Drawn0.step)⟩
end Go.Proofs.YthppicgolkpbaaaDoor.P

/- the walk of jalousielaw15.DeltaSizes -/
import Derived.Test.YthppicgolkpbaaaDoorDeltaSizesHLawDeltaMakes
namespace Go.Proofs.YthppicgolkpbaaaDoor.P
open Go.RowKit Go.Proofs.YthppicgolkpbaaaDoorW.PrintWords Go.Proofs.YthppicgolkpbaaaDoorW.PrintLast Go.Proofs.YthppicgolkpbaaaDoorW.PrintMore
set_option linter.unusedVariables false
set_option linter.unusedSimpArgs false
theorem size_of_make {N O : List S41} (h0 : N.length ≤ 400000) (h1 : O.length ≤ 400000) : ∃ k, delta_Size.f k (makeOf N O) = some (ownOf (makeOf N O) : Int) :=
  Ev.rounds (size_tells (makeOf N O) (by have := (make_fit N O).1; omega) (by have := make_own_le N O; omega))
theorem make_self (N : List S41) : ownOf (makeOf N N) = 0 := by
  have := make_own_front N N.length
  rwa [List.take_length] at this
set_option maxHeartbeats 2000000 in
set_option maxRecDepth 100000 in
theorem DeltaSizes.walk (A0 : Option Addr) (c0 : Nat) (l0 : List S41) (A1 : Option Addr) (c1 : Nat) (l1 : List S41) (n : Int) (w : World) (hT : Tabs w)
    (hr0 : Kd.C k41 w A0 l0.length l0) (hc0 : l0.length ≤ c0) (hw0 : l0.all itemWf = true) (hr1 : Kd.C k41 w A1 l1.length l1) (hc1 : l1.length ≤ c1) (hw1 : l1.all itemWf = true) (hn : (Lit.int .u8 n).wf = true) :
    Calls Tryd.prog 7 #[.slice A0 l0.length c0, .slice A1 l1.length c1, .int .u8 n] w fun e w' => e = .returned (.bool true) ∧ Below w.heap.size w w' := by
  have hm0 := hr0.2.1
  have hm1 := hr1.2.1
  obtain ⟨N, hN⟩ : ∃ N, l0.take 40 = N := ⟨_, rfl⟩
  obtain ⟨O, hO⟩ : ∃ O, l1.take 40 = O := ⟨_, rfl⟩
  have hNl : min l0.length 40 = N.length := by rw [← hN, List.length_take, Nat.min_comm]
  have hOl : min l1.length 40 = O.length := by rw [← hO, List.length_take, Nat.min_comm]
  have hNk : N.length ≤ 40 := by omega
  have hOk : O.length ≤ 40 := by omega
  have HF0 := Lib.hid (few_calls A0 l0.length c0 w hm0 hc0)
  have HF1 := Lib.hid (few_calls A1 l1.length c1 w hm1 hc1)
  rw [hNl] at HF0
  rw [hOl] at HF1
  have hcN : N.length ≤ c0 := by omega
  have hcO : O.length ≤ c1 := by omega
  have HN := Lib.hid (show Kd.C k41 w A0 N.length N by rw [← hN]; exact few_C hr0)
  have HO := Lib.hid (show Kd.C k41 w A1 O.length O by rw [← hO]; exact few_C hr1)
  have hwN : N.all itemWf = true := by rw [← hN]; exact all_take hw0 40
  have hwO : O.all itemWf = true := by rw [← hO]; exact all_take hw1 40
  have hn0 : 0 ≤ n ∧ n ≤ 255 := by
    simp only [Lit.wf, Bool.and_eq_true, decide_eq_true_eq] at hn
    have h1 : (0 : Int) ≤ n := hn.1
    have h2 : n ≤ 255 := hn.2
    exact ⟨h1, h2⟩
  obtain ⟨m, hm, hmn⟩ : ∃ m : Nat, n % ((N.length : Int) + 1) = (m : Int) ∧ m ≤ N.length := by
    have h1 := Int.emod_nonneg n (show ((N.length : Int) + 1) ≠ 0 by omega)
    have h2 := Int.emod_lt_of_pos n (show (0 : Int) < (N.length : Int) + 1 by omega)
    exact ⟨(n % ((N.length : Int) + 1)).toNat, by omega, by omega⟩
  have hwK : (N.take m).all itemWf = true := all_take hwN m
  have HK := Lib.hid (Kd.C_take (m := m) HN.out hmn)
  have hKl : (N.take m).length = m := by rw [List.length_take]; omega
  have HM1 := Lib.hid (make_f hwN hwO (by omega : N.length ≤ 400000) (by omega : O.length ≤ 400000))
  have HM2 := Lib.hid (make_f hwN hwN (by omega : N.length ≤ 400000) (by omega : N.length ≤ 400000))
  have HM3 := Lib.hid (make_f hwN hwK (by omega : N.length ≤ 400000) (by omega : (N.take m).length ≤ 400000))
  have HM4 := Lib.hid (make_f (show ([] : List S41).all itemWf = true from rfl) hwO (by simp : ([] : List S41).length ≤ 400000) (by omega : O.length ≤ 400000))
  obtain ⟨k1, hk1⟩ := size_of_make (N := N) (O := O) (by omega) (by omega)
  obtain ⟨k2, hk2⟩ := size_of_make (N := N) (O := N) (by omega) (by omega)
  obtain ⟨k3, hk3⟩ := size_of_make (N := N) (O := N.take m) (by omega) (by omega)
  obtain ⟨k4, hk4⟩ := size_of_make (N := []) (O := O) (by simp) (by omega)
  have ho1 := make_own_le N O
  rw [make_self] at hk2
  rw [make_own_front] at hk3
  rw [make_own_none] at hk4
  have hcut := cut_few
  have HC := Lib.hid (fun W => cut_few W A0 N.length c0 m hmn hcN)
  clear hcut
  obtain ⟨P, hP⟩ : ∃ P, N.take m = P := ⟨_, rfl⟩
  rw [hP] at HK HM3 hk3 hKl
  have hPc : P.length ≤ c0 := by omega
  have hNil := Lib.hid (fun W : World => (Kd.C_nil k41 W : Kd.C k41 W none 0 []))
  have HT := Lib.hid hT
  generalize makeOf N O = d1 at HM1 hk1 ho1
  generalize makeOf N N = d2 at HM2 hk2
  generalize makeOf N P = d3 at HM3 hk3
  generalize makeOf [] O = d4 at HM4 hk4
  have HK1 := Lib.hid hk1
  have HK2 := Lib.hid hk2
  have HK3 := Lib.hid hk3
  have HK4 := Lib.hid hk4
  have hle : decide ((ownOf d1 : Int) ≤ (O.length : Int)) = true := by simpa using ho1
  clear hk1 hk2 hk3 hk4 hr0 hr1 hw0 hw1 hT hN hO hNl hOl hwN hwO hwK hP hn
  have hcw := HC.out
  have hPm : P.length = m := hKl
  rw [← hPm] at hm hcw
  obtain ⟨hn1, hn2⟩ := hn0
  have HB := Lib.hid (Below.refl w.heap.size w)
  clear HC hKl hNil hPm
  go_enter Tryd.func7, Tryd.ntmps7
  go_upto_region 3 with (first
    | (go_at_call 10; (with_reducible refine (HF0.out).mono ?_); rintro e w1 ⟨rfl, rfl⟩)
    | (go_at_call 10; (with_reducible refine (HF1.out).mono ?_); rintro e w1 ⟨rfl, rfl⟩))
  rw [hm]
  clear hm hn1 hn2
  go_wp2_with (first
    | (go_at_call 10; (with_reducible refine (HF0.out).mono ?_); rintro e w1 ⟨rfl, rfl⟩)
    | (go_at_call 10; (with_reducible refine (HF1.out).mono ?_); rintro e w1 ⟨rfl, rfl⟩)
    | (go_at_call 12; (refine (jalousielaw15_live.calls true _ (HT.out.below HB.out) rfl).mono ?_); rintro e w2 ⟨rfl, hb⟩; have HB1 := Lib.hid (below_step HB.out hb); clear hb HB; have HB := HB1; clear HB1)
    | (go_at_call 11; (with_reducible refine (delta_Make.calls A0 c0 N A1 c1 O _ _ (Kd.C_below HN.out HB.out) hcN (Kd.C_below HO.out HB.out) hcO HM1.out).mono ?_); rintro e w10 ⟨v10, rfl, hr, hb⟩; obtain ⟨D10, k10_, rfl, hk10_, hC10⟩ := Kd.R_reads hr; have HD10 := Lib.hid hC10; have HB1 := Lib.hid (below_step HB.out hb); clear hr hb hC10 HB; have HB := HB1; clear HB1)
    | (go_at_call 11; (with_reducible refine (delta_Make.calls A0 c0 N A0 c0 N _ _ (Kd.C_below HN.out HB.out) hcN (Kd.C_below HN.out HB.out) hcN HM2.out).mono ?_); rintro e w11 ⟨v11, rfl, hr, hb⟩; obtain ⟨D11, k11_, rfl, hk11_, hC11⟩ := Kd.R_reads hr; have HD11 := Lib.hid hC11; have HB1 := Lib.hid (below_step HB.out hb); clear hr hb hC11 HB; have HB := HB1; clear HB1)
    | (go_at_call 11; (with_reducible refine (delta_Make.calls A0 c0 N A0 c0 P _ _ (Kd.C_below HN.out HB.out) hcN (Kd.C_below HK.out HB.out) hPc HM3.out).mono ?_); rintro e w12 ⟨v12, rfl, hr, hb⟩; obtain ⟨D12, k12_, rfl, hk12_, hC12⟩ := Kd.R_reads hr; have HD12 := Lib.hid hC12; have HB1 := Lib.hid (below_step HB.out hb); clear hr hb hC12 HB; have HB := HB1; clear HB1)
    | (go_at_call 11; (refine (delta_Make.calls none 0 [] A1 c1 O _ _ (Kd.C_nil _ _) (Nat.le_refl 0) (Kd.C_below HO.out HB.out) hcO HM4.out).mono ?_); rintro e w13 ⟨v13, rfl, hr, hb⟩; obtain ⟨D13, k13_, rfl, hk13_, hC13⟩ := Kd.R_reads hr; have HD13 := Lib.hid hC13; have HB1 := Lib.hid (below_step HB.out hb); clear hr hb hC13 HB; have HB := HB1; clear HB1)
    | (go_at_call 15; (with_reducible refine (delta_Size.calls k1 D10 k10_ d1 _ _ HD10.out hk10_ HK1.out).mono ?_); rintro e w20 ⟨rfl, hb⟩; have HB1 := Lib.hid (below_step HB.out hb); clear hb HB; have HB := HB1; clear HB1)
    | (go_at_call 15; (with_reducible refine (delta_Size.calls k2 D11 k11_ d2 _ _ HD11.out hk11_ HK2.out).mono ?_); rintro e w21 ⟨rfl, hb⟩; have HB1 := Lib.hid (below_step HB.out hb); clear hb HB; have HB := HB1; clear HB1)
    | (go_at_call 15; (with_reducible refine (delta_Size.calls k3 D12 k12_ d3 _ _ HD12.out hk12_ HK3.out).mono ?_); rintro e w22 ⟨rfl, hb⟩; have HB1 := Lib.hid (below_step HB.out hb); clear hb HB; have HB := HB1; clear HB1)
    | (go_at_call 15; (with_reducible refine (delta_Size.calls k4 D13 k13_ d4 _ _ HD13.out hk13_ HK4.out).mono ?_); rintro e w23 ⟨rfl, hb⟩; have HB1 := Lib.hid (below_step HB.out hb); clear hb HB; have HB := HB1; clear HB1))
  go_ret
  exact ⟨rfl, HB.out⟩
end Go.Proofs.YthppicgolkpbaaaDoor.P

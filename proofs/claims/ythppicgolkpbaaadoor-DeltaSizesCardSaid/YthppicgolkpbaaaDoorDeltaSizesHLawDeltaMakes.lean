/- the walk of jalousielaw15.DeltaMakes -/
import Derived.Test.YthppicgolkpbaaaDoorDeltaSizesGHTabs
import Derived.Test.YthppicgolkpbaaaDoorDeltaSizesHDMake
import Derived.Test.YthppicgolkpbaaaDoorDeltaSizesHDDeltaLaws
import Derived.Test.YthppicgolkpbaaaDoorDeltaSizesHLive15
import Derived.Test.YthppicgolkpbaaaDoorDeltaSizesHOpenStruct
namespace Go.Proofs.YthppicgolkpbaaaDoor.P
open Go.RowKit Go.Proofs.YthppicgolkpbaaaDoorW.PrintWords Go.Proofs.YthppicgolkpbaaaDoorW.PrintLast Go.Proofs.YthppicgolkpbaaaDoorW.PrintMore
set_option linter.unusedVariables false
set_option linter.unusedSimpArgs false
theorem wf_of_open {l : List S41} (h : ∀ z ∈ l, (Lit.int .i64 z.f0).wf = true ∧ ((Lit.int .i64 z.f1.f0).wf = true ∧ (Lit.int .u64 z.f1.f1).wf = true) ∧ True ∧ (z.f3.f0.size ≤ maxLen ∧ True)) : l.all itemWf = true := List.all_eq_true.2 fun x hx => by
  obtain ⟨h0, ⟨h1, h2⟩, _, h3, _⟩ := h x hx
  unfold itemWf
  rw [h0, h1, h2]
  simpa using h3
theorem all_take {l : List S41} (h : l.all itemWf = true) (n : Nat) : (l.take n).all itemWf = true := List.all_eq_true.2 fun x hx => List.all_eq_true.1 h x (List.mem_of_mem_take hx)
theorem make_f {N O : List S41} (hN : N.all itemWf = true) (hO : O.all itemWf = true) (h0 : N.length ≤ 400000) (h1 : O.length ≤ 400000) : delta_Make.f N O = some (makeOf N O) := by
  unfold delta_Make.f
  rw [hN, hO]
  simp [h0, h1]
theorem own_take_succ (d : List S27) (i : Nat) (h : i < d.length) : ownOf (d.take (i + 1)) = ownOf (d.take i) + (rd_T27 d (i : Int)).f2.length := by
  have : d.take (i + 1) = d.take i ++ [rd_T27 d (i : Int)] := by rw [List.take_add_one, part_at d i h]; rfl
  rw [this, own_snoc]
theorem own_take_le (d : List S27) (i : Nat) : ownOf (d.take i) ≤ ownOf d := by
  conv => rhs; rw [← List.take_append_drop i d]
  unfold ownOf
  rw [List.map_append, List.sum_append]
  omega
def MakesRel (d : List S27) (v6 v7 : Value) : Prop := ∃ i : Nat, i ≤ d.length ∧ v7 = .int .i64 (i : Int) ∧ v6 = .int .i64 (ownOf (d.take i) : Int)
theorem DeltaMakes.walk (A0 : Option Addr) (c0 : Nat) (l0 : List S41) (A1 : Option Addr) (c1 : Nat) (l1 : List S41) (w : World) (hT : Tabs w)
    (hr0 : Kd.C k41 w A0 l0.length l0) (hc0 : l0.length ≤ c0) (hw0 : l0.all itemWf = true) (hr1 : Kd.C k41 w A1 l1.length l1) (hc1 : l1.length ≤ c1) (hw1 : l1.all itemWf = true) :
    Calls Tryd.prog 3 #[.slice A0 l0.length c0, .slice A1 l1.length c1] w fun e w' => e = .returned (.bool true) ∧ Below w.heap.size w w' := by
  have hm0 := hr0.2.1
  have hm1 := hr1.2.1
  obtain ⟨N, hN⟩ : ∃ N, l0.take 40 = N := ⟨_, rfl⟩
  obtain ⟨O, hO⟩ : ∃ O, l1.take 40 = O := ⟨_, rfl⟩
  have hNl : min l0.length 40 = N.length := by rw [← hN, List.length_take, Nat.min_comm]
  have hOl : min l1.length 40 = O.length := by rw [← hO, List.length_take, Nat.min_comm]
  have hNk : N.length ≤ 40 := by omega
  have hOk : O.length ≤ 40 := by omega
  have HF0 := Lib.hid (few_calls A0 l0.length c0 w hm0 hc0)
  have HF1 := Lib.hid (few_calls A1 l1.length c1 w hm1 hc1)
  rw [hNl] at HF0
  rw [hOl] at HF1
  have hcN : N.length ≤ c0 := by omega
  have hcO : O.length ≤ c1 := by omega
  have HN := Lib.hid (show Kd.C k41 w A0 N.length N by rw [← hN]; exact few_C hr0)
  have HO := Lib.hid (show Kd.C k41 w A1 O.length O by rw [← hO]; exact few_C hr1)
  have HMK := Lib.hid (make_f (by rw [← hN]; exact all_take hw0 40) (by rw [← hO]; exact all_take hw1 40) (by omega : N.length ≤ 400000) (by omega : O.length ≤ 400000))
  have hfit := make_fit N O
  have hown := make_own_le N O
  obtain ⟨kr, hkr⟩ := Ev.rounds (ref_make N O (by omega) (by omega) (N.length + O.length) 0 0 0 [] (Nat.zero_le _) (Nat.zero_le _) (by omega) ⟨⟨Nat.zero_le _, fun p h => by cases h⟩, (fun h => by cases h), (fun h => by cases h)⟩)
  have HRF := Lib.hid (show jalousieref15_Make.f kr N O = some (makeOf N O) from hkr)
  obtain ⟨ks, hks⟩ := Ev.rounds (parts_same (makeOf N O) (by have := hfit.1; omega) (fun p hp => by have := hfit.2 p hp; omega))
  obtain ⟨kz, hkz⟩ := Ev.rounds (size_tells (makeOf N O) (by have := hfit.1; omega) (by omega))
  have hdl := hfit.1
  have HFT := Lib.hid hfit
  have HT := Lib.hid hT
  clear hfit
  generalize makeOf N O = d at HMK HRF hks hkz hdl hown HFT
  have HKS := Lib.hid hks
  have HKZ := Lib.hid hkz
  clear hks hkz hkr hr0 hr1 hw0 hw1 hT hN hO hNl hOl
  go_enter Tryd.func3, Tryd.ntmps3
  go_wp2_with (first
    | (go_at_call 10; (with_reducible refine (HF0.out).mono ?_); rintro e w1 ⟨rfl, rfl⟩)
    | (go_at_call 10; (with_reducible refine (HF1.out).mono ?_); rintro e w1 ⟨rfl, rfl⟩)
    | (go_at_call 11; (refine (delta_Make.calls A0 c0 N A1 c1 O _ _ HN.out hcN HO.out hcO HMK.out).mono ?_); rintro e w1 ⟨v0, rfl, hr, hb⟩; obtain ⟨A2, c2, rfl, hc2, hC2⟩ := Kd.R_reads hr; have HD := Lib.hid hC2; have HB := Lib.hid hb; clear hr hb hC2))
  go_loop [6, 7] (fun v6 v7 => MakesRel d v6 v7) (fun _ v7 => d.length - (intOf v7).toNat)
  case atStart => exact ⟨0, Nat.zero_le _, rfl, rfl⟩
  case round =>
    obtain ⟨i, hi, rfl, rfl⟩ := hrel
    by_cases hil : i < d.length
    · have hd : decide (i < d.length) = true := by simpa using hil
      obtain ⟨ad, B9, b9, rfl, p0, p1, p2, _, _⟩ := at_T27 HD.out (i : Int) (by omega) (by omega)
      rw [Int.toNat_natCast] at p0 p1 p2
      have hq := own_take_succ d i hil
      have hle := own_take_le d (i + 1)
      have HQ := Lib.hid hq
      have hw : IntKind.i64.wrap ((ownOf (d.take i) : Int) + ((rd_T27 d (i : Int)).f2.length : Int)) = ((ownOf (d.take (i + 1)) : Nat) : Int) := by rw [IntWalk.i64_in _ (by omega), hq]; omega
      clear hq p0 p1
      go_wp2
      go_round
      case rel => exact ⟨i + 1, by omega, by go_num, rfl⟩
      case measure => simp [intOf]; omega
    · have hd : decide (i < d.length) = false := by simpa using hil
      obtain rfl : i = d.length := by omega
      rw [List.take_length]
      go_wp2_with (first
        | (go_at_call 12; (refine (jalousielaw15_live.calls true _ (HT.out.below HB.out) rfl).mono ?_); rintro e w2 ⟨rfl, hb⟩; have HB2 := Lib.hid (below_step HB.out hb); have HL2 := Lib.hid hb; clear hb)
        | (go_at_call 14; (refine (jalousieref15_Make.calls kr A0 c0 N A1 c1 O d _ (Kd.C_below HN.out HB2.out) hcN (Kd.C_below HO.out HB2.out) hcO HRF.out).mono ?_); rintro e w3 ⟨v3, rfl, hr, hb⟩; obtain ⟨A3, c3, rfl, hc3, hC3⟩ := Kd.N_reads hr; have HD3 := Lib.hid hC3; have HB3 := Lib.hid (below_step HB2.out hb); have HDD := Lib.hid (Kd.C_below HD.out (below_step HL2.out hb)); clear hr hb hC3)
        | (go_at_call 13; (refine (jalousieref15_Same.calls ks A2 c2 d A3 c3 d true _ HDD.out hc2 HD3.out hc3 HKS.out).mono ?_); rintro e w4 ⟨rfl, hdr⟩; have HB4 := Lib.hid (below_step HB3.out (Drawn0.below hdr)); have HD4 := Lib.hid (Kd.C_below HDD.out (Drawn0.below hdr)); clear hdr)
        | (go_at_call 15; (refine (delta_Size.calls kz A2 c2 d _ _ HD4.out hc2 HKZ.out).mono ?_); rintro e w5 ⟨rfl, hb⟩; have HB5 := Lib.hid (below_step HB4.out hb); clear hb))
      go_ret
      exact ⟨rfl, HB5.out⟩
end Go.Proofs.YthppicgolkpbaaaDoor.P

/- the walk of jalousielaw15.DeltaBack -/
import Derived.Test.YthppicgolkpbaaaDoorDeltaBackHLawDeltaMakes
import Derived.Test.YthppicgolkpbaaaDoorDeltaBackHDApplyPlain
import Derived.Test.YthppicgolkpbaaaDoorDeltaBackPxJalousieref04
import Derived.Test.YthppicgolkpbaaaDoorDeltaBackPxDelta
namespace Go.Proofs.YthppicgolkpbaaaDoor.P
open Go.RowKit Go.Proofs.YthppicgolkpbaaaDoorW.PrintWords Go.Proofs.YthppicgolkpbaaaDoorW.PrintLast Go.Proofs.YthppicgolkpbaaaDoorW.PrintMore
set_option linter.unusedVariables false
set_option linter.unusedSimpArgs false
theorem DeltaBack.walk (A0 : Option Addr) (c0 : Nat) (l0 : List S41) (A1 : Option Addr) (c1 : Nat) (l1 : List S41) (w : World) (hT : Tabs w)
    (hr0 : Kd.C k41 w A0 l0.length l0) (hc0 : l0.length ≤ c0) (hw0 : l0.all itemWf = true) (hr1 : Kd.C k41 w A1 l1.length l1) (hc1 : l1.length ≤ c1) (hw1 : l1.all itemWf = true) :
    Calls Tryd.prog 4 #[.slice A0 l0.length c0, .slice A1 l1.length c1] w fun e w' => e = .returned (.bool true) ∧ Below w.heap.size w w' := by
  have hm0 := hr0.2.1
  have hm1 := hr1.2.1
  obtain ⟨N, hN⟩ : ∃ N, l0.take 40 = N := ⟨_, rfl⟩
  obtain ⟨O, hO⟩ : ∃ O, l1.take 40 = O := ⟨_, rfl⟩
  have hNl : min l0.length 40 = N.length := by rw [← hN, List.length_take, Nat.min_comm]
  have hOl : min l1.length 40 = O.length := by rw [← hO, List.length_take, Nat.min_comm]
  have hNk : N.length ≤ 40 := by omega
  have hOk : O.length ≤ 40 := by omega
  have HF0 := Lib.hid (few_calls A0 l0.length c0 w hm0 hc0)
  have HF1 := Lib.hid (few_calls A1 l1.length c1 w hm1 hc1)
  rw [hNl] at HF0
  rw [hOl] at HF1
  have hcN : N.length ≤ c0 := by omega
  have hcO : O.length ≤ c1 := by omega
  have HN := Lib.hid (show Kd.C k41 w A0 N.length N by rw [← hN]; exact few_C hr0)
  have HO := Lib.hid (show Kd.C k41 w A1 O.length O by rw [← hO]; exact few_C hr1)
  have hwN : N.all itemWf = true := by rw [← hN]; exact all_take hw0 40
  have hwO : O.all itemWf = true := by rw [← hO]; exact all_take hw1 40
  have HMK := Lib.hid (make_f hwN hwO (by omega : N.length ≤ 400000) (by omega : O.length ≤ 400000))
  have hfit := make_fit N O
  obtain ⟨ka, hka⟩ := Ev.rounds (apply_tells N (by omega) (makeOf N O) (by have := hfit.1; omega) (make_cost N O (by omega) (by omega)))
  rw [apply_make] at hka
  obtain ⟨ks, hks⟩ := Ev.rounds (items_same O (by omega))
  have HT := Lib.hid hT
  clear hfit
  generalize makeOf N O = d at HMK hka
  have HKA := Lib.hid hka
  have HKS := Lib.hid hks
  clear hks hka hr0 hr1 hw0 hw1 hT hN hO hNl hOl hwN hwO
  go_enter Tryd.func4, Tryd.ntmps4
  go_wp2_with (first
    | (go_at_call 10; (with_reducible refine (HF0.out).mono ?_); rintro e w1 ⟨rfl, rfl⟩)
    | (go_at_call 10; (with_reducible refine (HF1.out).mono ?_); rintro e w1 ⟨rfl, rfl⟩)
    | (go_at_call 11; (refine (delta_Make.calls A0 c0 N A1 c1 O _ _ HN.out hcN HO.out hcO HMK.out).mono ?_); rintro e w1 ⟨v0, rfl, hr, hb⟩; obtain ⟨A2, c2, rfl, hc2, hC2⟩ := Kd.R_reads hr; have HD := Lib.hid hC2; have HB := Lib.hid hb; clear hr hb hC2)
    | (go_at_call 16; (refine (delta_Apply.calls ka A0 c0 N A2 c2 d _ _ _ (Kd.C_below HN.out HB.out) hcN HD.out hc2 HKA.out).mono ?_); rintro e w2 ⟨v0, rfl, hr, hb⟩; obtain ⟨A3, c3, rfl, hc3, hC3⟩ := Kd.R_reads hr; have HL := Lib.hid hC3; have HB2 := Lib.hid (below_step HB.out hb); clear hr hb hC3)
    | (go_at_call 12; (refine (jalousielaw15_live.calls true _ (HT.out.below HB2.out) rfl).mono ?_); rintro e w3 ⟨rfl, hb⟩; have HB3 := Lib.hid (below_step HB2.out hb); have HL3 := Lib.hid (Kd.C_below HL.out hb); clear hb)
    | (go_at_call 17; (refine (jalousieref04_Same.calls ks A3 c3 O A1 c1 O true _ HL3.out hc3 (Kd.C_below HO.out HB3.out) hcO HKS.out).mono ?_); rintro e w4 ⟨rfl, hdr⟩; have HB4 := Lib.hid (below_step HB3.out (Drawn0.below hdr)); clear hdr))
  go_ret
  exact ⟨rfl, HB4.out⟩
end Go.Proofs.YthppicgolkpbaaaDoor.P

/- the walk of jalousielaw01.TextLines -/
import Derived.Test.YtlhodalfbmdnnaaDoorPx0
import Derived.Test.YtlhodalfbmdnnaaDoorHLines
import Derived.Test.YtlhodalfbmdnnaaDoorHRefLines
import Derived.Test.YtlhodalfbmdnnaaDoorHRefRight
import Derived.Test.YtlhodalfbmdnnaaDoorHLineLaws
import Derived.Test.YtlhodalfbmdnnaaDoorHLive01
import Derived.Deep.RegionWith
namespace Go.Proofs.YtlhodalfbmdnnaaDoor.P
open Go.RowKit Go.Proofs.YtlhodalfbmdnnaaDoorW.PrintWords Go.Proofs.YtlhodalfbmdnnaaDoorW.PrintLast Go.Proofs.YtlhodalfbmdnnaaDoorW.PrintMore
set_option linter.unusedVariables false
set_option linter.unusedSimpArgs false

set_option maxHeartbeats 4000000 in
set_option maxRecDepth 100000 in
theorem TextLines.walk (A0 : Option Addr) (c0 : Nat) (l0 : List Int) (A1 : Option Addr) (c1 : Nat) (l1 : List S59) (w : World)
    (hr0 : Kd.C (Kd.int .u8) w A0 l0.length l0) (hc0 : l0.length ≤ c0) (hs0 : l0.length < 2000000) (hr1 : Kd.C k59 w A1 l1.length l1) (hc1 : l1.length ≤ c1) (hs1 : (l1.map fun z => z.f0.size + 1 + 1 + 1).sum < 2000000) :
    Calls Tryd.prog 7 #[.slice A0 l0.length c0, .slice A1 l1.length c1] w fun e w' => e = .returned (.bool true) ∧ Below w.heap.size w w' := by
  obtain ⟨X, hX⟩ : ∃ X, linesOf l0 = X := ⟨_, rfl⟩
  obtain ⟨J, hJ⟩ : ∃ J, joinOf l1 = J := ⟨_, rfl⟩
  obtain ⟨R, hR⟩ : ∃ R, rightOf l1 = R := ⟨_, rfl⟩
  have hXl : X.length ≤ 140737488355328 := by subst hX; have := linesOf_le l0; omega
  have hl1 : l1.length ≤ 140737488355328 := by have := sum_ge l1; omega
  have hJl : (joinOf l1).length < 140737488355328 := by have := joinOf_le l1; omega
  have H1 := Lib.hid (show text_Lines.f l0 = some X by rw [text_Lines.f, if_pos (by omega), hX])
  have H2 := Lib.hid (show jalousieref01_Lines.f l0 = some X by rw [jalousieref01_Lines.f, if_pos (by omega), hX])
  have H3 := Lib.hid (same_self X hXl)
  have H4 := Lib.hid ((text_Join_tells l1 hl1 hJl).trans (congrArg some hJ))
  have H5 := Lib.hid ((ref_Join_tells l1 hl1 hJl).trans (congrArg some hJ))
  have H6 := Lib.hid ((text_Right_tells l1 hl1).trans (congrArg some hR))
  have H7 := Lib.hid ((ref_Right_tells l1 hl1 (fun x hx => by have := mem_sum l1 x hx; omega)).trans (congrArg some hR))
  have HA0 := Lib.hid hr0
  have HA1 := Lib.hid hr1
  have HC0 := Lib.hid hc0
  have HC1 := Lib.hid hc1
  clear hX hJ hR hXl hl1 hJl hs0 hs1 hr0 hr1 hc0 hc1
  have HB := Lib.hid (Below.refl w.heap.size w)
  go_enter Tryd.func7, Tryd.ntmps7
  go_wp2
  go_region_with (first
    | (go_at_call 18; (refine (jalousielaw01_live.calls true _ rfl).mono ?_); rintro e w1 ⟨rfl, hb⟩; have HB1 := Lib.hid (below_step (show Below w.heap.size w _ from by repeat (first | exact HB.out | apply below_drew)) hb); clear hb HB; have HB := HB1; clear HB1)
    | (go_at_call 25; (refine (text_Lines.calls A0 c0 l0 X _ (Kd.C_below HA0.out HB.out) HC0.out H1.out).mono ?_); rintro e w2 ⟨v2, rfl, ho, hb⟩; obtain ⟨A2, c2, rfl, hc2, hC2⟩ := Kd.R_reads ho; have HX2 := Lib.hid (And.intro hc2 hC2); have HB1 := Lib.hid (below_step HB.out hb); clear hb HB ho hc2 hC2; have HB := HB1; clear HB1)
    | (go_at_call 28; (refine (jalousieref01_Lines.calls A0 c0 l0 X _ (Kd.C_below HA0.out HB.out) HC0.out H2.out).mono ?_); rintro e w3 ⟨v3, rfl, ho, hb⟩; obtain ⟨A3, c3, rfl, hc3, hC3⟩ := Kd.R_reads ho; have HX3 := Lib.hid (And.intro hc3 hC3); have HX22 := Lib.hid (And.intro HX2.out.1 (Kd.C_below HX2.out.2 hb)); have HB1 := Lib.hid (below_step HB.out hb); clear hb HB ho hc3 hC3 HX2; have HB := HB1; have HX2 := HX22; clear HB1 HX22)
    | (go_at_call 27; (refine (jalousieref01_Same.calls (X.length + 1) _ _ X _ _ X true _ HX2.out.2 HX2.out.1 HX3.out.2 HX3.out.1 H3.out).mono ?_); rintro e w4 ⟨rfl, hd⟩; have HB1 := Lib.hid (below_step HB.out (Drawn0.below hd)); clear hd HB HX2 HX3; have HB := HB1; clear HB1)
    | (go_at_call 26; (refine (text_Join.calls (l1.length + 1) A1 c1 l1 J _ (Kd.C_below HA1.out HB.out) HC1.out H4.out).mono ?_); rintro e w5 ⟨v5, rfl, ho, hb⟩; obtain ⟨A5, c5, rfl, hc5, hC5⟩ := Kd.R_reads ho; have HX5 := Lib.hid hC5; have hcv5 := Kd.C_string (P := Tryd.prog) (c := c5) Tryd.underlying30 Tryd.underlying5 Tryd.underlying9 hC5; have HB1 := Lib.hid (below_step HB.out hb); clear hb HB ho hc5 hC5; have HB := HB1; clear HB1)
    | (go_at_call 29; (refine (jalousieref01_Join.calls (l1.length + 1) A1 c1 l1 J _ (Kd.C_below HA1.out HB.out) HC1.out H5.out).mono ?_); rintro e w6 ⟨v6, rfl, ho, hb⟩; obtain ⟨A6, c6, rfl, hc6, hC6⟩ := Kd.R_reads ho; have hcv6 := Kd.C_string (P := Tryd.prog) (c := c6) Tryd.underlying30 Tryd.underlying5 Tryd.underlying9 hC6; have hcv56 := Kd.C_string (P := Tryd.prog) (c := c5) Tryd.underlying30 Tryd.underlying5 Tryd.underlying9 (Kd.C_below HX5.out hb); have HB1 := Lib.hid (below_step HB.out hb); clear hb HB ho hc6 hC6; have HB := HB1; clear HB1)
    | (go_at_call 30; (refine (text_Right.calls (l1.length + 1) A1 c1 l1 R _ (Kd.C_below HA1.out HB.out) HC1.out H6.out).mono ?_); rintro e w7 ⟨rfl, hb⟩; have HB1 := Lib.hid (below_step HB.out hb); clear hb HB; have HB := HB1; clear HB1)
    | (go_at_call 31; (refine (jalousieref01_Right.calls (rrNeed l1) A1 c1 l1 R _ (Kd.C_below HA1.out HB.out) HC1.out H7.out).mono ?_); rintro e w8 ⟨rfl, hd⟩; have HB1 := Lib.hid (below_step HB.out (Drawn0.below hd)); clear hd HB; have HB := HB1; clear HB1))
  all_goals (clear H1 H2 H3 H4 H5 H6 H7; cases R <;> (go_wp2; go_ret; exact ⟨rfl, HB.out⟩))
end Go.Proofs.YtlhodalfbmdnnaaDoor.P

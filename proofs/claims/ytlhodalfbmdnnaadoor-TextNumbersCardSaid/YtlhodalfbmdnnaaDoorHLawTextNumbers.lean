/- the walk of jalousielaw01.TextNumbers -/
import Derived.Test.YtlhodalfbmdnnaaDoorPx0
import Derived.Test.YtlhodalfbmdnnaaDoorHNum
import Derived.Test.YtlhodalfbmdnnaaDoorHDec
import Derived.Test.YtlhodalfbmdnnaaDoorHLive01
namespace Go.Proofs.YtlhodalfbmdnnaaDoor.P
open Go.RowKit Go.Proofs.YtlhodalfbmdnnaaDoorW.PrintWords Go.Proofs.YtlhodalfbmdnnaaDoorW.PrintLast Go.Proofs.YtlhodalfbmdnnaaDoorW.PrintMore
set_option linter.unusedVariables false
set_option linter.unusedSimpArgs false

set_option maxHeartbeats 1000000 in
set_option maxRecDepth 100000 in
theorem TextNumbers.walk (s : ByteArray) (n : Int) (w : World) :
    Calls Tryd.prog 3 #[.string s, .int .i64 n] w fun e w' => e = .returned (.bool true) ∧ Below w.heap.size w w' := by
  obtain ⟨a, b, hab⟩ : ∃ a b, numOf s = (a, b) := ⟨_, _, rfl⟩
  have H1 := Lib.hid ((text_Number_tells s).trans (congrArg some hab))
  have H2 := Lib.hid ((ref_Number_tells s).trans (congrArg some hab))
  have H3 := Lib.hid (ref_Decimal_tells n)
  clear hab
  go_enter Tryd.func3, Tryd.ntmps3
  go_wp2_with (first
    | (go_at_call 16; (refine (text_Number.calls _ _ _ _ _ H1.out).mono ?_); rintro e w1 ⟨rfl, ⟨n1, rfl⟩⟩)
    | (go_at_call 17; (refine (jalousieref01_Number.calls _ _ _ _ _ H2.out).mono ?_); rintro e w1 ⟨rfl, ⟨n2, rfl⟩⟩)
    | (go_at_call 18; (refine (jalousielaw01_live.calls true _ rfl).mono ?_); rintro e w1 ⟨rfl, hb⟩; have HB1 := Lib.hid (below_step (show Below w.heap.size w _ from by repeat (first | exact Below.refl _ _ | apply pw_below_drewN)) hb); clear hb)
    | (go_at_call 19; (refine (text_Decimal.calls n _ _ rfl).mono ?_); rintro e w2 ⟨rfl, hb⟩; have HB2 := Lib.hid (below_step HB1.out hb); clear hb; clear HB1)
    | (go_at_call 20; (refine (jalousieref01_Decimal.calls _ n _ _ H3.out).mono ?_); rintro e w3 ⟨rfl, hb⟩; have HB3 := Lib.hid (below_step HB2.out hb); clear hb; clear HB2))
  go_ret
  exact ⟨rfl, HB3.out⟩
end Go.Proofs.YtlhodalfbmdnnaaDoor.P

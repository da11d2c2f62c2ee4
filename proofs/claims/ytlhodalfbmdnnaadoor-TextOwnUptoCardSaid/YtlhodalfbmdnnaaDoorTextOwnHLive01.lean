/- jalousielaw01.live answers true; condition: none. -/
import Derived.Test.YtlhodalfbmdnnaaDoorTextOwnPx0
import Derived.Test.YtlhodalfbmdnnaaDoorTextOwnHTabs
import Derived.Test.YtlhodalfbmdnnaaDoorTextOwnHText
import Derived.Test.YtlhodalfbmdnnaaDoorTextOwnHLines
import Derived.Test.YtlhodalfbmdnnaaDoorTextOwnPxText
import Derived.Test.YtlhodalfbmdnnaaDoorTextOwnPxEq59
import Derived.Lib.SlBytesConst
import Derived.Lib.Hide
namespace Go.Proofs.YtlhodalfbmdnnaaDoor.P
open Go.RowKit Go.Proofs.YtlhodalfbmdnnaaDoorW.PrintWords Go.Proofs.YtlhodalfbmdnnaaDoorW.PrintLast Go.Proofs.YtlhodalfbmdnnaaDoorW.PrintMore
set_option linter.unusedVariables false
set_option linter.unusedSimpArgs false
attribute [local go_sem high] eqA59
def jalousielaw01_live.f : Option Bool := some true
/-- two lines that were made, as they lie -/
theorem live_cells {W : World} {base : Nat} {ok : Nat → Prop} {v : Value} {x y : S59} (ho : Kd.R k59 59 W base ok v [x, y]) : ∃ g c, v = .slice (some ⟨g, 0, none⟩) 2 c ∧ W.cell? ⟨g, 0, none⟩ = some (.string x.f0) ∧ W.cell? ⟨g, 1, none⟩ = some (.bool x.f1) ∧ W.cell? ⟨g, 2, none⟩ = some (.string y.f0) ∧ W.cell? ⟨g, 3, none⟩ = some (.bool y.f1) := by
  obtain ⟨inner, hin⟩ := Kd.R_own ho
  obtain ⟨A, c, e, hc, hC⟩ := Kd.R_reads ho
  obtain ⟨_, ⟨_, h0⟩ | ⟨g, cap, cur, rfl, _⟩⟩ := hin
  · cases h0
  · cases e
    obtain ⟨ad, e1, hx0, hx1⟩ := at_T59 hC 0 (by omega) (by simp)
    obtain ⟨ad', e2, hy0, hy1⟩ := at_T59 hC 1 (by omega) (by simp)
    cases e1
    cases e2
    exact ⟨g, _, rfl, by simpa [Addr.add, rd_T59] using hx0, by simpa [Addr.add, rd_T59] using hx1, by simpa [Addr.add, rd_T59] using hy0, by simpa [Addr.add, rd_T59] using hy1⟩
theorem live_lines : text_Lines.f [97, 10, 98] = some [⟨⟨#[97]⟩, false⟩, ⟨⟨#[98]⟩, true⟩] := by
  rw [text_Lines.f, if_pos (by decide)]; rfl
theorem live_number : text_Number.f 5 ⟨#[49, 50, 48]⟩ = some (120, true) := by decide +kernel
theorem live_decimal : text_Decimal.f 7 = some ⟨#[55]⟩ := rfl
theorem live_name : text_Name.f 5 ⟨#[120]⟩ = some true := by decide +kernel
theorem live_words : text_Words.f ⟨#[97, 32, 98]⟩ = some [⟨#[97]⟩, ⟨#[98]⟩] := by rfl
set_option maxHeartbeats 2000000 in
set_option maxRecDepth 100000 in
theorem jalousielaw01_live.calls (r : Bool) (w : World) (h : jalousielaw01_live.f = some r) :
    Calls Tryd.prog 18 #[] w fun e w' => e = .returned (.bool r) ∧ Below w.heap.size w w' := by
  obtain rfl := Option.some.inj h
  clear h
  have hu59 := Tryd.underlying59
  have hconv := Lib.run_convert_bytes_const (P := Tryd.prog) w 30 5 #[.int .u8 97, .int .u8 10, .int .u8 98] 3 3 Tryd.underlying30 Tryd.underlying5
  have HR := Lib.hid (const_reads w [97, 10, 98] (3, 4) (by decide))
  have HB := Lib.hid (below_alloc (Below.refl w.heap.size w) (.cells #[.int .u8 97, .int .u8 10, .int .u8 98] 5 (3, 4)))
  go_enter Tryd.func18, Tryd.ntmps18
  go_wp2_with (first
    | (go_at_call 25; (refine (text_Lines.calls (some ⟨w.heap.size, 0, none⟩) 3 [97, 10, 98] _ _ HR.out (by decide) live_lines).mono ?_); rintro e w1 ⟨v1, rfl, ho, hb⟩; obtain ⟨g, c1, rfl, hx0, hx1, hy0, hy1⟩ := live_cells ho; have HB1 := Lib.hid (below_step HB.out hb); clear hb ho; clear HB hconv HR)
    | (go_at_call 16; (refine (text_Number.calls 5 _ _ _ _ live_number).mono ?_); rintro e w2 ⟨rfl, ⟨nd, rfl⟩⟩)
    | (go_at_call 19; (refine (text_Decimal.calls 7 _ _ live_decimal).mono ?_); rintro e w3 ⟨rfl, hb⟩; have HB2 := Lib.hid (below_step (pw_below_drewN HB1.out nd) hb); clear hb; clear HB1)
    | (go_at_call 23; (refine (text_Name.calls 5 _ _ _ live_name).mono ?_); rintro e w4 ⟨rfl, ⟨nd2, rfl⟩⟩)
    | (go_at_call 21; (refine (text_Words.calls _ _ _ live_words).mono ?_); rintro e w5 ⟨v5, rfl, ho, hb⟩; obtain ⟨A5, c5, rfl, _, _⟩ := Kd.R_reads ho; have HB3 := Lib.hid (below_step (pw_below_drewN HB2.out nd2) hb); clear hb ho; clear HB2))
  go_ret
  exact ⟨rfl, HB3.out⟩
end Go.Proofs.YtlhodalfbmdnnaaDoor.P

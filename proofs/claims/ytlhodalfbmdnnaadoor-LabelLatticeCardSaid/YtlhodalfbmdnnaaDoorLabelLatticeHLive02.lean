/- jalousielaw02.live answers true; condition: the tables of math/bits lie as they were laid. -/
import Derived.Test.YtlhodalfbmdnnaaDoorLabelLatticePx0
import Derived.Test.YtlhodalfbmdnnaaDoorLabelLatticeHTabs
import Derived.Test.YtlhodalfbmdnnaaDoorLabelLatticeHBase
import Derived.Test.YtlhodalfbmdnnaaDoorLabelLatticeHEqLabel
import Derived.Test.YtlhodalfbmdnnaaDoorLabelLatticeHLParse
import Derived.Test.YtlhodalfbmdnnaaDoorLabelLatticePxLabel
import Derived.Lib.Hide
namespace Go.Proofs.YtlhodalfbmdnnaaDoor.P
open Go.RowKit Go.Proofs.YtlhodalfbmdnnaaDoorW.PrintWords Go.Proofs.YtlhodalfbmdnnaaDoorW.PrintLast Go.Proofs.YtlhodalfbmdnnaaDoorW.PrintMore
set_option linter.unusedVariables false
set_option linter.unusedSimpArgs false
attribute [local go_sem high] eqA40
def jalousielaw02_live.f : Option Bool := some true
theorem live2_of : label_Of.f 3 3 [0, 7] = some (3, 129, 0) := by decide +kernel
theorem live2_print : label_Print.f 66 3 129 = some ⟨#[51, 58, 48, 44, 55]⟩ := by decide +kernel
theorem live2_parse : label_Parse.f ⟨#[51, 58, 48, 44, 55]⟩ = some (3, 129, true) := by decide +kernel
theorem live2_not : label_Parse.f ⟨#[51, 58, 55, 44, 48]⟩ = some (0, 0, false) := by decide +kernel
theorem live2_below : label_Below.f 0 0 15 18446744073709551615 = some true := by decide +kernel
/-- a row of two ints, as it is laid -/
theorem ints_row (W : World) : Kd.C (Kd.int .i64) (W.alloc (.cells #[.int .i64 0, .int .i64 7] 3 (0, 0))) (some ⟨W.heap.size, 0, none⟩) ([0, 7] : List Int).length [0, 7] := by
  refine Kd.C_of_reads (d := (0 : Int)) (h1 := fun _ => rfl) ⟨rfl, by decide, fun h => ⟨_, rfl, fun i hi => ?_⟩⟩
  have hb := blk_new W (.cells #[.int .i64 0, .int .i64 7] 3 (0, 0))
  rw [add_plain]
  have hi' : i < 2 := hi
  obtain rfl | rfl : i = 0 ∨ i = 1 := by omega
  · exact (blk_cell hb 0).trans rfl
  · exact (blk_cell hb 1).trans rfl
set_option maxHeartbeats 2000000 in
set_option maxRecDepth 100000 in
theorem jalousielaw02_live.calls (r : Bool) (w : World) (hT : Tabs w) (h : jalousielaw02_live.f = some r) :
    Calls Tryd.prog 36 #[] w fun e w' => e = .returned (.bool r) ∧ Below w.heap.size w w' := by
  obtain rfl := Option.some.inj h
  clear h
  have HR := Lib.hid (ints_row w)
  have HB := Lib.hid (below_alloc (Below.refl w.heap.size w) (.cells #[.int .i64 0, .int .i64 7] 3 (0, 0)))
  go_enter Tryd.func36, Tryd.ntmps36
  go_wp2_with (first
    | (go_at_call 34; ((refine (label_Of.calls 3 3 (some ⟨w.heap.size, 0, none⟩) 2 [0, 7] _ _ _ _ HR.out (by decide) live2_of).mono ?_); rintro e w1 ⟨rfl, hb⟩; have HB1 := Lib.hid (below_step HB.out hb); clear hb))
    | (go_at_call 37; (with_reducible refine (label_Parse.calls ⟨#[51, 58, 48, 44, 55]⟩ _ _ _ _ (hT.below (by repeat (first | exact HB1.out | apply below_alloc))) live2_parse).mono ?_); rintro e w2 ⟨rfl, hb⟩; have ha0 := pw_cell_below hb (a := ⟨w1.heap.size, 0, none⟩) (v := .int .i64 3) (by go_simp); have ha1 := pw_cell_below hb (a := ⟨w1.heap.size, 1, none⟩) (v := .int .u64 129) (by go_simp); have HB2 := Lib.hid (below_step (show Below w.heap.size w _ from by repeat (first | exact HB1.out | apply below_alloc)) hb); clear hb)
    | (go_at_call 37; (with_reducible refine (label_Parse.calls ⟨#[51, 58, 55, 44, 48]⟩ _ _ _ _ (hT.below (by repeat (first | exact HB2.out | apply below_alloc))) live2_not).mono ?_); rintro e w3 ⟨rfl, hb⟩; have hc0 := pw_cell_below hb (a := ⟨w2.heap.size, 0, none⟩) (v := .int .i64 3) (by go_simp); have hc1 := pw_cell_below hb (a := ⟨w2.heap.size, 1, none⟩) (v := .int .u64 129) (by go_simp); have hs := below_step (show Below w2.heap.size w2 _ from by repeat (first | exact Below.refl _ _ | apply below_alloc)) hb; have hd0 := pw_cell_below hs ha0; have hd1 := pw_cell_below hs ha1; have HB3 := Lib.hid (below_step HB2.out hs); have hn1 : w1.heap.size ≠ w3.heap.size := Nat.ne_of_lt (World.block_lt_of_cell? w3 _ hd0); have hn2 : w2.heap.size ≠ w3.heap.size := Nat.ne_of_lt (World.block_lt_of_cell? w3 _ hc0); have hn3 := hn1.symm; have hn4 := hn2.symm; have hl1 : w1.heap.size < w3.heap.size := World.block_lt_of_cell? w3 _ hd0; have hl2 : w2.heap.size < w3.heap.size := World.block_lt_of_cell? w3 _ hc0; clear hb hs)
    | (go_at_call 39; (with_reducible refine (label_Print.calls 66 3 129 _ _ (hT.below (by repeat (first | exact HB3.out | apply below_alloc))) live2_print).mono ?_); rintro e w4 ⟨rfl, hb⟩; have hs := below_step (show Below w3.heap.size w3 _ from by repeat (first | exact Below.refl _ _ | apply below_alloc)) hb; have he0 := pw_cell_below hs hd0; have he1 := pw_cell_below hs hd1; have hf0 := pw_cell_below hs hc0; have hf1 := pw_cell_below hs hc1; have HB4 := Lib.hid (below_step HB3.out hs); clear hb hs)
    | (go_at_call 49; (refine (label_Top.calls _ _ _ rfl).mono ?_); rintro e w5 ⟨rfl, hb⟩; have HB5 := Lib.hid (below_step HB4.out hb); clear hb)
    | (go_at_call 43; (refine (label_Below.calls _ _ _ _ _ _ live2_below).mono ?_); rintro e w6 ⟨rfl, hb⟩; have HB6 := Lib.hid (below_step HB5.out hb); clear hb))
  go_ret
  exact ⟨rfl, HB6.out⟩
end Go.Proofs.YtlhodalfbmdnnaaDoor.P

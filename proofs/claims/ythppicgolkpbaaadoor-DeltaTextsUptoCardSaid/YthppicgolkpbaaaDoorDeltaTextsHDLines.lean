/- delta.lines' contract, by hand (a builder that the call makes); condition: the items' texts together take fewer than 2^47 bytes. -/
import Derived.Test.YthppicgolkpbaaaDoorDeltaTextsGHBBuilder
import Derived.Test.YthppicgolkpbaaaDoorDeltaTextsGHDWrong
import Derived.Test.YthppicgolkpbaaaDoorDeltaTextsGHBits
import Derived.Deep.RegionHeld3
namespace Go.Proofs.YthppicgolkpbaaaDoor.P
open Go.RowKit Go.Proofs.YthppicgolkpbaaaDoorW.PrintWords Go.Proofs.YthppicgolkpbaaaDoorW.PrintLast Go.Proofs.YthppicgolkpbaaaDoorW.PrintMore
set_option linter.unusedVariables false
set_option linter.unusedSimpArgs false
def linesGo : List S41 → List UInt8 → List UInt8 × Int
  | [], acc => (acc, 0)
  | x :: r, acc => if checkOf x = 0 then linesGo r (acc ++ lineL x) else ([], checkOf x)
def copyL (at_ n : Int) : List UInt8 := [99, 111, 112, 121, 32] ++ decL at_ ++ [32] ++ decL n ++ [10]
def partL (at_ n : Int) (l : List S41) (next : Bool) : List UInt8 × Int :=
  if ¬ wrongOf at_ n l.length = 0 then ([], wrongOf at_ n l.length) else if 2147483647 < at_ then ([], 2) else if 2147483647 < n then ([], 2) else if 0 < n then (copyL at_ n, 0)
  else linesGo l (if next = true then [110, 101, 120, 116, 10] else [])
def itemGood (x : S41) : Bool := decide (0 ≤ x.f1.f1) && decide (x.f1.f1 < 18446744073709551616) && decide (x.f3.f0.size ≤ 100000000000)
def itemsFit (l : List S41) : Bool := l.all itemGood && decide ((l.map fun x => x.f3.f0.size + 800).sum ≤ 140000000000000)
def delta_lines.f (a0_0 : Int) (a0_1 : Int) (l0_2 : List S41) (a1 : Bool) : Option (ByteArray × Int) := if itemsFit l0_2 = true then some (baOf (partL a0_0 a0_1 l0_2 a1).1, (partL a0_0 a0_1 l0_2 a1).2) else none
set_option maxHeartbeats 2000000 in
theorem lines_wrong (a0_0 a0_1 : Int) (A0_2 : Option Addr) (c0_2 : Nat) (l0_2 : List S41) (a1 : Bool) (w : World) (hr0_2 : Kd.C k41 w A0_2 l0_2.length l0_2) (hc0_2 : l0_2.length ≤ c0_2) (hw : ¬ wrongOf a0_0 a0_1 l0_2.length = 0) :
    Calls Tryd.prog 29 #[.agg #[.int .i64 a0_0, .int .i64 a0_1, .slice A0_2 l0_2.length c0_2], .bool a1] w fun e w' => e = .returned (.tuple #[.string ⟨#[]⟩, .int .i64 (wrongOf a0_0 a0_1 l0_2.length)]) ∧ Below w.heap.size w w' := by
  have HR := Lib.hid (Kd.C_below hr0_2 (below_alloc (Below.refl w.heap.size w) (.cells #[.int .i64 a0_0, .int .i64 a0_1, .slice A0_2 l0_2.length c0_2] 27 (0, 0))))
  have HC := Lib.hid hc0_2
  obtain ⟨e, he⟩ : ∃ e, wrongOf a0_0 a0_1 l0_2.length = e := ⟨_, rfl⟩
  have HW := Lib.hid (show delta_wrong.f a0_0 a0_1 l0_2 = some e by rw [← he]; rfl)
  rw [he] at hw ⊢
  have e1 : (e == 0) = false := by simpa using hw
  have e2 : (e != 0) = true := by simpa using hw
  clear hr0_2 hc0_2 he hw
  go_enter Tryd.func29, Tryd.ntmps29
  go_wp2_with (go_at_call 27; (refine (delta_wrong.calls a0_0 a0_1 A0_2 c0_2 l0_2 e _ HR.out HC.out HW.out).mono ?_); rintro e w1 ⟨rfl, hb⟩)
  go_ret2
  exact ⟨rfl, below_step (below_alloc (Below.refl _ _) _) hb⟩
set_option maxHeartbeats 2000000 in
theorem lines_big (a0_0 a0_1 : Int) (A0_2 : Option Addr) (c0_2 : Nat) (l0_2 : List S41) (a1 : Bool) (w : World) (hr0_2 : Kd.C k41 w A0_2 l0_2.length l0_2) (hc0_2 : l0_2.length ≤ c0_2) (hw : wrongOf a0_0 a0_1 l0_2.length = 0) (hbig : 2147483647 < a0_0 ∨ (¬ 2147483647 < a0_0 ∧ 2147483647 < a0_1)) :
    Calls Tryd.prog 29 #[.agg #[.int .i64 a0_0, .int .i64 a0_1, .slice A0_2 l0_2.length c0_2], .bool a1] w fun e w' => e = .returned (.tuple #[.string ⟨#[]⟩, .int .i64 2]) ∧ Below w.heap.size w w' := by
  have HR := Lib.hid (Kd.C_below hr0_2 (below_alloc (Below.refl w.heap.size w) (.cells #[.int .i64 a0_0, .int .i64 a0_1, .slice A0_2 l0_2.length c0_2] 27 (0, 0))))
  have HC := Lib.hid hc0_2
  have HW := Lib.hid (show delta_wrong.f a0_0 a0_1 l0_2 = some 0 by rw [← hw]; rfl)
  have HK := Lib.hid (blk_new w (.cells #[.int .i64 a0_0, .int .i64 a0_1, .slice A0_2 l0_2.length c0_2] 27 (0, 0)))
  clear hr0_2 hc0_2 hw
  rcases hbig with h1 | ⟨h1, h2⟩
  · have d1 : decide (2147483647 < a0_0) = true := decide_eq_true h1
    clear h1
    go_enter Tryd.func29, Tryd.ntmps29
    go_wp2_with (go_at_call 27; (refine (delta_wrong.calls a0_0 a0_1 A0_2 c0_2 l0_2 0 _ HR.out HC.out HW.out).mono ?_); rintro e w1 ⟨rfl, hb⟩; have hk := blk_below HK.out hb; have hc0 : w1.cell? ⟨w.heap.size, 0, none⟩ = some (.int .i64 a0_0) := (blk_cell hk 0).trans rfl; have hc1 : w1.cell? ⟨w.heap.size, 1, none⟩ = some (.int .i64 a0_1) := (blk_cell hk 1).trans rfl; have HK1 := Lib.hid hk; clear hk)
    go_ret2
    exact ⟨rfl, below_step (below_alloc (Below.refl _ _) _) hb⟩
  · have d1 : decide (2147483647 < a0_0) = false := decide_eq_false h1
    have d2 : decide (2147483647 < a0_1) = true := decide_eq_true h2
    clear h1 h2
    go_enter Tryd.func29, Tryd.ntmps29
    go_wp2_with (go_at_call 27; (refine (delta_wrong.calls a0_0 a0_1 A0_2 c0_2 l0_2 0 _ HR.out HC.out HW.out).mono ?_); rintro e w1 ⟨rfl, hb⟩; have hk := blk_below HK.out hb; have hc0 : w1.cell? ⟨w.heap.size, 0, none⟩ = some (.int .i64 a0_0) := (blk_cell hk 0).trans rfl; have hc1 : w1.cell? ⟨w.heap.size, 1, none⟩ = some (.int .i64 a0_1) := (blk_cell hk 1).trans rfl; have HK1 := Lib.hid hk; clear hk)
    go_ret2
    exact ⟨rfl, below_step (below_alloc (Below.refl _ _) _) hb⟩
theorem keep2 {w W w' : World} {p1 p2 : Addr} {v1 v2 : Value} (h : Below w.heap.size w W ∧ W.cell? p1 = some v1 ∧ W.cell? p2 = some v2) (hb : Below W.heap.size W w') : Below w.heap.size w w' ∧ w'.cell? p1 = some v1 ∧ w'.cell? p2 = some v2 :=
  ⟨below_step h.1 hb, pw_cell_below hb h.2.1, pw_cell_below hb h.2.2⟩
set_option maxHeartbeats 4000000 in
set_option maxRecDepth 100000 in
theorem lines_copy (a0_0 a0_1 : Int) (A0_2 : Option Addr) (c0_2 : Nat) (l0_2 : List S41) (a1 : Bool) (w : World) (hr0_2 : Kd.C k41 w A0_2 l0_2.length l0_2) (hc0_2 : l0_2.length ≤ c0_2) (hw : wrongOf a0_0 a0_1 l0_2.length = 0) (h1 : ¬ 2147483647 < a0_0) (h2 : ¬ 2147483647 < a0_1) (h3 : 0 < a0_1) :
    Calls Tryd.prog 29 #[.agg #[.int .i64 a0_0, .int .i64 a0_1, .slice A0_2 l0_2.length c0_2], .bool a1] w fun e w' => e = .returned (.tuple #[.string (baOf (copyL a0_0 a0_1)), .int .i64 0]) ∧ Below w.heap.size w w' := by
  have HR := Lib.hid (Kd.C_below hr0_2 (below_alloc (Below.refl w.heap.size w) (.cells #[.int .i64 a0_0, .int .i64 a0_1, .slice A0_2 l0_2.length c0_2] 27 (0, 0))))
  have HC := Lib.hid hc0_2
  have HW := Lib.hid (show delta_wrong.f a0_0 a0_1 l0_2 = some 0 by rw [← hw]; rfl)
  have HK := Lib.hid (blk_new w (.cells #[.int .i64 a0_0, .int .i64 a0_1, .slice A0_2 l0_2.length c0_2] 27 (0, 0)))
  have d1 : decide (2147483647 < a0_0) = false := decide_eq_false h1
  have d2 : decide (2147483647 < a0_1) = false := decide_eq_false h2
  have d3 : decide (0 < a0_1) = true := decide_eq_true h3
  have s1 := dec_size a0_0
  have s2 := dec_size a0_1
  have hfin : baOf (copyL a0_0 a0_1) = ((((⟨#[99, 111, 112, 121, 32]⟩ : ByteArray) ++ decOf a0_0) ++ ⟨#[32]⟩) ++ decOf a0_1) ++ ⟨#[10]⟩ := by
    apply ba_eq
    simp only [ba_app, baOf_data, copyL]
    simp [decL]
  rw [hfin]
  have HD1 := Lib.hid (show text_Decimal.f a0_0 = some (decOf a0_0) from rfl)
  have HD2 := Lib.hid (show text_Decimal.f a0_1 = some (decOf a0_1) from rfl)
  generalize decOf a0_0 = D1 at s1 HD1 ⊢
  generalize decOf a0_1 = D2 at s2 HD2 ⊢
  have q0 : (⟨#[99, 111, 112, 121, 32]⟩ : ByteArray).size = 5 := rfl
  have q1 : (⟨#[32]⟩ : ByteArray).size = 1 := rfl
  have q2 : (⟨#[10]⟩ : ByteArray).size = 1 := rfl
  have b1 : (9223372036854775807 < 5 + D1.size) = False := eq_false (by omega)
  have b2 : (9223372036854775807 < 5 + D1.size + 1) = False := eq_false (by omega)
  have b3 : (9223372036854775807 < 5 + D1.size + 1 + D2.size) = False := eq_false (by omega)
  have b4 : (9223372036854775807 < 5 + D1.size + 1 + D2.size + 1) = False := eq_false (by omega)
  have c1 : 5 + D1.size ≤ 9223372036854775807 := by omega
  have c2 : 5 + D1.size + 1 ≤ 9223372036854775807 := by omega
  have c3 : 5 + D1.size + 1 + D2.size ≤ 9223372036854775807 := by omega
  have c4 : 5 + D1.size + 1 + D2.size + 1 ≤ 9223372036854775807 := by omega
  clear hr0_2 hc0_2 hw h1 h2 h3 hfin q0 q1 q2 s1 s2
  go_enter Tryd.func29, Tryd.ntmps29
  go_wp2_with (go_at_call 27; (refine (delta_wrong.calls a0_0 a0_1 A0_2 c0_2 l0_2 0 _ HR.out HC.out HW.out).mono ?_); rintro e w1 ⟨rfl, hb⟩; have hk := blk_below HK.out hb; have hc0 : w1.cell? ⟨w.heap.size, 0, none⟩ = some (.int .i64 a0_0) := (blk_cell hk 0).trans rfl; have hc1 : w1.cell? ⟨w.heap.size, 1, none⟩ = some (.int .i64 a0_1) := (blk_cell hk 1).trans rfl; have HB1 := Lib.hid (below_step (below_alloc (Below.refl w.heap.size w) _) hb); clear hk hb)
  have HS0 : (fun w' => Below w.heap.size w w' ∧ w'.cell? ⟨w.heap.size, 0, none⟩ = some (.int .i64 a0_0) ∧ w'.cell? ⟨w.heap.size, 1, none⟩ = some (.int .i64 a0_1)) w1.drew := ⟨below_drew HB1.out, by go_simp, by go_simp⟩
  clear hc0 hc1 HB1
  go_region_held3 (fun w' => Below w.heap.size w w' ∧ w'.cell? ⟨w.heap.size, 0, none⟩ = some (.int .i64 a0_0) ∧ w'.cell? ⟨w.heap.size, 1, none⟩ = some (.int .i64 a0_1)) (first | assumption | exact HS0 | exact keep2 (by assumption) (by assumption)) (first
    | (go_at_call 40; (with_reducible refine (text_Decimal.calls a0_0 _ _ HD1.out).mono ?_); rintro e w1 ⟨rfl, hb⟩)
    | (go_at_call 40; (with_reducible refine (text_Decimal.calls a0_1 _ _ HD2.out).mono ?_); rintro e w1 ⟨rfl, hb⟩))
  all_goals (go_wp2; go_ret2; exact ⟨rfl, (by assumption : Below w.heap.size w _ ∧ _ ∧ _).1⟩)
end Go.Proofs.YthppicgolkpbaaaDoor.P

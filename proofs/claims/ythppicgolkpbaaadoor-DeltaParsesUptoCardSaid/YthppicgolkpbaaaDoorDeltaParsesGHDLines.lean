/- what this claim needs of the words and the printed functions; conditions: as each statement says -/
import Derived.Test.YthppicgolkpbaaaDoorDeltaParsesPx0
import Derived.Test.YthppicgolkpbaaaDoorDeltaParsesGHLabelOf
import Derived.Test.YthppicgolkpbaaaDoorDeltaParsesHStrings
import Derived.Test.YthppicgolkpbaaaDoorDeltaParsesHLabelRead
import Derived.Test.YthppicgolkpbaaaDoorDeltaParsesGHDWrong
import Derived.Test.YthppicgolkpbaaaDoorDeltaParsesGHBContains
import Derived.Test.YthppicgolkpbaaaDoorDeltaParsesPxDelta
import Derived.Shelf.Strings.BuilderF
import Derived.Test.YthppicgolkpbaaaDoorDeltaParsesGHText
import Derived.Deep.RegionHeld3
namespace Go.Proofs.YthppicgolkpbaaaDoor.P
open Go.RowKit Go.Proofs.YthppicgolkpbaaaDoorW.PrintWords Go.Proofs.YthppicgolkpbaaaDoorW.PrintLast Go.Proofs.YthppicgolkpbaaaDoorW.PrintMore
set_option linter.unusedVariables false
set_option linter.unusedSimpArgs false
def nlOf (x : S39) (rest : List S39) : List Int := if x.f1 = true then (if rest.isEmpty = true then [] else [10]) else [10]
def joinOf : List S39 → List Int
 | [] => []
 | x :: l => (bytesOf x.f0 ++ nlOf x l) ++ joinOf l
theorem rd_drop (l : List S39) (i : Nat) (h : i < l.length) : l.drop i = rd_T39 l (i : Int) :: l.drop (i + 1) := by
 rw [List.drop_eq_getElem_cons h]
 congr 1
 simp [rd_T39, List.getD_eq_getElem?_getD, h]
def rightOf : List S39 → Bool
 | [] => true
 | x :: l => if 0 ≤ Lib.indexByte x.f0.data.toList 10 then false else if x.f1 = true then (if l.isEmpty = true then (if x.f0.size = 0 then false else rightOf l) else false) else rightOf l
end Go.Proofs.YthppicgolkpbaaaDoor.P
namespace Go.Proofs.YthppicgolkpbaaaDoor.P
open Go.RowKit Go.Proofs.YthppicgolkpbaaaDoorW.PrintWords Go.Proofs.YthppicgolkpbaaaDoorW.PrintLast Go.Proofs.YthppicgolkpbaaaDoorW.PrintMore
set_option linter.unusedVariables false
set_option linter.unusedSimpArgs false
def hasNl (s : ByteArray) : Bool := decide (0 ≤ Lib.indexByte s.data.toList 10)
def checkOf (x : S41) : Int :=
 if x.f0 < 0 then 2 else if 2147483647 < x.f0 then 2 else if (decide (0 ≤ x.f1.f0) && decide (x.f1.f0 ≤ 15)) = false then 2 else if hasNl x.f3.f0 = true then 3 else if 200 < x.f3.f0.size then 4 else 0
theorem delta_check_tells (x : S41) (k : Nat) (hk : 1 ≤ k) : delta_check.f k x.f0 x.f1.f0 x.f1.f1 x.f2 x.f3.f0 x.f3.f1 = some (checkOf x) := by
 obtain ⟨k, rfl⟩ : ∃ m, k = m + 1 := ⟨k - 1, by omega⟩
 unfold delta_check.f checkOf
 by_cases h0 : x.f0 < 0
 ·
  rw [if_pos h0, if_pos h0]
  simp only [delta_check.j0]
  rfl
 ·
  rw [if_neg h0, if_neg h0]
  by_cases h1 : 2147483647 < x.f0
  ·
   rw [if_pos h1, if_pos h1]
   simp only [delta_check.j0]
   rfl
  ·
   rw [if_neg h1, if_neg h1, right_tells]
   simp only [Option.bind_some]
   cases hr : (decide (0 ≤ x.f1.f0) && decide (x.f1.f0 ≤ 15)) with
   | false => simp only [delta_check.j0]; rfl
   | true =>
    simp only [delta_check.j0]
    rw [if_neg (show ¬ ((!true) = true) by decide), if_neg (show ¬ (true = false) by decide)]
    have hc : strings_Contains.f x.f3.f0 ⟨#[10]⟩ = some (hasNl x.f3.f0) := by
     unfold strings_Contains.f
     rw [if_pos (by decide)]; rfl
    rw [hc]
    simp only [Option.bind_some]
    cases hasNl x.f3.f0 with
    | true => rfl
    | false =>
     rw [if_neg (show ¬ (false = true) by decide), if_neg (show ¬ (false = true) by decide)]
     by_cases h2 : 200 < x.f3.f0.size
     ·
      rw [if_pos (by omega), if_pos h2]
     ·
      rw [if_neg (by omega), if_neg h2]
def kindL (a b : Bool) : List UInt8 := (if a = true then 97 else 108) :: (if b = true then [98] else [])
def lineL (x : S41) : List UInt8 := [105, 116, 101, 109, 32] ++ decL x.f0 ++ [32] ++ labL x.f1.f0 x.f1.f1.toNat ++ [32] ++ kindL x.f2 x.f3.f1 ++ [32] ++ x.f3.f0.data.toList ++ [10]
theorem joinB5 (a b c d e : ByteArray) : joinB [a, b, c, d, e] ⟨#[32]⟩ = a.data.toList ++ [32] ++ b.data.toList ++ [32] ++ c.data.toList ++ [32] ++ d.data.toList ++ [32] ++ e.data.toList := by
 simp [joinB, Lib.join]
theorem labL_len (a : Int) (A : Nat) : (labL a A).length ≤ 714 := by
 have := lab_size a A
 unfold labOf at this
 rwa [ba_size] at this
theorem delta_line_tells (x : S41) (hx : 0 ≤ x.f1.f1) (hx2 : x.f1.f1 < 18446744073709551616) (hs : x.f3.f0.size ≤ 100000000000000) (k : Nat) (hk : 66 ≤ k) : delta_line.f k x.f0 x.f1.f0 x.f1.f1 x.f2 x.f3.f0 x.f3.f1 = some (baOf (lineL x)) := by
 obtain ⟨k, rfl⟩ : ∃ m, k = m + 1 := ⟨k - 1, by omega⟩
 obtain ⟨A, hA⟩ := Int.eq_ofNat_of_zero_le hx
 have hA2 : A < 18446744073709551616 := by omega
 have hd := decL_len x.f0
 have hl := labL_len x.f1.f0 A
 have hz : x.f3.f0.data.toList.length = x.f3.f0.size := data_length _
 unfold lineL
 rw [hA, Int.toNat_natCast]
 have main : ∀ (kd : ByteArray) (b : Bool), kd.size = 1 → (if b = true then (if kd.size + 1 ≤ 9223372036854775807 then ((text_Decimal.f x.f0).bind fun t139 => ((label_Print.f k x.f1.f0 (A : Int)).bind fun t140 => ((strings_Join.f (([(⟨#[105, 116, 101, 109]⟩ : ByteArray), t139, t140, kd ++ (⟨#[98]⟩ : ByteArray), x.f3.f0] : List ByteArray)) (⟨#[32]⟩ : ByteArray)).bind fun t144 => (if t144.size + 1 ≤ 9223372036854775807 then (some (t144 ++ (⟨#[10]⟩ : ByteArray))) else (none))))) else (none)) else ((text_Decimal.f x.f0).bind fun t145 => ((label_Print.f k x.f1.f0 (A : Int)).bind fun t146 => ((strings_Join.f (([(⟨#[105, 116, 101, 109]⟩ : ByteArray), t145, t146, kd, x.f3.f0] : List ByteArray)) (⟨#[32]⟩ : ByteArray)).bind fun t150 => (if t150.size + 1 ≤ 9223372036854775807 then (some (t150 ++ (⟨#[10]⟩ : ByteArray))) else (none)))))) = some (baOf ([105, 116, 101, 109, 32] ++ decL x.f0 ++ [32] ++ labL x.f1.f0 A ++ [32] ++ (kd.data.toList ++ (if b = true then [98] else [])) ++ [32] ++ x.f3.f0.data.toList ++ [10])) := by
  intro kd b hkd
  have hkl : kd.data.toList.length = 1 := by rw [data_length]; exact hkd
  have hj : ∀ kd2 : ByteArray, kd2.data.toList.length ≤ 2 → ((text_Decimal.f x.f0).bind fun t145 => ((label_Print.f k x.f1.f0 (A : Int)).bind fun t146 => ((strings_Join.f (([(⟨#[105, 116, 101, 109]⟩ : ByteArray), t145, t146, kd2, x.f3.f0] : List ByteArray)) (⟨#[32]⟩ : ByteArray)).bind fun t150 => (if t150.size + 1 ≤ 9223372036854775807 then (some (t150 ++ (⟨#[10]⟩ : ByteArray))) else (none))))) = some (baOf ([105, 116, 101, 109, 32] ++ decL x.f0 ++ [32] ++ labL x.f1.f0 A ++ [32] ++ kd2.data.toList ++ [32] ++ x.f3.f0.data.toList ++ [10])) := by
   intro kd2 hk2
   rw [show text_Decimal.f x.f0 = some (decOf x.f0) from rfl, text_Print_tells x.f1.f0 A k hA2 (by omega)]
   simp only [Option.bind_some]
   have hJ : joinB [⟨#[105, 116, 101, 109]⟩, decOf x.f0, labOf x.f1.f0 A, kd2, x.f3.f0] ⟨#[32]⟩ = [105, 116, 101, 109] ++ [32] ++ decL x.f0 ++ [32] ++ labL x.f1.f0 A ++ [32] ++ kd2.data.toList ++ [32] ++ x.f3.f0.data.toList := joinB5 _ _ _ _ _
   have hlen : (joinB [⟨#[105, 116, 101, 109]⟩, decOf x.f0, labOf x.f1.f0 A, kd2, x.f3.f0] ⟨#[32]⟩).length ≤ 100000000001000 := by
    rw [hJ]
    simp only [List.length_append, List.length_cons, List.length_nil]
    omega
   unfold strings_Join.f
   rw [if_pos (by simp), if_pos (by omega)]
   simp only [Option.bind_some]
   rw [if_pos (by rw [← data_length]; show (joinB _ _).length + 1 ≤ _; omega)]
   refine congrArg some (ba_eq ?_)
   rw [ba_app, baOf_data]
   show joinB _ _ ++ [10] = _
   rw [hJ]
   simp
  cases b with
  | true =>
   rw [if_pos rfl, if_pos (by omega)]
   have := hj (kd ++ ⟨#[98]⟩) (by rw [ba_app]; simp [hkl])
   rw [ba_app] at this
   exact this
  | false =>
   rw [if_neg (by decide)]
   have := hj kd (by omega)
   rw [this]
   simp
 unfold delta_line.f kindL
 cases x.f2 with
 | true =>
  rw [if_pos rfl]
  simp only [delta_line.j0]
  exact main ⟨#[97]⟩ x.f3.f1 rfl
 | false =>
  rw [if_neg (by decide)]
  simp only [delta_line.j0]
  exact main ⟨#[108]⟩ x.f3.f1 rfl
end Go.Proofs.YthppicgolkpbaaaDoor.P
namespace Go.Proofs.YthppicgolkpbaaaDoor.P
open Go.RowKit Go.Proofs.YthppicgolkpbaaaDoorW.PrintWords Go.Proofs.YthppicgolkpbaaaDoorW.PrintLast Go.Proofs.YthppicgolkpbaaaDoorW.PrintMore
set_option linter.unusedVariables false
set_option linter.unusedSimpArgs false
def Bld (w : World) (B b : Nat) (l : List UInt8) : Prop := Lib.IsBuilderF 80 5 B b (Lib.byteCells l) w
theorem Bld.below {w W : World} {B b : Nat} {l : List UInt8} (h : Bld w B b l) (hb : Below w.heap.size w W) : Bld W B b l := by
 have one : ∀ {p : Value}, Lib.BuilderAtF 80 5 B b p (Lib.byteCells l) w → Lib.BuilderAtF 80 5 B b p (Lib.byteCells l) W := by
  intro p h
  have hlt := h.lt
  obtain ⟨hB, v, hv, hown, hne⟩ := h
  exact ⟨hB, v, (hb.block b hlt).trans hv, hown.kept (row := none) ⟨hb.os, hb.tape, hb.output, hb.size, fun k hk _ => hb.block k hk⟩ (Classical.em _), hne⟩
 exact h.elim (fun x => .inl (one x)) (fun x => .inr (one x))
theorem Bld.new (w : World) : Bld (w.alloc (.cells #[.pointer none, .slice none 0 0] 80 (0, 0))) w.heap.size w.heap.size [] := Lib.IsBuilderF.of (Lib.fresh_isBuilder 80 5 w)
theorem bld_cells (l : List UInt8) (s : ByteArray) : Lib.byteCells l ++ Lib.strCells s = Lib.byteCells (l ++ s.data.toList) := by
 unfold Lib.byteCells Lib.strCells
 simp
theorem bld_write (B b : Nat) (l : List UInt8) (s : ByteArray) (w : World) (h : Bld w B b l) (hlen : l.length + s.size ≤ 140737488355328) (hBw : B ≤ w.heap.size) :
  Calls Tryd.prog 41 #[.pointer (some ⟨b, 0, none⟩), .string s] w fun e w' => e = .returned (.tuple #[.int .i64 s.size, .nilIface]) ∧ Bld w' B b (l ++ s.data.toList) ∧ Below B w w' := by
 have := Any.Builder_WriteString_f { Tryd.lays156 with } join_X B b (Lib.byteCells l) s w h (by rw [Lib.byteCells_length]; exact hlen) hBw
 refine Calls.mono this fun e w' ⟨he, hb, hB⟩ => ⟨he, ?_, hB⟩
 unfold Bld
 rw [← bld_cells]
 exact .inr hb
theorem bld_string (B b : Nat) (l : List UInt8) (w : World) (h : Bld w B b l) (hBw : B ≤ w.heap.size) :
  Calls Tryd.prog 44 #[.pointer (some ⟨b, 0, none⟩)] w fun e w' => e = .returned (.string ⟨l.toArray⟩) ∧ Bld w' B b l ∧ Below B w w' :=
 Any.Builder_String_any_f { Tryd.lays156 with } join_X B b l w h hBw
end Go.Proofs.YthppicgolkpbaaaDoor.P
namespace Go.Proofs.YthppicgolkpbaaaDoor.P
open Go.RowKit Go.Proofs.YthppicgolkpbaaaDoorW.PrintWords Go.Proofs.YthppicgolkpbaaaDoorW.PrintLast Go.Proofs.YthppicgolkpbaaaDoorW.PrintMore
set_option linter.unusedVariables false
set_option linter.unusedSimpArgs false
def linesGo : List S41 → List UInt8 → List UInt8 × Int
 | [], acc => (acc, 0)
 | x :: r, acc => if checkOf x = 0 then linesGo r (acc ++ lineL x) else ([], checkOf x)
def copyL (at_ n : Int) : List UInt8 := [99, 111, 112, 121, 32] ++ decL at_ ++ [32] ++ decL n ++ [10]
def partL (at_ n : Int) (l : List S41) (next : Bool) : List UInt8 × Int :=
 if ¬ wrongOf at_ n l.length = 0 then ([], wrongOf at_ n l.length) else if 2147483647 < at_ then ([], 2) else if 2147483647 < n then ([], 2) else if 0 < n then (copyL at_ n, 0)
 else linesGo l (if next = true then [110, 101, 120, 116, 10] else [])
def itemGood (x : S41) : Bool := decide (0 ≤ x.f1.f1) && decide (x.f1.f1 < 18446744073709551616) && decide (x.f3.f0.size ≤ 100000000000)
def itemsFit (l : List S41) : Bool := l.all itemGood && decide ((l.map fun x => x.f3.f0.size + 800).sum ≤ 140000000000000)
def delta_lines.f (a0_0 : Int) (a0_1 : Int) (l0_2 : List S41) (a1 : Bool) : Option (ByteArray × Int) := if itemsFit l0_2 = true then some (baOf (partL a0_0 a0_1 l0_2 a1).1, (partL a0_0 a0_1 l0_2 a1).2) else none
set_option maxHeartbeats 2000000 in
theorem lines_wrong (a0_0 a0_1 : Int) (A0_2 : Option Addr) (c0_2 : Nat) (l0_2 : List S41) (a1 : Bool) (w : World) (hr0_2 : Kd.C k41 w A0_2 l0_2.length l0_2) (hc0_2 : l0_2.length ≤ c0_2) (hw : ¬ wrongOf a0_0 a0_1 l0_2.length = 0) :
  Calls Tryd.prog 29 #[.agg #[.int .i64 a0_0, .int .i64 a0_1, .slice A0_2 l0_2.length c0_2], .bool a1] w fun e w' => e = .returned (.tuple #[.string ⟨#[]⟩, .int .i64 (wrongOf a0_0 a0_1 l0_2.length)]) ∧ Below w.heap.size w w' := by
 have HR := Lib.hid (Kd.C_below hr0_2 (below_alloc (Below.refl w.heap.size w) (.cells #[.int .i64 a0_0, .int .i64 a0_1, .slice A0_2 l0_2.length c0_2] 27 (0, 0))))
 have HC := Lib.hid hc0_2
 obtain ⟨e, he⟩ : ∃ e, wrongOf a0_0 a0_1 l0_2.length = e := ⟨_, rfl⟩
 have HW := Lib.hid (show delta_wrong.f a0_0 a0_1 l0_2 = some e by rw [← he]; rfl)
 rw [he] at hw ⊢
 have e1 : (e == 0) = false := by simpa using hw
 have e2 : (e != 0) = true := by simpa using hw
 clear hr0_2 hc0_2 he hw
 go_enter Tryd.func29, Tryd.ntmps29
 go_wp2_with (go_at_call 27; (refine (delta_wrong.calls a0_0 a0_1 A0_2 c0_2 l0_2 e _ HR.out HC.out HW.out).mono ?_); rintro e w1 ⟨rfl, hb⟩)
 go_ret2
 exact ⟨rfl, below_step (below_alloc (Below.refl _ _) _) hb⟩
set_option maxHeartbeats 2000000 in
theorem lines_big (a0_0 a0_1 : Int) (A0_2 : Option Addr) (c0_2 : Nat) (l0_2 : List S41) (a1 : Bool) (w : World) (hr0_2 : Kd.C k41 w A0_2 l0_2.length l0_2) (hc0_2 : l0_2.length ≤ c0_2) (hw : wrongOf a0_0 a0_1 l0_2.length = 0) (hbig : 2147483647 < a0_0 ∨ (¬ 2147483647 < a0_0 ∧ 2147483647 < a0_1)) :
  Calls Tryd.prog 29 #[.agg #[.int .i64 a0_0, .int .i64 a0_1, .slice A0_2 l0_2.length c0_2], .bool a1] w fun e w' => e = .returned (.tuple #[.string ⟨#[]⟩, .int .i64 2]) ∧ Below w.heap.size w w' := by
 have HR := Lib.hid (Kd.C_below hr0_2 (below_alloc (Below.refl w.heap.size w) (.cells #[.int .i64 a0_0, .int .i64 a0_1, .slice A0_2 l0_2.length c0_2] 27 (0, 0))))
 have HC := Lib.hid hc0_2
 have HW := Lib.hid (show delta_wrong.f a0_0 a0_1 l0_2 = some 0 by rw [← hw]; rfl)
 have HK := Lib.hid (blk_new w (.cells #[.int .i64 a0_0, .int .i64 a0_1, .slice A0_2 l0_2.length c0_2] 27 (0, 0)))
 clear hr0_2 hc0_2 hw
 rcases hbig with h1 | ⟨h1, h2⟩
 ·
  have d1 : decide (2147483647 < a0_0) = true := decide_eq_true h1
  clear h1
  go_enter Tryd.func29, Tryd.ntmps29
  go_wp2_with (go_at_call 27; (refine (delta_wrong.calls a0_0 a0_1 A0_2 c0_2 l0_2 0 _ HR.out HC.out HW.out).mono ?_); rintro e w1 ⟨rfl, hb⟩; have hk := blk_below HK.out hb; have hc0 : w1.cell? ⟨w.heap.size, 0, none⟩ = some (.int .i64 a0_0) := (blk_cell hk 0).trans rfl; have hc1 : w1.cell? ⟨w.heap.size, 1, none⟩ = some (.int .i64 a0_1) := (blk_cell hk 1).trans rfl; have HK1 := Lib.hid hk; clear hk)
  go_ret2
  exact ⟨rfl, below_step (below_alloc (Below.refl _ _) _) hb⟩
 ·
  have d1 : decide (2147483647 < a0_0) = false := decide_eq_false h1
  have d2 : decide (2147483647 < a0_1) = true := decide_eq_true h2
  clear h1 h2
  go_enter Tryd.func29, Tryd.ntmps29
  go_wp2_with (go_at_call 27; (refine (delta_wrong.calls a0_0 a0_1 A0_2 c0_2 l0_2 0 _ HR.out HC.out HW.out).mono ?_); rintro e w1 ⟨rfl, hb⟩; have hk := blk_below HK.out hb; have hc0 : w1.cell? ⟨w.heap.size, 0, none⟩ = some (.int .i64 a0_0) := (blk_cell hk 0).trans rfl; have hc1 : w1.cell? ⟨w.heap.size, 1, none⟩ = some (.int .i64 a0_1) := (blk_cell hk 1).trans rfl; have HK1 := Lib.hid hk; clear hk)
  go_ret2
  exact ⟨rfl, below_step (below_alloc (Below.refl _ _) _) hb⟩
theorem keep2 {w W w' : World} {p1 p2 : Addr} {v1 v2 : Value} (h : Below w.heap.size w W ∧ W.cell? p1 = some v1 ∧ W.cell? p2 = some v2) (hb : Below W.heap.size W w') : Below w.heap.size w w' ∧ w'.cell? p1 = some v1 ∧ w'.cell? p2 = some v2 :=
 ⟨below_step h.1 hb, pw_cell_below hb h.2.1, pw_cell_below hb h.2.2⟩
set_option maxHeartbeats 4000000 in
set_option maxRecDepth 100000 in
theorem lines_copy (a0_0 a0_1 : Int) (A0_2 : Option Addr) (c0_2 : Nat) (l0_2 : List S41) (a1 : Bool) (w : World) (hr0_2 : Kd.C k41 w A0_2 l0_2.length l0_2) (hc0_2 : l0_2.length ≤ c0_2) (hw : wrongOf a0_0 a0_1 l0_2.length = 0) (h1 : ¬ 2147483647 < a0_0) (h2 : ¬ 2147483647 < a0_1) (h3 : 0 < a0_1) :
  Calls Tryd.prog 29 #[.agg #[.int .i64 a0_0, .int .i64 a0_1, .slice A0_2 l0_2.length c0_2], .bool a1] w fun e w' => e = .returned (.tuple #[.string (baOf (copyL a0_0 a0_1)), .int .i64 0]) ∧ Below w.heap.size w w' := by
 have HR := Lib.hid (Kd.C_below hr0_2 (below_alloc (Below.refl w.heap.size w) (.cells #[.int .i64 a0_0, .int .i64 a0_1, .slice A0_2 l0_2.length c0_2] 27 (0, 0))))
 have HC := Lib.hid hc0_2
 have HW := Lib.hid (show delta_wrong.f a0_0 a0_1 l0_2 = some 0 by rw [← hw]; rfl)
 have HK := Lib.hid (blk_new w (.cells #[.int .i64 a0_0, .int .i64 a0_1, .slice A0_2 l0_2.length c0_2] 27 (0, 0)))
 have d1 : decide (2147483647 < a0_0) = false := decide_eq_false h1
 have d2 : decide (2147483647 < a0_1) = false := decide_eq_false h2
 have d3 : decide (0 < a0_1) = true := decide_eq_true h3
 have s1 := dec_size a0_0
 have s2 := dec_size a0_1
 have hfin : baOf (copyL a0_0 a0_1) = ((((⟨#[99, 111, 112, 121, 32]⟩ : ByteArray) ++ decOf a0_0) ++ ⟨#[32]⟩) ++ decOf a0_1) ++ ⟨#[10]⟩ := by
  apply ba_eq
  simp only [ba_app, baOf_data, copyL]
  simp [decL]
 rw [hfin]
 have HD1 := Lib.hid (show text_Decimal.f a0_0 = some (decOf a0_0) from rfl)
 have HD2 := Lib.hid (show text_Decimal.f a0_1 = some (decOf a0_1) from rfl)
 generalize decOf a0_0 = D1 at s1 HD1 ⊢
 generalize decOf a0_1 = D2 at s2 HD2 ⊢
 have q0 : (⟨#[99, 111, 112, 121, 32]⟩ : ByteArray).size = 5 := rfl
 have q1 : (⟨#[32]⟩ : ByteArray).size = 1 := rfl
 have q2 : (⟨#[10]⟩ : ByteArray).size = 1 := rfl
 have b1 : (9223372036854775807 < 5 + D1.size) = False := eq_false (by omega)
 have b2 : (9223372036854775807 < 5 + D1.size + 1) = False := eq_false (by omega)
 have b3 : (9223372036854775807 < 5 + D1.size + 1 + D2.size) = False := eq_false (by omega)
 have b4 : (9223372036854775807 < 5 + D1.size + 1 + D2.size + 1) = False := eq_false (by omega)
 have c1 : 5 + D1.size ≤ 9223372036854775807 := by omega
 have c2 : 5 + D1.size + 1 ≤ 9223372036854775807 := by omega
 have c3 : 5 + D1.size + 1 + D2.size ≤ 9223372036854775807 := by omega
 have c4 : 5 + D1.size + 1 + D2.size + 1 ≤ 9223372036854775807 := by omega
 clear hr0_2 hc0_2 hw h1 h2 h3 hfin q0 q1 q2 s1 s2
 go_enter Tryd.func29, Tryd.ntmps29
 go_wp2_with (go_at_call 27; (refine (delta_wrong.calls a0_0 a0_1 A0_2 c0_2 l0_2 0 _ HR.out HC.out HW.out).mono ?_); rintro e w1 ⟨rfl, hb⟩; have hk := blk_below HK.out hb; have hc0 : w1.cell? ⟨w.heap.size, 0, none⟩ = some (.int .i64 a0_0) := (blk_cell hk 0).trans rfl; have hc1 : w1.cell? ⟨w.heap.size, 1, none⟩ = some (.int .i64 a0_1) := (blk_cell hk 1).trans rfl; have HB1 := Lib.hid (below_step (below_alloc (Below.refl w.heap.size w) _) hb); clear hk hb)
 have HS0 : (fun w' => Below w.heap.size w w' ∧ w'.cell? ⟨w.heap.size, 0, none⟩ = some (.int .i64 a0_0) ∧ w'.cell? ⟨w.heap.size, 1, none⟩ = some (.int .i64 a0_1)) w1.drew := ⟨below_drew HB1.out, by go_simp, by go_simp⟩
 clear hc0 hc1 HB1
 go_region_held3 (fun w' => Below w.heap.size w w' ∧ w'.cell? ⟨w.heap.size, 0, none⟩ = some (.int .i64 a0_0) ∧ w'.cell? ⟨w.heap.size, 1, none⟩ = some (.int .i64 a0_1)) (first | assumption | exact HS0 | exact keep2 (by assumption) (by assumption)) (first
  | (go_at_call 40; (with_reducible refine (text_Decimal.calls a0_0 _ _ HD1.out).mono ?_); rintro e w1 ⟨rfl, hb⟩)
  | (go_at_call 40; (with_reducible refine (text_Decimal.calls a0_1 _ _ HD2.out).mono ?_); rintro e w1 ⟨rfl, hb⟩))
 all_goals (go_wp2; go_ret2; exact ⟨rfl, (by assumption : Below w.heap.size w _ ∧ _ ∧ _).1⟩)
end Go.Proofs.YthppicgolkpbaaaDoor.P


import Derived.Test.YthppicgolkpbaaaDoorDeltaParsesPx0
import Derived.Test.YthppicgolkpbaaaDoorDeltaParsesPxJalousieref15
import Derived.Test.YthppicgolkpbaaaDoorDeltaParsesGPxJalousieref01
import Derived.Test.YthppicgolkpbaaaDoorDeltaParsesPxJalousieref02
import Derived.Test.YthppicgolkpbaaaDoorDeltaParsesGHText
namespace Go.Proofs.YthppicgolkpbaaaDoor.P
open Go.RowKit Go.Proofs.YthppicgolkpbaaaDoorW.PrintWords Go.Proofs.YthppicgolkpbaaaDoorW.PrintLast Go.Proofs.YthppicgolkpbaaaDoorW.PrintMore
attribute [local go_sem] max2_int min2_int max_two min_two max_three min_three max_four min_four
set_option linter.unusedVariables false
set_option linter.unusedSimpArgs false
def jalousieref15_item.j0 : Nat → ByteArray → ByteArray → ByteArray → ByteArray → Bool → Option (Int × Int × Int × Bool × ByteArray × Bool × Bool)
  | 0, _, _, _, _, _ => none
  | k + 1, x0, x6, x8, x10, x74 => if x74 = true then (some (0, 0, 0, false, (⟨#[]⟩ : ByteArray), false, false)) else ((jalousieref01_Number.f k x6).bind fun bt328 => ((jalousieref02_Parse.f k x8).bind fun bt330 => (if 0 < (x10.size : Int) then (if bt328.2 = true then (if bt330.2.2 = true then ((jalousieref15_check.f k bt328.1 bt330.1 bt330.2.1 ((bt x10 0) == 97) x0 ((x10.size : Int) == 2)).bind fun t335 => (some (bt328.1, bt330.1, bt330.2.1, ((bt x10 0) == 97), x0, ((x10.size : Int) == 2), (t335 == 0)))) else (some (bt328.1, bt330.1, bt330.2.1, ((bt x10 0) == 97), x0, ((x10.size : Int) == 2), false))) else (some (bt328.1, bt330.1, bt330.2.1, ((bt x10 0) == 97), x0, ((x10.size : Int) == 2), false))) else (none))))
def jalousieref15_item.f (k : Nat) (a0 : ByteArray) : Option (Int × Int × Int × Bool × ByteArray × Bool × Bool) := (jalousieref15_word.f k a0).bind fun bt316 => ((jalousieref15_word.f k bt316.2.1).bind fun bt319 => ((jalousieref15_word.f k bt319.2.1).bind fun bt322 => ((jalousieref15_word.f k bt322.2.1).bind fun bt325 => (if bt316.2.2 = true then (if bt319.2.2 = true then (if bt322.2.2 = true then (if bt325.2.2 = true then (if bt316.1.toList = ([105, 116, 101, 109] : List UInt8) then (if bt325.1.toList = ([97] : List UInt8) then (jalousieref15_item.j0 k bt325.2.1 bt319.1 bt322.1 bt325.1 false) else (if bt325.1.toList = ([97, 98] : List UInt8) then (jalousieref15_item.j0 k bt325.2.1 bt319.1 bt322.1 bt325.1 false) else (if bt325.1.toList = ([108] : List UInt8) then (jalousieref15_item.j0 k bt325.2.1 bt319.1 bt322.1 bt325.1 false) else (jalousieref15_item.j0 k bt325.2.1 bt319.1 bt322.1 bt325.1 (bt325.1.toList != ([108, 98] : List UInt8)))))) else (jalousieref15_item.j0 k bt325.2.1 bt319.1 bt322.1 bt325.1 true)) else (jalousieref15_item.j0 k bt325.2.1 bt319.1 bt322.1 bt325.1 true)) else (jalousieref15_item.j0 k bt325.2.1 bt319.1 bt322.1 bt325.1 true)) else (jalousieref15_item.j0 k bt325.2.1 bt319.1 bt322.1 bt325.1 true)) else (jalousieref15_item.j0 k bt325.2.1 bt319.1 bt322.1 bt325.1 true)))))
def jalousieref15_item.T9 : Bool × List (List Nat × List Nat) := (true, [([], []), ([], []), ([], []), ([2], [2]), ([3], [3]), ([], []), ([], []), ([6], [6]), ([7], [7]), ([5, 8], [5, 8]), ([0, 1, 4, 9], [0, 1, 4, 9]), ([], []), ([11, 10, 0, 1, 2, 3, 4, 5, 6, 7, 8, 9, 10, 11], [10, 11])])
def jalousieref15_item.B9 : List Nat := [0, 0, 0, 4, 12, 0, 0, 64, 192, 480, 1023, 0, 4095]
theorem jalousieref15_item.tab9 : rtab .any (opsOf Tryd.f39 9) = jalousieref15_item.T9 := by kernel_rfl
theorem jalousieref15_item.bits9 : waitsOk jalousieref15_item.T9.2 jalousieref15_item.B9 = true := by kernel_rfl
def jalousieref15_item.T10 : Bool × List (List Nat × List Nat) := (true, [([], []), ([], []), ([1], [1]), ([2], [2]), ([2, 3], [2, 3]), ([4, 2], [4]), ([5], [5]), ([6, 5, 5], [5, 6]), ([7, 5], [5, 7]), ([5, 8], [5, 8]), ([0, 7, 0], [0]), ([9, 10, 0, 1, 2, 3, 4, 5, 6, 7, 8, 9, 10], [9])])
def jalousieref15_item.B10 : List Nat := [0, 0, 2, 6, 14, 30, 62, 126, 254, 510, 255, 2047]
theorem jalousieref15_item.tab10 : rtab .any (opsOf Tryd.f39 10) = jalousieref15_item.T10 := by kernel_rfl
theorem jalousieref15_item.bits10 : waitsOk jalousieref15_item.T10.2 jalousieref15_item.B10 = true := by kernel_rfl
set_option maxHeartbeats 8000000 in
set_option maxRecDepth 100000 in
theorem jalousieref15_item.calls (k : Nat) (a0 : ByteArray) (r1 : Int) (r2 : Int) (r3 : Int) (r4 : Bool) (r5 : ByteArray) (r6 : Bool) (r7 : Bool) (w : World) (h : jalousieref15_item.f k a0 = some (r1, r2, r3, r4, r5, r6, r7)) :
    Calls Tryd.prog 39 #[.string a0] w fun e w' => e = .returned (.tuple #[.agg #[.int .i64 r1, .int .i64 r2, .int .u64 r3, .bool r4, .string r5, .bool r6], .bool r7]) ∧ Below w.heap.size w w' := by
 have hu41 := Tryd.underlying41
 have hu37 := Tryd.underlying37
 have hu39 := Tryd.underlying39
 have HB := Aside0.mk (Below.refl w.heap.size w)
 have H : ((jalousieref15_word.f k a0).bind fun bt316 => ((jalousieref15_word.f k bt316.2.1).bind fun bt319 => ((jalousieref15_word.f k bt319.2.1).bind fun bt322 => ((jalousieref15_word.f k bt322.2.1).bind fun bt325 => (if bt316.2.2 = true then (if bt319.2.2 = true then (if bt322.2.2 = true then (if bt325.2.2 = true then (if bt316.1.toList = ([105, 116, 101, 109] : List UInt8) then (if bt325.1.toList = ([97] : List UInt8) then (jalousieref15_item.j0 k bt325.2.1 bt319.1 bt322.1 bt325.1 false) else (if bt325.1.toList = ([97, 98] : List UInt8) then (jalousieref15_item.j0 k bt325.2.1 bt319.1 bt322.1 bt325.1 false) else (if bt325.1.toList = ([108] : List UInt8) then (jalousieref15_item.j0 k bt325.2.1 bt319.1 bt322.1 bt325.1 false) else (jalousieref15_item.j0 k bt325.2.1 bt319.1 bt322.1 bt325.1 (bt325.1.toList != ([108, 98] : List UInt8)))))) else (jalousieref15_item.j0 k bt325.2.1 bt319.1 bt322.1 bt325.1 true)) else (jalousieref15_item.j0 k bt325.2.1 bt319.1 bt322.1 bt325.1 true)) else (jalousieref15_item.j0 k bt325.2.1 bt319.1 bt322.1 bt325.1 true)) else (jalousieref15_item.j0 k bt325.2.1 bt319.1 bt322.1 bt325.1 true)) else (jalousieref15_item.j0 k bt325.2.1 bt319.1 bt322.1 bt325.1 true)))))) = some (r1, r2, r3, r4, r5, r6, r7) := h
 clear h
 replace H := Option.bind_eq_some_iff.mp H
 obtain ⟨⟨t316, t317, t318⟩, A20, H⟩ := H
 replace H : ((jalousieref15_word.f k t317).bind fun bt319 => ((jalousieref15_word.f k bt319.2.1).bind fun bt322 => ((jalousieref15_word.f k bt322.2.1).bind fun bt325 => (if t318 = true then (if bt319.2.2 = true then (if bt322.2.2 = true then (if bt325.2.2 = true then (if t316.toList = ([105, 116, 101, 109] : List UInt8) then (if bt325.1.toList = ([97] : List UInt8) then (jalousieref15_item.j0 k bt325.2.1 bt319.1 bt322.1 bt325.1 false) else (if bt325.1.toList = ([97, 98] : List UInt8) then (jalousieref15_item.j0 k bt325.2.1 bt319.1 bt322.1 bt325.1 false) else (if bt325.1.toList = ([108] : List UInt8) then (jalousieref15_item.j0 k bt325.2.1 bt319.1 bt322.1 bt325.1 false) else (jalousieref15_item.j0 k bt325.2.1 bt319.1 bt322.1 bt325.1 (bt325.1.toList != ([108, 98] : List UInt8)))))) else (jalousieref15_item.j0 k bt325.2.1 bt319.1 bt322.1 bt325.1 true)) else (jalousieref15_item.j0 k bt325.2.1 bt319.1 bt322.1 bt325.1 true)) else (jalousieref15_item.j0 k bt325.2.1 bt319.1 bt322.1 bt325.1 true)) else (jalousieref15_item.j0 k bt325.2.1 bt319.1 bt322.1 bt325.1 true)) else (jalousieref15_item.j0 k bt325.2.1 bt319.1 bt322.1 bt325.1 true))))) = some (r1, r2, r3, r4, r5, r6, r7) := H
 have A2 := Aside0.mk A20
 clear A20
 replace H := Option.bind_eq_some_iff.mp H
 obtain ⟨⟨t319, t320, t321⟩, A30, H⟩ := H
 replace H : ((jalousieref15_word.f k t320).bind fun bt322 => ((jalousieref15_word.f k bt322.2.1).bind fun bt325 => (if t318 = true then (if t321 = true then (if bt322.2.2 = true then (if bt325.2.2 = true then (if t316.toList = ([105, 116, 101, 109] : List UInt8) then (if bt325.1.toList = ([97] : List UInt8) then (jalousieref15_item.j0 k bt325.2.1 t319 bt322.1 bt325.1 false) else (if bt325.1.toList = ([97, 98] : List UInt8) then (jalousieref15_item.j0 k bt325.2.1 t319 bt322.1 bt325.1 false) else (if bt325.1.toList = ([108] : List UInt8) then (jalousieref15_item.j0 k bt325.2.1 t319 bt322.1 bt325.1 false) else (jalousieref15_item.j0 k bt325.2.1 t319 bt322.1 bt325.1 (bt325.1.toList != ([108, 98] : List UInt8)))))) else (jalousieref15_item.j0 k bt325.2.1 t319 bt322.1 bt325.1 true)) else (jalousieref15_item.j0 k bt325.2.1 t319 bt322.1 bt325.1 true)) else (jalousieref15_item.j0 k bt325.2.1 t319 bt322.1 bt325.1 true)) else (jalousieref15_item.j0 k bt325.2.1 t319 bt322.1 bt325.1 true)) else (jalousieref15_item.j0 k bt325.2.1 t319 bt322.1 bt325.1 true)))) = some (r1, r2, r3, r4, r5, r6, r7) := H
 have A3 := Aside0.mk A30
 clear A30
 replace H := Option.bind_eq_some_iff.mp H
 obtain ⟨⟨t322, t323, t324⟩, A40, H⟩ := H
 replace H : ((jalousieref15_word.f k t323).bind fun bt325 => (if t318 = true then (if t321 = true then (if t324 = true then (if bt325.2.2 = true then (if t316.toList = ([105, 116, 101, 109] : List UInt8) then (if bt325.1.toList = ([97] : List UInt8) then (jalousieref15_item.j0 k bt325.2.1 t319 t322 bt325.1 false) else (if bt325.1.toList = ([97, 98] : List UInt8) then (jalousieref15_item.j0 k bt325.2.1 t319 t322 bt325.1 false) else (if bt325.1.toList = ([108] : List UInt8) then (jalousieref15_item.j0 k bt325.2.1 t319 t322 bt325.1 false) else (jalousieref15_item.j0 k bt325.2.1 t319 t322 bt325.1 (bt325.1.toList != ([108, 98] : List UInt8)))))) else (jalousieref15_item.j0 k bt325.2.1 t319 t322 bt325.1 true)) else (jalousieref15_item.j0 k bt325.2.1 t319 t322 bt325.1 true)) else (jalousieref15_item.j0 k bt325.2.1 t319 t322 bt325.1 true)) else (jalousieref15_item.j0 k bt325.2.1 t319 t322 bt325.1 true)) else (jalousieref15_item.j0 k bt325.2.1 t319 t322 bt325.1 true))) = some (r1, r2, r3, r4, r5, r6, r7) := H
 have A4 := Aside0.mk A40
 clear A40
 replace H := Option.bind_eq_some_iff.mp H
 obtain ⟨⟨t325, t326, t327⟩, A50, H⟩ := H
 replace H : (if t318 = true then (if t321 = true then (if t324 = true then (if t327 = true then (if t316.toList = ([105, 116, 101, 109] : List UInt8) then (if t325.toList = ([97] : List UInt8) then (jalousieref15_item.j0 k t326 t319 t322 t325 false) else (if t325.toList = ([97, 98] : List UInt8) then (jalousieref15_item.j0 k t326 t319 t322 t325 false) else (if t325.toList = ([108] : List UInt8) then (jalousieref15_item.j0 k t326 t319 t322 t325 false) else (jalousieref15_item.j0 k t326 t319 t322 t325 (t325.toList != ([108, 98] : List UInt8)))))) else (jalousieref15_item.j0 k t326 t319 t322 t325 true)) else (jalousieref15_item.j0 k t326 t319 t322 t325 true)) else (jalousieref15_item.j0 k t326 t319 t322 t325 true)) else (jalousieref15_item.j0 k t326 t319 t322 t325 true)) else (jalousieref15_item.j0 k t326 t319 t322 t325 true)) = some (r1, r2, r3, r4, r5, r6, r7) := H
 have A5 := Aside0.mk A50
 clear A50
 have HC6 := Aside0.mk H
 clear H
 go_enter Tryd.func39, Tryd.ntmps39
 go_upto_region 5 with (first | ((with_reducible refine gate_dst (N := 2) rfl ?_); refine box_event ?hg (N := 2) ?hd (cs := #[.int .i64 0, .int .i64 0, .int .u64 0, .bool false, .string (⟨#[]⟩ : ByteArray), .bool false]) (t := 41) ?hr ?_; (case hd => rfl); (case hg => rfl); (case hr => first | (go_simp; done) | (go_simp; rfl)); intro gb315 hg w7 hbox hb; have n0_ := Aside0.mk (below_step (by repeat (first | (with_reducible first | exact HB.out | apply below_alloc | apply pw_below_drewN | apply below_drew1) | exact HB.out)) hb); have n1_ := Aside0.mk (hbox); have n2_ := Aside0.mk ((by rw [hg]; exact (below_size (by repeat (first | (with_reducible first | exact HB.out | apply below_alloc | apply pw_below_drewN | apply below_drew1) | exact HB.out))) : w.heap.size ≤ gb315)); have n3_ := Aside0.mk ((by rw [hg]; exact (below_size (by repeat (first | (with_reducible first | exact HB.out | apply below_alloc | apply pw_below_drewN | apply below_drew1) | exact HB.out))) : w.heap.size ≤ gb315)); clear HB; have HB := n0_; have BK315 := n1_; have GW315 := n2_; have GE315 := n3_; clear n0_ n1_ n2_ n3_; clear hb hbox hg) | ((with_reducible refine gate_callee (f := 50) rfl ?_); refine goesL_ (some 19) rfl rfl Tryd.func50 (by kernel_rfl) rfl #[.string a0] rfl (by (try simp only [List.map_toArray, List.map_cons, List.map_nil]); first | done | rfl | (simp only [List.length_drop, List.length_take]; rfl) | (simp only [gt_iff_lt, Int.natCast_pos]; rfl)) ?_; (with_reducible refine (jalousieref15_word.calls k a0 t316 t317 t318 _ A2.out).mono ?_); rintro e w' ⟨rfl, ⟨nd, rfl⟩⟩; refine ⟨_, rfl, ?_⟩) | ((with_reducible refine gate_callee (f := 50) rfl ?_); refine goesL_ (some 25) rfl rfl Tryd.func50 (by kernel_rfl) rfl #[.string t317] rfl (by (try simp only [List.map_toArray, List.map_cons, List.map_nil]); first | done | rfl | (simp only [List.length_drop, List.length_take]; rfl) | (simp only [gt_iff_lt, Int.natCast_pos]; rfl)) ?_; (with_reducible refine (jalousieref15_word.calls k t317 t319 t320 t321 _ A3.out).mono ?_); rintro e w' ⟨rfl, ⟨nd, rfl⟩⟩; refine ⟨_, rfl, ?_⟩) | ((with_reducible refine gate_callee (f := 50) rfl ?_); refine goesL_ (some 31) rfl rfl Tryd.func50 (by kernel_rfl) rfl #[.string t320] rfl (by (try simp only [List.map_toArray, List.map_cons, List.map_nil]); first | done | rfl | (simp only [List.length_drop, List.length_take]; rfl) | (simp only [gt_iff_lt, Int.natCast_pos]; rfl)) ?_; (with_reducible refine (jalousieref15_word.calls k t320 t322 t323 t324 _ A4.out).mono ?_); rintro e w' ⟨rfl, ⟨nd, rfl⟩⟩; refine ⟨_, rfl, ?_⟩) | ((with_reducible refine gate_callee (f := 50) rfl ?_); refine goesL_ (some 37) rfl rfl Tryd.func50 (by kernel_rfl) rfl #[.string t323] rfl (by (try simp only [List.map_toArray, List.map_cons, List.map_nil]); first | done | rfl | (simp only [List.length_drop, List.length_take]; rfl) | (simp only [gt_iff_lt, Int.natCast_pos]; rfl)) ?_; (with_reducible refine (jalousieref15_word.calls k t323 t325 t326 t327 _ A5.out).mono ?_); rintro e w' ⟨rfl, ⟨nd, rfl⟩⟩; refine ⟨_, rfl, ?_⟩))
 (try simp only [Act.put, List.setIfInBounds_toArray, List.set_cons_zero, List.set_cons_succ])
 go_cut [74] (fun v74 wc => ∃ (kq : Nat) (x74_5 : Bool), v74 = .bool x74_5 ∧ Aside0 (jalousieref15_item.j0 kq t326 t319 t322 t325 x74_5 = some (r1, r2, r3, r4, r5, r6, r7)) ∧ Aside0 (kq ≤ k) ∧ Aside0 (wc.heap[gb315]? = some (.cells #[.int .i64 0, .int .i64 0, .int .u64 0, .bool false, .string (⟨#[]⟩ : ByteArray), .bool false] 41 (0, 0))) ∧ Aside0 (Below w.heap.size w wc))
 case first =>
  have H := HC6.out
  clear HC6
  by_cases c8 : t318 = true
  focus
   subst c8
   have H1 : (if t321 = true then (if t324 = true then (if t327 = true then (if t316.toList = ([105, 116, 101, 109] : List UInt8) then (if t325.toList = ([97] : List UInt8) then (jalousieref15_item.j0 k t326 t319 t322 t325 false) else (if t325.toList = ([97, 98] : List UInt8) then (jalousieref15_item.j0 k t326 t319 t322 t325 false) else (if t325.toList = ([108] : List UInt8) then (jalousieref15_item.j0 k t326 t319 t322 t325 false) else (jalousieref15_item.j0 k t326 t319 t322 t325 (t325.toList != ([108, 98] : List UInt8)))))) else (jalousieref15_item.j0 k t326 t319 t322 t325 true)) else (jalousieref15_item.j0 k t326 t319 t322 t325 true)) else (jalousieref15_item.j0 k t326 t319 t322 t325 true)) else (jalousieref15_item.j0 k t326 t319 t322 t325 true)) = some (r1, r2, r3, r4, r5, r6, r7) := by rw [if_pos rfl] at H; exact H
   clear H; have H := H1; clear H1
   by_cases c9 : t321 = true
   focus
    subst c9
    have H1 : (if t324 = true then (if t327 = true then (if t316.toList = ([105, 116, 101, 109] : List UInt8) then (if t325.toList = ([97] : List UInt8) then (jalousieref15_item.j0 k t326 t319 t322 t325 false) else (if t325.toList = ([97, 98] : List UInt8) then (jalousieref15_item.j0 k t326 t319 t322 t325 false) else (if t325.toList = ([108] : List UInt8) then (jalousieref15_item.j0 k t326 t319 t322 t325 false) else (jalousieref15_item.j0 k t326 t319 t322 t325 (t325.toList != ([108, 98] : List UInt8)))))) else (jalousieref15_item.j0 k t326 t319 t322 t325 true)) else (jalousieref15_item.j0 k t326 t319 t322 t325 true)) else (jalousieref15_item.j0 k t326 t319 t322 t325 true)) = some (r1, r2, r3, r4, r5, r6, r7) := by rw [if_pos rfl] at H; exact H
    clear H; have H := H1; clear H1
    by_cases c10 : t324 = true
    focus
     subst c10
     have H1 : (if t327 = true then (if t316.toList = ([105, 116, 101, 109] : List UInt8) then (if t325.toList = ([97] : List UInt8) then (jalousieref15_item.j0 k t326 t319 t322 t325 false) else (if t325.toList = ([97, 98] : List UInt8) then (jalousieref15_item.j0 k t326 t319 t322 t325 false) else (if t325.toList = ([108] : List UInt8) then (jalousieref15_item.j0 k t326 t319 t322 t325 false) else (jalousieref15_item.j0 k t326 t319 t322 t325 (t325.toList != ([108, 98] : List UInt8)))))) else (jalousieref15_item.j0 k t326 t319 t322 t325 true)) else (jalousieref15_item.j0 k t326 t319 t322 t325 true)) = some (r1, r2, r3, r4, r5, r6, r7) := by rw [if_pos rfl] at H; exact H
     clear H; have H := H1; clear H1
     by_cases c11 : t327 = true
     focus
      subst c11
      have H1 : (if t316.toList = ([105, 116, 101, 109] : List UInt8) then (if t325.toList = ([97] : List UInt8) then (jalousieref15_item.j0 k t326 t319 t322 t325 false) else (if t325.toList = ([97, 98] : List UInt8) then (jalousieref15_item.j0 k t326 t319 t322 t325 false) else (if t325.toList = ([108] : List UInt8) then (jalousieref15_item.j0 k t326 t319 t322 t325 false) else (jalousieref15_item.j0 k t326 t319 t322 t325 (t325.toList != ([108, 98] : List UInt8)))))) else (jalousieref15_item.j0 k t326 t319 t322 t325 true)) = some (r1, r2, r3, r4, r5, r6, r7) := by rw [if_pos rfl] at H; exact H
      clear H; have H := H1; clear H1
      by_cases c12 : t316.toList = ([105, 116, 101, 109] : List UInt8)
      focus
       rw [if_pos c12] at H
       have c12b0 : (t316.toList == ([105, 116, 101, 109] : List UInt8)) = true := beq_iff_eq.mpr c12
       have c12b1 : (t316.toList != ([105, 116, 101, 109] : List UInt8)) = false := bne_eq_false_iff_eq.mpr c12
       clear c12
       (first | rw [c12b0] | (simp only [i64_w, i32_w]; rw [c12b0]) | skip)
       by_cases c13 : t325.toList = ([97] : List UInt8)
       focus
        rw [if_pos c13] at H
        have c13b0 : (t325.toList == ([97] : List UInt8)) = true := beq_iff_eq.mpr c13
        have c13b1 : (t325.toList != ([97] : List UInt8)) = false := bne_eq_false_iff_eq.mpr c13
        clear c13
        have H' := Aside0.mk H
        clear H
       rotate_left
       focus
        rw [if_neg c13] at H
        have c13b0 : (t325.toList == ([97] : List UInt8)) = false := beq_eq_false_iff_ne.mpr c13
        have c13b1 : (t325.toList != ([97] : List UInt8)) = true := bne_iff_ne.mpr c13
        by_cases c14 : t325.toList = ([97, 98] : List UInt8)
        rotate_left
        ·
         rw [if_neg c14] at H
         have c14b0 : (t325.toList == ([97, 98] : List UInt8)) = false := beq_eq_false_iff_ne.mpr c14
         have c14b1 : (t325.toList != ([97, 98] : List UInt8)) = true := bne_iff_ne.mpr c14
         by_cases c15 : t325.toList = ([108] : List UInt8)
         ·
          rw [if_pos c15] at H
          have c15b0 : (t325.toList == ([108] : List UInt8)) = true := beq_iff_eq.mpr c15
          have c15b1 : (t325.toList != ([108] : List UInt8)) = false := bne_eq_false_iff_eq.mpr c15
          clear c15
          have H' := Aside0.mk H
          clear H
          go_wp2
          go_meet
          case rel => exact ⟨_, (false), (by first | rfl | (simp; done) | (simp [*]; done)), H', ⟨by first | omega | exact Nat.le_refl _⟩, ⟨by (with_reducible repeat (first | refine blk_drewN ?_ _ | refine blk_drew ?_ | refine blk_alloc ?_ _)); exact BK315.out⟩, ⟨by repeat (first | (with_reducible first | exact HB.out | apply below_alloc | apply pw_below_drewN | apply below_drew1 | refine below_set ?_ GE315.out) | exact HB.out)⟩⟩
         ·
          rw [if_neg c15] at H
          have c15b0 : (t325.toList == ([108] : List UInt8)) = false := beq_eq_false_iff_ne.mpr c15
          have c15b1 : (t325.toList != ([108] : List UInt8)) = true := bne_iff_ne.mpr c15
          have H' := Aside0.mk H
          clear H
          go_wp2
          go_meet
          case rel => exact ⟨_, ((t325.toList != ([108, 98] : List UInt8))), (by first | rfl | (simp; done) | (simp [*]; done)), H', ⟨by first | omega | exact Nat.le_refl _⟩, ⟨by (with_reducible repeat (first | refine blk_drewN ?_ _ | refine blk_drew ?_ | refine blk_alloc ?_ _)); exact BK315.out⟩, ⟨by repeat (first | (with_reducible first | exact HB.out | apply below_alloc | apply pw_below_drewN | apply below_drew1 | refine below_set ?_ GE315.out) | exact HB.out)⟩⟩
        rw [if_pos c14] at H
        have c14b0 : (t325.toList == ([97, 98] : List UInt8)) = true := beq_iff_eq.mpr c14
        have c14b1 : (t325.toList != ([97, 98] : List UInt8)) = false := bne_eq_false_iff_eq.mpr c14
        clear c14
        have H' := Aside0.mk H
        clear H
       rotate_left
      rotate_left 2
      focus
       rw [if_neg c12] at H
       have c12b0 : (t316.toList == ([105, 116, 101, 109] : List UInt8)) = false := beq_eq_false_iff_ne.mpr c12
       have c12b1 : (t316.toList != ([105, 116, 101, 109] : List UInt8)) = true := bne_iff_ne.mpr c12
       (first | rw [c12b0] | (simp only [i64_w, i32_w]; rw [c12b0]) | skip)
       have H' := Aside0.mk H
       clear H
      rotate_left
     rotate_left 3
     focus
      replace c11 := Bool.eq_false_iff.mpr c11
      subst c11
      have H1 : (jalousieref15_item.j0 k t326 t319 t322 t325 true) = some (r1, r2, r3, r4, r5, r6, r7) := by rw [if_neg (show ¬ (false = true) by decide)] at H; exact H
      clear H; have H := H1; clear H1
      have H' := Aside0.mk H
      clear H
     rotate_left
    rotate_left 4
    focus
     replace c10 := Bool.eq_false_iff.mpr c10
     subst c10
     have H1 : (jalousieref15_item.j0 k t326 t319 t322 t325 true) = some (r1, r2, r3, r4, r5, r6, r7) := by rw [if_neg (show ¬ (false = true) by decide)] at H; exact H
     clear H; have H := H1; clear H1
     have H' := Aside0.mk H
     clear H
    rotate_left
   rotate_left 5
   focus
    replace c9 := Bool.eq_false_iff.mpr c9
    subst c9
    have H1 : (jalousieref15_item.j0 k t326 t319 t322 t325 true) = some (r1, r2, r3, r4, r5, r6, r7) := by rw [if_neg (show ¬ (false = true) by decide)] at H; exact H
    clear H; have H := H1; clear H1
    have H' := Aside0.mk H
    clear H
   rotate_left
  rotate_left 6
  focus
   replace c8 := Bool.eq_false_iff.mpr c8
   subst c8
   have H1 : (jalousieref15_item.j0 k t326 t319 t322 t325 true) = some (r1, r2, r3, r4, r5, r6, r7) := by rw [if_neg (show ¬ (false = true) by decide)] at H; exact H
   clear H; have H := H1; clear H1
   have H' := Aside0.mk H
   clear H
  rotate_left
  all_goals
   go_wp2
   go_meet
   case rel => exact ⟨_, (_), (by first | rfl | (simp; done) | (simp [*]; done)), H', ⟨by first | omega | exact Nat.le_refl _⟩, ⟨by (with_reducible repeat (first | refine blk_drewN ?_ _ | refine blk_drew ?_ | refine blk_alloc ?_ _)); exact BK315.out⟩, ⟨by repeat (first | (with_reducible first | exact HB.out | apply below_alloc | apply pw_below_drewN | apply below_drew1 | refine below_set ?_ GE315.out) | exact HB.out)⟩⟩
 case rest =>
  clear HC6
  try clear c1
  try clear p2
  try clear c3
  try clear c5
  try clear c8
  try clear c9
  try clear c10
  try clear c11
  try clear c12
  try clear c12b0
  try clear c12b1
  try clear c13
  try clear c13b0
  try clear c13b1
  try clear c14
  try clear c14b0
  try clear c14b1
  try clear c15
  try clear c15b0
  try clear c15b1
  obtain ⟨kq, x74_5, rfl, HA, HJ5, BK315, HB⟩ := hcut
  cases kq with
  | zero => exact absurd HA.out (by simp [jalousieref15_item.j0])
  | succ kj5 =>
   have H := HA.out
   clear HA
   simp only [jalousieref15_item.j0] at H
   by_cases c16 : x74_5 = true
   rotate_left
   ·
    replace c16 := Bool.eq_false_iff.mpr c16
    subst c16
    have H1 : ((jalousieref01_Number.f kj5 t319).bind fun bt328 => ((jalousieref02_Parse.f kj5 t322).bind fun bt330 => (if 0 < (t325.size : Int) then (if bt328.2 = true then (if bt330.2.2 = true then ((jalousieref15_check.f kj5 bt328.1 bt330.1 bt330.2.1 ((bt t325 0) == 97) t326 ((t325.size : Int) == 2)).bind fun t335 => (some (bt328.1, bt330.1, bt330.2.1, ((bt t325 0) == 97), t326, ((t325.size : Int) == 2), (t335 == 0)))) else (some (bt328.1, bt330.1, bt330.2.1, ((bt t325 0) == 97), t326, ((t325.size : Int) == 2), false))) else (some (bt328.1, bt330.1, bt330.2.1, ((bt t325 0) == 97), t326, ((t325.size : Int) == 2), false))) else (none)))) = some (r1, r2, r3, r4, r5, r6, r7) := by rw [if_neg (show ¬ (false = true) by decide)] at H; exact H
    clear H; have H := H1; clear H1
    replace H := Option.bind_eq_some_iff.mp H
    obtain ⟨⟨t328, t329⟩, A180, H⟩ := H
    replace H : ((jalousieref02_Parse.f kj5 t322).bind fun bt330 => (if 0 < (t325.size : Int) then (if t329 = true then (if bt330.2.2 = true then ((jalousieref15_check.f kj5 t328 bt330.1 bt330.2.1 ((bt t325 0) == 97) t326 ((t325.size : Int) == 2)).bind fun t335 => (some (t328, bt330.1, bt330.2.1, ((bt t325 0) == 97), t326, ((t325.size : Int) == 2), (t335 == 0)))) else (some (t328, bt330.1, bt330.2.1, ((bt t325 0) == 97), t326, ((t325.size : Int) == 2), false))) else (some (t328, bt330.1, bt330.2.1, ((bt t325 0) == 97), t326, ((t325.size : Int) == 2), false))) else (none))) = some (r1, r2, r3, r4, r5, r6, r7) := H
    have A18 := Aside0.mk A180
    clear A180
    replace H := Option.bind_eq_some_iff.mp H
    obtain ⟨⟨t330, t331, t332⟩, A190, H⟩ := H
    replace H : (if 0 < (t325.size : Int) then (if t329 = true then (if t332 = true then ((jalousieref15_check.f kj5 t328 t330 t331 ((bt t325 0) == 97) t326 ((t325.size : Int) == 2)).bind fun t335 => (some (t328, t330, t331, ((bt t325 0) == 97), t326, ((t325.size : Int) == 2), (t335 == 0)))) else (some (t328, t330, t331, ((bt t325 0) == 97), t326, ((t325.size : Int) == 2), false))) else (some (t328, t330, t331, ((bt t325 0) == 97), t326, ((t325.size : Int) == 2), false))) else (none)) = some (r1, r2, r3, r4, r5, r6, r7) := H
    have A19 := Aside0.mk A190
    clear A190
    by_cases c20 : 0 < (t325.size : Int)
    ·
     rw [if_pos c20] at H
     have c20b0 : decide (0 < (t325.size : Int)) = true := decide_eq_true c20
     have c20b1 : decide (0 < t325.size) = true := decide_eq_true (by omega)
     clear c20
     by_cases c22 : t329 = true
     ·
      subst c22
      have H1 : (if t332 = true then ((jalousieref15_check.f kj5 t328 t330 t331 ((bt t325 0) == 97) t326 ((t325.size : Int) == 2)).bind fun t335 => (some (t328, t330, t331, ((bt t325 0) == 97), t326, ((t325.size : Int) == 2), (t335 == 0)))) else (some (t328, t330, t331, ((bt t325 0) == 97), t326, ((t325.size : Int) == 2), false))) = some (r1, r2, r3, r4, r5, r6, r7) := by rw [if_pos rfl] at H; exact H
      clear H; have H := H1; clear H1
      by_cases c23 : t332 = true
      focus
       subst c23
       have H1 : ((jalousieref15_check.f kj5 t328 t330 t331 ((bt t325 0) == 97) t326 ((t325.size : Int) == 2)).bind fun t335 => (some (t328, t330, t331, ((bt t325 0) == 97), t326, ((t325.size : Int) == 2), (t335 == 0)))) = some (r1, r2, r3, r4, r5, r6, r7) := by rw [if_pos rfl] at H; exact H
       clear H; have H := H1; clear H1
       replace H := Option.bind_eq_some_iff.mp H
       obtain ⟨t335, A240, H⟩ := H
       replace H : (some (t328, t330, t331, ((bt t325 0) == 97), t326, ((t325.size : Int) == 2), (t335 == 0))) = some (r1, r2, r3, r4, r5, r6, r7) := H
       have A24 := Aside0.mk A240
       clear A240
       simp only [Option.some.injEq, Prod.mk.injEq] at H
       obtain ⟨rfl, rfl, rfl, rfl, rfl, rfl, rfl⟩ := H
      rotate_left
      focus
       replace c23 := Bool.eq_false_iff.mpr c23
       subst c23
       have H1 : (some (t328, t330, t331, ((bt t325 0) == 97), t326, ((t325.size : Int) == 2), false)) = some (r1, r2, r3, r4, r5, r6, r7) := by rw [if_neg (show ¬ (false = true) by decide)] at H; exact H
       clear H; have H := H1; clear H1
       simp only [Option.some.injEq, Prod.mk.injEq] at H
       obtain ⟨rfl, rfl, rfl, rfl, rfl, rfl, rfl⟩ := H
      rotate_left
      all_goals
       try go_wp2_with (first | ((with_reducible refine gate_callee (f := 38) rfl ?_); refine goesL_ (some 78) rfl rfl Tryd.func38 (by kernel_rfl) rfl #[.string t319] rfl (by (try simp only [List.map_toArray, List.map_cons, List.map_nil]); first | done | rfl | (simp only [List.length_drop, List.length_take]; rfl) | (simp only [gt_iff_lt, Int.natCast_pos]; rfl)) ?_; (with_reducible refine (jalousieref01_Number.calls kj5 t319 t328 true _ A18.out).mono ?_); rintro e w' ⟨rfl, ⟨nd, rfl⟩⟩; refine ⟨_, rfl, ?_⟩; (try (rw [drewN_self wc]; generalize hq_ : World.drewN wc _ = wc; have n0_ : Aside0 (wc.heap[gb315]? = some (.cells #[.int .i64 0, .int .i64 0, .int .u64 0, .bool false, .string (⟨#[]⟩ : ByteArray), .bool false] 41 (0, 0))) := ⟨by rw [← hq_]; exact (by (with_reducible repeat (first | refine blk_drewN ?_ _ | refine blk_drew ?_ | refine blk_alloc ?_ _)); exact BK315.out)⟩; have n1_ : Aside0 (Below w.heap.size w wc) := ⟨by rw [← hq_]; exact (by repeat (first | (with_reducible first | exact HB.out | apply below_alloc | apply pw_below_drewN | apply below_drew1 | refine below_set ?_ GE315.out) | exact HB.out))⟩; clear BK315 HB hq_; have BK315 := n0_; have HB := n1_; clear n0_ n1_))) | ((with_reducible refine gate_callee (f := 51) rfl ?_); refine goesL_ (some 83) rfl rfl Tryd.func51 (by kernel_rfl) rfl #[.string t322] rfl (by (try simp only [List.map_toArray, List.map_cons, List.map_nil]); first | done | rfl | (simp only [List.length_drop, List.length_take]; rfl) | (simp only [gt_iff_lt, Int.natCast_pos]; rfl)) ?_; (with_reducible refine (jalousieref02_Parse.calls kj5 t322 t330 t331 _ _ A19.out).mono ?_); rintro e w25 ⟨rfl, hb⟩; refine ⟨_, rfl, ?_⟩; have n0_ := Aside0.mk (blk_below (g := gb315) (o := .cells #[.int .i64 0, .int .i64 0, .int .u64 0, .bool false, .string (⟨#[]⟩ : ByteArray), .bool false] 41 (0, 0)) (by (with_reducible repeat (first | refine blk_drewN ?_ _ | refine blk_drew ?_ | refine blk_alloc ?_ _)); exact BK315.out) hb); have n1_ := Aside0.mk (below_step (by repeat (first | (with_reducible first | exact HB.out | apply below_alloc | apply pw_below_drewN | apply below_drew1 | refine below_set ?_ GE315.out) | exact HB.out)) hb); clear BK315; clear HB; have BK315 := n0_; have HB := n1_; clear n0_ n1_; (try clear hb); (try clear hb2); (try clear hk); (try clear hi)) | ((with_reducible refine gate_dst (N := 14) rfl ?_); refine box_event ?hg (N := 14) ?hd (cs := #[.int .i64 0, .int .u64 0]) (t := 37) ?hr ?_; (case hd => rfl); (case hg => rfl); (case hr => first | (go_simp; done) | (go_simp; rfl)); intro gb333 hg w26 hbox hb; have n0_ := Aside0.mk (blk_below (g := gb315) (o := .cells #[.int .i64 0, .int .i64 0, .int .u64 0, .bool false, .string (⟨#[]⟩ : ByteArray), .bool false] 41 (0, 0)) (by (with_reducible repeat (first | refine blk_drewN ?_ _ | refine blk_drew ?_ | refine blk_alloc ?_ _)); exact BK315.out) hb); have n1_ := Aside0.mk (below_step (by repeat (first | (with_reducible first | exact HB.out | apply below_alloc | apply pw_below_drewN | apply below_drew1 | refine below_set ?_ GE315.out) | exact HB.out)) hb); have n2_ := Aside0.mk (hbox); have n3_ := Aside0.mk ((by rw [hg]; exact (below_size (by repeat (first | (with_reducible first | exact HB.out | apply below_alloc | apply pw_below_drewN | apply below_drew1 | refine below_set ?_ GE315.out) | exact HB.out))) : w.heap.size ≤ gb333)); have n4_ := Aside0.mk ((by rw [hg]; exact (below_size (by repeat (first | (with_reducible first | exact HB.out | apply below_alloc | apply pw_below_drewN | apply below_drew1 | refine below_set ?_ GE315.out) | exact HB.out))) : w.heap.size ≤ gb333)); have n5_ := Aside0.mk ((by rw [hg]; exact Nat.ne_of_lt (blk_lt (g := gb315) (o := .cells #[.int .i64 0, .int .i64 0, .int .u64 0, .bool false, .string (⟨#[]⟩ : ByteArray), .bool false] 41 (0, 0)) (by (with_reducible repeat (first | refine blk_drewN ?_ _ | refine blk_drew ?_ | refine blk_alloc ?_ _)); exact BK315.out)) : gb315 ≠ gb333)); have n6_ := Aside0.mk ((by rw [hg]; exact Nat.ne_of_gt (blk_lt (g := gb315) (o := .cells #[.int .i64 0, .int .i64 0, .int .u64 0, .bool false, .string (⟨#[]⟩ : ByteArray), .bool false] 41 (0, 0)) (by (with_reducible repeat (first | refine blk_drewN ?_ _ | refine blk_drew ?_ | refine blk_alloc ?_ _)); exact BK315.out)) : gb333 ≠ gb315)); clear BK315; clear HB; have BK315 := n0_; have HB := n1_; have BK333 := n2_; have GW333 := n3_; have GE333 := n4_; have NB315_333 := n5_; have NB333_315 := n6_; clear n0_ n1_ n2_ n3_ n4_ n5_ n6_; clear hb hbox hg; have hnb27 := NB333_315.out; have hnc27 := NB315_333.out; have hcz28_0 : w26.cell? ⟨gb333, 0, none⟩ = some (.int .i64 0) := (blk_cell BK333.out 0).trans rfl; have hcz28_1 : w26.cell? ⟨gb333, 1, none⟩ = some (.int .u64 0) := (blk_cell BK333.out 1).trans rfl; have hfz28_0 := blk_frozen BK333.out 0; have hfz28_1 := blk_frozen BK333.out 1))
       have n0_ : Aside0 (((w26.setCell ⟨gb333, 0, none⟩ (.int .i64 t330)).setCell ⟨gb333, 1, none⟩ (.int .u64 t331)).heap[gb315]? = some (.cells #[.int .i64 0, .int .i64 0, .int .u64 0, .bool false, .string (⟨#[]⟩ : ByteArray), .bool false] 41 (0, 0))) := ⟨by (with_reducible repeat (first | refine blk_drewN ?_ _ | refine blk_drew ?_ | refine blk_alloc ?_ _)); refine blk_far ?_ NB315_333.out _; (with_reducible repeat (first | refine blk_drewN ?_ _ | refine blk_drew ?_ | refine blk_alloc ?_ _)); refine blk_far ?_ NB315_333.out _; (with_reducible repeat (first | refine blk_drewN ?_ _ | refine blk_drew ?_ | refine blk_alloc ?_ _)); exact BK315.out⟩
       have n1_ : Aside0 (((w26.setCell ⟨gb333, 0, none⟩ (.int .i64 t330)).setCell ⟨gb333, 1, none⟩ (.int .u64 t331)).heap[gb333]? = some (.cells #[.int .i64 t330, .int .u64 t331] 37 (0, 0))) := ⟨by (with_reducible repeat (first | refine blk_drewN ?_ _ | refine blk_drew ?_ | refine blk_alloc ?_ _)); refine blk_put (cs := #[.int .i64 t330, .int .u64 0]) ?_ 1 _ rfl; (with_reducible repeat (first | refine blk_drewN ?_ _ | refine blk_drew ?_ | refine blk_alloc ?_ _)); refine blk_put (cs := #[.int .i64 0, .int .u64 0]) ?_ 0 _ rfl; (with_reducible repeat (first | refine blk_drewN ?_ _ | refine blk_drew ?_ | refine blk_alloc ?_ _)); exact BK333.out⟩
       have n2_ : Aside0 (Below w.heap.size w ((w26.setCell ⟨gb333, 0, none⟩ (.int .i64 t330)).setCell ⟨gb333, 1, none⟩ (.int .u64 t331))) := ⟨by repeat (first | (with_reducible first | exact HB.out | apply below_alloc | apply pw_below_drewN | apply below_drew1 | refine below_set ?_ GE315.out | refine below_set ?_ GE333.out) | exact HB.out)⟩
       (try clear BK315)
       (try clear BK333)
       (try clear HB)
       generalize ((w26.setCell ⟨gb333, 0, none⟩ (.int .i64 t330)).setCell ⟨gb333, 1, none⟩ (.int .u64 t331)) = w29 at n0_ n1_ n2_ ⊢
       have BK315 := n0_; have BK333 := n1_; have HB := n2_; clear n0_ n1_ n2_
       have n0_ := Aside0.mk (blk_drew BK315.out)
       have n1_ := Aside0.mk (blk_drew BK333.out)
       have n2_ := Aside0.mk (below_drew1 HB.out)
       clear BK315; clear BK333; clear HB; have BK315 := n0_; have BK333 := n1_; have HB := n2_; clear n0_ n1_ n2_
       have p21 : 0 ≤ (0 : Int) := (by omega)
       have q21 : 0 < t325.size := (by have : (0 : Int) < (t325.size : Int) := of_decide_eq_true (by first | (with_reducible assumption) | assumption); omega)
       have hx21 : ∀ h : 0 < t325.size, ((t325[0]'h).toNat : Int) = bt t325 0 := bt_at t325 0
       clear p21
       have qi21 : (0 < (t325.size : Int)) = True := eq_true (of_decide_eq_true (by first | (with_reducible assumption) | assumption))
       replace q21 := eq_true q21
       refine start_ (n := 13) (S := fun w' => w'.cell? ⟨gb333, 0, none⟩ = some (.int .i64 t330) ∧ w'.cell? ⟨gb333, 1, none⟩ = some (.int .u64 t331)) (ds := []) (bm 13 0) (by kernel_rfl) rfl rfl ⟨(blk_cell BK333.out 0).trans rfl, (blk_cell BK333.out 1).trans rfl⟩ (fun hHeld => ?_); refine with_tabW jalousieref15_item.tab9 jalousieref15_item.bits9 (fun HT_ HW_ => ?_)
       generalize w29.drew = w30 at BK315 BK333 HB hHeld ⊢
       refine pure_ (i := 0) (N := some 86) (v := ?_) (a' := ?_) (bm 13 1) rfl rfl (any_of HT_.out (by kernel_rfl)) (fun _ _ _ h => h) (Or.inl ⟨by rfl, ?_⟩) ?_ ?_; rotate_left; (intro w'; go_simp; with_reducible rfl); rotate_left; (simp only [Act.put, List.setIfInBounds_toArray, List.set_cons_zero, List.set_cons_succ, i64_w, i32_w]; rfl)
       refine pure_ (i := 2) (N := some 88) (v := ?_) (a' := ?_) (bm 13 5) rfl rfl (any_of HT_.out (by kernel_rfl)) (fun _ _ _ h => h) (Or.inl ⟨by rfl, ?_⟩) ?_ ?_; rotate_left; (intro w'; go_simp; with_reducible rfl); rotate_left; (simp only [Act.put, List.setIfInBounds_toArray, List.set_cons_zero, List.set_cons_succ, i64_w, i32_w]; rfl)
       refine pure_ (i := 5) (N := some 91) (v := ?_) (a' := ?_) (bm 13 37) rfl rfl (any_of HT_.out (by kernel_rfl)) (fun _ _ _ h => h) (Or.inl ⟨by rfl, ?_⟩) ?_ ?_; rotate_left; (intro w'; go_simp; with_reducible rfl); rotate_left; (simp only [Act.put, List.setIfInBounds_toArray, List.set_cons_zero, List.set_cons_succ, i64_w, i32_w]; rfl)
       refine pure_ (i := 6) (N := some 92) (v := ?_) (a' := ?_) (bm 13 101) rfl rfl (any_of HT_.out (by kernel_rfl)) (fun _ _ _ h => h) (Or.inl ⟨by rfl, ?_⟩) ?_ ?_; rotate_left; (intro w'; go_simp; with_reducible rfl); rotate_left; (simp only [Act.put, List.setIfInBounds_toArray, List.set_cons_zero, List.set_cons_succ, i64_w, i32_w]; rfl)
       refine pure_ (i := 7) (N := some 93) (v := ?_) (a' := ?_) (bm 13 229) rfl rfl (any_of HT_.out (by kernel_rfl)) (fun _ _ _ h => h) (Or.inl ⟨by rfl, ?_⟩) ?_ ?_; rotate_left; (intro w'; go_simp; with_reducible rfl); rotate_left; (simp only [Act.put, List.setIfInBounds_toArray, List.set_cons_zero, List.set_cons_succ, i64_w, i32_w]; rfl)
       refine pure_ (i := 8) (N := some 94) (v := ?_) (a' := ?_) (bm 13 485) rfl rfl (any_of HT_.out (by kernel_rfl)) (fun _ _ _ h => h) (Or.inl ⟨by rfl, ?_⟩) ?_ ?_; rotate_left; (intro w'; go_simp; with_reducible rfl); rotate_left; (simp only [Act.put, List.setIfInBounds_toArray, List.set_cons_zero, List.set_cons_succ, i64_w, i32_w]; rfl)
       refine pure_ (i := 9) (N := some 95) (v := ?_) (a' := ?_) (bm 13 997) rfl rfl (any_of HT_.out (by kernel_rfl)) (fun _ _ _ h => h) (Or.inl ⟨by rfl, ?_⟩) ?_ ?_; rotate_left; (intro w'; go_simp; with_reducible rfl); rotate_left; (simp only [Act.put, List.setIfInBounds_toArray, List.set_cons_zero, List.set_cons_succ, i64_w, i32_w]; rfl)
       refine take_ (i := 1) (N := some 87) (v := ?_) (a' := ?_) (bm 13 999) rfl rfl (take_ofW HT_.out HW_.out (by kernel_rfl)) (fun _ _ _ h => h) (Or.inl ⟨by rfl, ?_⟩) hHeld ?_ ?_; rotate_left; (rintro w' ⟨s0, s1⟩; go_simp; with_reducible rfl); rotate_left; (simp only [Act.put, List.setIfInBounds_toArray, List.set_cons_zero, List.set_cons_succ, i64_w, i32_w]; rfl)
       refine take_ (i := 3) (N := some 89) (v := ?_) (a' := ?_) (bm 13 1007) rfl rfl (take_ofW HT_.out HW_.out (by kernel_rfl)) (fun _ _ _ h => h) (Or.inl ⟨by rfl, ?_⟩) hHeld ?_ ?_; rotate_left; (rintro w' ⟨s0, s1⟩; go_simp; with_reducible rfl); rotate_left; (simp only [Act.put, List.setIfInBounds_toArray, List.set_cons_zero, List.set_cons_succ, i64_w, i32_w]; rfl)
       refine pure_ (i := 4) (N := some 90) (v := ?_) (a' := ?_) (bm 13 1023) rfl rfl (any_of HT_.out (by kernel_rfl)) (fun _ _ _ h => h) (Or.inl ⟨by rfl, ?_⟩) ?_ ?_; rotate_left; (intro w'; go_simp; with_reducible rfl); rotate_left; (simp only [Act.put, List.setIfInBounds_toArray, List.set_cons_zero, List.set_cons_succ, i64_w, i32_w]; rfl)
       refine pure_ (i := 10) (N := some 96) (v := ?_) (a' := ?_) (bm 13 2047) rfl rfl (any_of HT_.out (by kernel_rfl)) (fun _ _ _ h => h) (Or.inl ⟨by rfl, ?_⟩) ?_ ?_; rotate_left; (intro w'; go_simp; with_reducible rfl); rotate_left; (simp only [Act.put, List.setIfInBounds_toArray, List.set_cons_zero, List.set_cons_succ, i64_w, i32_w]; rfl)
       refine one_ (i := 11) (N := some 16) (bm 13 4095) rfl rfl (one_of HT_.out (by kernel_rfl)) (by decide) (fun K hK => ?_)
       refine box_step ?hg (N := 16) ?hd (cs := #[.int .i64 0, .int .i64 0, .int .u64 0, .bool false, .string (⟨#[]⟩ : ByteArray), .bool false]) (t := 41) ?hr ?_; (case hd => rfl); (case hg => rfl); (case hr => first | (go_simp; done) | (go_simp; rfl))
       intro gb334 hg w31 hbox hb
       have n0_ := Aside0.mk (blk_below (g := gb315) (o := .cells #[.int .i64 0, .int .i64 0, .int .u64 0, .bool false, .string (⟨#[]⟩ : ByteArray), .bool false] 41 (0, 0)) (by (with_reducible repeat (first | refine blk_drewN ?_ _ | refine blk_drew ?_ | refine blk_alloc ?_ _)); exact BK315.out) hb)
       have n1_ := Aside0.mk (blk_below (g := gb333) (o := .cells #[.int .i64 t330, .int .u64 t331] 37 (0, 0)) (by (with_reducible repeat (first | refine blk_drewN ?_ _ | refine blk_drew ?_ | refine blk_alloc ?_ _)); exact BK333.out) hb)
       have n2_ := Aside0.mk (below_step (by repeat (first | (with_reducible first | exact HB.out | apply below_alloc | apply pw_below_drewN | apply below_drew1 | refine below_set ?_ GE315.out | refine below_set ?_ GE333.out) | exact HB.out)) hb)
       have n3_ := Aside0.mk (hbox)
       have n4_ := Aside0.mk ((by rw [hg]; exact (below_size (by repeat (first | (with_reducible first | exact HB.out | apply below_alloc | apply pw_below_drewN | apply below_drew1 | refine below_set ?_ GE315.out | refine below_set ?_ GE333.out) | exact HB.out))) : w.heap.size ≤ gb334))
       have n5_ := Aside0.mk ((by rw [hg]; exact (below_size (by repeat (first | (with_reducible first | exact HB.out | apply below_alloc | apply pw_below_drewN | apply below_drew1 | refine below_set ?_ GE315.out | refine below_set ?_ GE333.out) | exact HB.out))) : w.heap.size ≤ gb334))
       have n6_ := Aside0.mk ((by rw [hg]; exact Nat.ne_of_lt (blk_lt (g := gb315) (o := .cells #[.int .i64 0, .int .i64 0, .int .u64 0, .bool false, .string (⟨#[]⟩ : ByteArray), .bool false] 41 (0, 0)) (by (with_reducible repeat (first | refine blk_drewN ?_ _ | refine blk_drew ?_ | refine blk_alloc ?_ _)); exact BK315.out)) : gb315 ≠ gb334))
       have n7_ := Aside0.mk ((by rw [hg]; exact Nat.ne_of_gt (blk_lt (g := gb315) (o := .cells #[.int .i64 0, .int .i64 0, .int .u64 0, .bool false, .string (⟨#[]⟩ : ByteArray), .bool false] 41 (0, 0)) (by (with_reducible repeat (first | refine blk_drewN ?_ _ | refine blk_drew ?_ | refine blk_alloc ?_ _)); exact BK315.out)) : gb334 ≠ gb315))
       have n8_ := Aside0.mk ((by rw [hg]; exact Nat.ne_of_lt (blk_lt (g := gb333) (o := .cells #[.int .i64 t330, .int .u64 t331] 37 (0, 0)) (by (with_reducible repeat (first | refine blk_drewN ?_ _ | refine blk_drew ?_ | refine blk_alloc ?_ _)); exact BK333.out)) : gb333 ≠ gb334))
       have n9_ := Aside0.mk ((by rw [hg]; exact Nat.ne_of_gt (blk_lt (g := gb333) (o := .cells #[.int .i64 t330, .int .u64 t331] 37 (0, 0)) (by (with_reducible repeat (first | refine blk_drewN ?_ _ | refine blk_drew ?_ | refine blk_alloc ?_ _)); exact BK333.out)) : gb334 ≠ gb333))
       clear BK315; clear BK333; clear HB; have BK315 := n0_; have BK333 := n1_; have HB := n2_; have BK334 := n3_; have GW334 := n4_; have GE334 := n5_; have NB315_334 := n6_; have NB334_315 := n7_; have NB333_334 := n8_; have NB334_333 := n9_; clear n0_ n1_ n2_ n3_ n4_ n5_ n6_ n7_ n8_ n9_; clear hb hbox hg
       refine hK.out _ _ ⟨(blk_cell BK333.out 0).trans rfl, (blk_cell BK333.out 1).trans rfl⟩ (fun hHeld => ?_)
       clear hK K
       refine norm_ (a' := ?_) ?_ ?_
       rotate_left
       ·
        show Act.put _ (some 16) _ = _
        simp only [Act.put, List.setIfInBounds_toArray, List.set_cons_zero, List.set_cons_succ, i64_w, i32_w]
        rfl
       refine one_ (i := 12) (N := none) (bm 13 8191) rfl rfl (one_of HT_.out (by kernel_rfl)) (by decide) (fun K hK => ?_)
       have hs32 : w31.cell? ⟨gb334, 0, none⟩ = some (.int .i64 0) := (blk_cell BK334.out 0).trans rfl
       have hfs32 := blk_frozen BK334.out 0
       have hns32_0 := NB315_334.out
       have hns32_1 := NB333_334.out
       have hms32_0 := NB334_315.out
       have hms32_1 := NB334_333.out
       have hs33 : w31.cell? ⟨gb334, 1, none⟩ = some (.int .i64 0) := (blk_cell BK334.out 1).trans rfl
       have hfs33 := blk_frozen BK334.out 1
       have hns33_0 := NB315_334.out
       have hns33_1 := NB333_334.out
       have hms33_0 := NB334_315.out
       have hms33_1 := NB334_333.out
       have hs34 : w31.cell? ⟨gb334, 2, none⟩ = some (.int .u64 0) := (blk_cell BK334.out 2).trans rfl
       have hfs34 := blk_frozen BK334.out 2
       have hns34_0 := NB315_334.out
       have hns34_1 := NB333_334.out
       have hms34_0 := NB334_315.out
       have hms34_1 := NB334_333.out
       have hs35 : w31.cell? ⟨gb334, 3, none⟩ = some (.bool false) := (blk_cell BK334.out 3).trans rfl
       have hfs35 := blk_frozen BK334.out 3
       have hns35_0 := NB315_334.out
       have hns35_1 := NB333_334.out
       have hms35_0 := NB334_315.out
       have hms35_1 := NB334_333.out
       have hs36 : w31.cell? ⟨gb334, 4, none⟩ = some (.string (⟨#[]⟩ : ByteArray)) := (blk_cell BK334.out 4).trans rfl
       have hfs36 := blk_frozen BK334.out 4
       have hns36_0 := NB315_334.out
       have hns36_1 := NB333_334.out
       have hms36_0 := NB334_315.out
       have hms36_1 := NB334_333.out
       have hs37 : w31.cell? ⟨gb334, 5, none⟩ = some (.bool false) := (blk_cell BK334.out 5).trans rfl
       have hfs37 := blk_frozen BK334.out 5
       have hns37_0 := NB315_334.out
       have hns37_1 := NB333_334.out
       have hms37_0 := NB334_315.out
       have hms37_1 := NB334_333.out
       refine skip_ (w1 := ?_) (by rfl) rfl ?_ ?_
       rotate_left
       ·
        go_simp
        rfl
       refine hK.out _ _ ⟨(cell_far6 NB333_334.out (hHeld.1) _ _ _ _ _ _), (cell_far6 NB333_334.out (hHeld.2) _ _ _ _ _ _)⟩ (fun hHeld => ?_)
       clear hK K
       refine done_ (done_of HT_.out (by kernel_rfl)) ?_
       try go_wp2
       have n0_ : Aside0 (((((((w31.setCell ⟨gb334, 0, none⟩ (.int .i64 t328)).setCell ⟨gb334, 1, none⟩ (.int .i64 t330)).setCell ⟨gb334, 2, none⟩ (.int .u64 t331)).setCell ⟨gb334, 3, none⟩ (.bool ((bt t325 0) == 97))).setCell ⟨gb334, 4, none⟩ (.string t326)).setCell ⟨gb334, 5, none⟩ (.bool ((t325.size : Int) == 2))).heap[gb315]? = some (.cells #[.int .i64 0, .int .i64 0, .int .u64 0, .bool false, .string (⟨#[]⟩ : ByteArray), .bool false] 41 (0, 0))) := ⟨by (with_reducible repeat (first | refine blk_drewN ?_ _ | refine blk_drew ?_ | refine blk_alloc ?_ _)); refine blk_far ?_ NB315_334.out _; (with_reducible repeat (first | refine blk_drewN ?_ _ | refine blk_drew ?_ | refine blk_alloc ?_ _)); refine blk_far ?_ NB315_334.out _; (with_reducible repeat (first | refine blk_drewN ?_ _ | refine blk_drew ?_ | refine blk_alloc ?_ _)); refine blk_far ?_ NB315_334.out _; (with_reducible repeat (first | refine blk_drewN ?_ _ | refine blk_drew ?_ | refine blk_alloc ?_ _)); refine blk_far ?_ NB315_334.out _; (with_reducible repeat (first | refine blk_drewN ?_ _ | refine blk_drew ?_ | refine blk_alloc ?_ _)); refine blk_far ?_ NB315_334.out _; (with_reducible repeat (first | refine blk_drewN ?_ _ | refine blk_drew ?_ | refine blk_alloc ?_ _)); refine blk_far ?_ NB315_334.out _; (with_reducible repeat (first | refine blk_drewN ?_ _ | refine blk_drew ?_ | refine blk_alloc ?_ _)); exact BK315.out⟩
       have n1_ : Aside0 (((((((w31.setCell ⟨gb334, 0, none⟩ (.int .i64 t328)).setCell ⟨gb334, 1, none⟩ (.int .i64 t330)).setCell ⟨gb334, 2, none⟩ (.int .u64 t331)).setCell ⟨gb334, 3, none⟩ (.bool ((bt t325 0) == 97))).setCell ⟨gb334, 4, none⟩ (.string t326)).setCell ⟨gb334, 5, none⟩ (.bool ((t325.size : Int) == 2))).heap[gb333]? = some (.cells #[.int .i64 t330, .int .u64 t331] 37 (0, 0))) := ⟨by (with_reducible repeat (first | refine blk_drewN ?_ _ | refine blk_drew ?_ | refine blk_alloc ?_ _)); refine blk_far ?_ NB333_334.out _; (with_reducible repeat (first | refine blk_drewN ?_ _ | refine blk_drew ?_ | refine blk_alloc ?_ _)); refine blk_far ?_ NB333_334.out _; (with_reducible repeat (first | refine blk_drewN ?_ _ | refine blk_drew ?_ | refine blk_alloc ?_ _)); refine blk_far ?_ NB333_334.out _; (with_reducible repeat (first | refine blk_drewN ?_ _ | refine blk_drew ?_ | refine blk_alloc ?_ _)); refine blk_far ?_ NB333_334.out _; (with_reducible repeat (first | refine blk_drewN ?_ _ | refine blk_drew ?_ | refine blk_alloc ?_ _)); refine blk_far ?_ NB333_334.out _; (with_reducible repeat (first | refine blk_drewN ?_ _ | refine blk_drew ?_ | refine blk_alloc ?_ _)); refine blk_far ?_ NB333_334.out _; (with_reducible repeat (first | refine blk_drewN ?_ _ | refine blk_drew ?_ | refine blk_alloc ?_ _)); exact BK333.out⟩
       have n2_ : Aside0 (((((((w31.setCell ⟨gb334, 0, none⟩ (.int .i64 t328)).setCell ⟨gb334, 1, none⟩ (.int .i64 t330)).setCell ⟨gb334, 2, none⟩ (.int .u64 t331)).setCell ⟨gb334, 3, none⟩ (.bool ((bt t325 0) == 97))).setCell ⟨gb334, 4, none⟩ (.string t326)).setCell ⟨gb334, 5, none⟩ (.bool ((t325.size : Int) == 2))).heap[gb334]? = some (.cells #[.int .i64 t328, .int .i64 t330, .int .u64 t331, .bool ((bt t325 0) == 97), .string t326, .bool ((t325.size : Int) == 2)] 41 (0, 0))) := ⟨by (with_reducible repeat (first | refine blk_drewN ?_ _ | refine blk_drew ?_ | refine blk_alloc ?_ _)); refine blk_put (cs := #[.int .i64 t328, .int .i64 t330, .int .u64 t331, .bool ((bt t325 0) == 97), .string t326, .bool false]) ?_ 5 _ rfl; (with_reducible repeat (first | refine blk_drewN ?_ _ | refine blk_drew ?_ | refine blk_alloc ?_ _)); refine blk_put (cs := #[.int .i64 t328, .int .i64 t330, .int .u64 t331, .bool ((bt t325 0) == 97), .string (⟨#[]⟩ : ByteArray), .bool false]) ?_ 4 _ rfl; (with_reducible repeat (first | refine blk_drewN ?_ _ | refine blk_drew ?_ | refine blk_alloc ?_ _)); refine blk_put (cs := #[.int .i64 t328, .int .i64 t330, .int .u64 t331, .bool false, .string (⟨#[]⟩ : ByteArray), .bool false]) ?_ 3 _ rfl; (with_reducible repeat (first | refine blk_drewN ?_ _ | refine blk_drew ?_ | refine blk_alloc ?_ _)); refine blk_put (cs := #[.int .i64 t328, .int .i64 t330, .int .u64 0, .bool false, .string (⟨#[]⟩ : ByteArray), .bool false]) ?_ 2 _ rfl; (with_reducible repeat (first | refine blk_drewN ?_ _ | refine blk_drew ?_ | refine blk_alloc ?_ _)); refine blk_put (cs := #[.int .i64 t328, .int .i64 0, .int .u64 0, .bool false, .string (⟨#[]⟩ : ByteArray), .bool false]) ?_ 1 _ rfl; (with_reducible repeat (first | refine blk_drewN ?_ _ | refine blk_drew ?_ | refine blk_alloc ?_ _)); refine blk_put (cs := #[.int .i64 0, .int .i64 0, .int .u64 0, .bool false, .string (⟨#[]⟩ : ByteArray), .bool false]) ?_ 0 _ rfl; (with_reducible repeat (first | refine blk_drewN ?_ _ | refine blk_drew ?_ | refine blk_alloc ?_ _)); exact BK334.out⟩
       have n3_ : Aside0 (Below w.heap.size w ((((((w31.setCell ⟨gb334, 0, none⟩ (.int .i64 t328)).setCell ⟨gb334, 1, none⟩ (.int .i64 t330)).setCell ⟨gb334, 2, none⟩ (.int .u64 t331)).setCell ⟨gb334, 3, none⟩ (.bool ((bt t325 0) == 97))).setCell ⟨gb334, 4, none⟩ (.string t326)).setCell ⟨gb334, 5, none⟩ (.bool ((t325.size : Int) == 2)))) := ⟨by repeat (first | (with_reducible first | exact HB.out | apply below_alloc | apply pw_below_drewN | apply below_drew1 | refine below_set ?_ GE315.out | refine below_set ?_ GE333.out | refine below_set ?_ GE334.out) | exact HB.out)⟩
       (try clear BK315)
       (try clear BK333)
       (try clear BK334)
       (try clear HB)
       generalize ((((((w31.setCell ⟨gb334, 0, none⟩ (.int .i64 t328)).setCell ⟨gb334, 1, none⟩ (.int .i64 t330)).setCell ⟨gb334, 2, none⟩ (.int .u64 t331)).setCell ⟨gb334, 3, none⟩ (.bool ((bt t325 0) == 97))).setCell ⟨gb334, 4, none⟩ (.string t326)).setCell ⟨gb334, 5, none⟩ (.bool ((t325.size : Int) == 2))) = w38 at n0_ n1_ n2_ n3_ ⊢
       have BK315 := n0_; have BK333 := n1_; have BK334 := n2_; have HB := n3_; clear n0_ n1_ n2_ n3_
       have n0_ := Aside0.mk (blk_drew BK315.out)
       have n1_ := Aside0.mk (blk_drew BK333.out)
       have n2_ := Aside0.mk (blk_drew BK334.out)
       have n3_ := Aside0.mk (below_drew1 HB.out)
       clear BK315; clear BK333; clear BK334; clear HB; have BK315 := n0_; have BK333 := n1_; have BK334 := n2_; have HB := n3_; clear n0_ n1_ n2_ n3_
      ·
       refine start_ (n := 12) (S := fun w' => w'.cell? ⟨gb334, 0, none⟩ = some (.int .i64 t328) ∧ w'.cell? ⟨gb334, 1, none⟩ = some (.int .i64 t330) ∧ w'.cell? ⟨gb334, 2, none⟩ = some (.int .u64 t331) ∧ w'.cell? ⟨gb334, 3, none⟩ = some (.bool ((bt t325 0) == 97)) ∧ w'.cell? ⟨gb334, 4, none⟩ = some (.string t326) ∧ w'.cell? ⟨gb334, 5, none⟩ = some (.bool ((t325.size : Int) == 2))) (ds := []) (bm 12 0) (by kernel_rfl) rfl rfl ⟨(blk_cell BK334.out 0).trans rfl, (blk_cell BK334.out 1).trans rfl, (blk_cell BK334.out 2).trans rfl, (blk_cell BK334.out 3).trans rfl, (blk_cell BK334.out 4).trans rfl, (blk_cell BK334.out 5).trans rfl⟩ (fun hHeld => ?_); refine with_tabW jalousieref15_item.tab10 jalousieref15_item.bits10 (fun HT_ HW_ => ?_)
       generalize w38.drew = w39 at BK315 BK333 BK334 HB hHeld ⊢
       refine pure_ (i := 1) (N := some 98) (v := ?_) (a' := ?_) (bm 12 2) rfl rfl (any_of HT_.out (by kernel_rfl)) (fun _ _ _ h => h) (Or.inl ⟨by rfl, ?_⟩) ?_ ?_; rotate_left; (intro w'; go_simp; with_reducible rfl); rotate_left; (simp only [Act.put, List.setIfInBounds_toArray, List.set_cons_zero, List.set_cons_succ, i64_w, i32_w]; rfl)
       refine pure_ (i := 2) (N := some 99) (v := ?_) (a' := ?_) (bm 12 6) rfl rfl (any_of HT_.out (by kernel_rfl)) (fun _ _ _ h => h) (Or.inl ⟨by rfl, ?_⟩) ?_ ?_; rotate_left; (intro w'; go_simp; with_reducible rfl); rotate_left; (simp only [Act.put, List.setIfInBounds_toArray, List.set_cons_zero, List.set_cons_succ, i64_w, i32_w]; rfl)
       refine pure_ (i := 3) (N := some 100) (v := ?_) (a' := ?_) (bm 12 14) rfl rfl (any_of HT_.out (by kernel_rfl)) (fun _ _ _ h => h) (Or.inl ⟨by rfl, ?_⟩) ?_ ?_; rotate_left; (intro w'; go_simp; with_reducible rfl); rotate_left; (simp only [Act.put, List.setIfInBounds_toArray, List.set_cons_zero, List.set_cons_succ, i64_w, i32_w]; rfl)
       refine pure_ (i := 4) (N := some 101) (v := ?_) (a' := ?_) (bm 12 30) rfl rfl (any_of HT_.out (by kernel_rfl)) (fun _ _ _ h => h) (Or.inl ⟨by rfl, ?_⟩) ?_ ?_; rotate_left; (intro w'; go_simp; with_reducible rfl); rotate_left; (simp only [Act.put, List.setIfInBounds_toArray, List.set_cons_zero, List.set_cons_succ, i64_w, i32_w]; rfl)
       refine pure_ (i := 5) (N := some 102) (v := ?_) (a' := ?_) (bm 12 62) rfl rfl (any_of HT_.out (by kernel_rfl)) (fun _ _ _ h => h) (Or.inl ⟨by rfl, ?_⟩) ?_ ?_; rotate_left; (intro w'; go_simp; with_reducible rfl); rotate_left; (simp only [Act.put, List.setIfInBounds_toArray, List.set_cons_zero, List.set_cons_succ, i64_w, i32_w]; rfl)
       refine take_ (i := 0) (N := some 97) (v := ?_) (a' := ?_) (bm 12 63) rfl rfl (take_ofW HT_.out HW_.out (by kernel_rfl)) (fun _ _ _ h => h) (Or.inl ⟨by rfl, ?_⟩) hHeld ?_ ?_; rotate_left; (rintro w' ⟨s0, s1, s2, s3, s4, s5⟩; go_simp; with_reducible rfl); rotate_left; (simp only [Act.put, List.setIfInBounds_toArray, List.set_cons_zero, List.set_cons_succ, i64_w, i32_w]; rfl)
       refine take_ (i := 6) (N := some 103) (v := ?_) (a' := ?_) (bm 12 127) rfl rfl (take_ofW HT_.out HW_.out (by kernel_rfl)) (fun _ _ _ h => h) (Or.inl ⟨by rfl, ?_⟩) hHeld ?_ ?_; rotate_left; (rintro w' ⟨s0, s1, s2, s3, s4, s5⟩; go_simp; with_reducible rfl); rotate_left; (simp only [Act.put, List.setIfInBounds_toArray, List.set_cons_zero, List.set_cons_succ, i64_w, i32_w]; rfl)
       refine one_ (i := 7) (N := some 104) (bm 12 255) rfl rfl (one_of HT_.out (by kernel_rfl)) (by decide) (fun K hK => ?_)
       refine goes_ Tryd.func31 (by kernel_rfl) rfl #[.agg #[.int .i64 t328, .int .i64 t330, .int .u64 t331, .bool ((bt t325 0) == 97), .string t326, .bool ((t325.size : Int) == 2)]] (by rfl) rfl rfl (by (try simp only [List.map_toArray, List.map_cons, List.map_nil]); first | done | rfl | (simp only [List.length_drop, List.length_take]; rfl) | (simp only [gt_iff_lt, Int.natCast_pos]; rfl)) ?_
       with_reducible refine (jalousieref15_check.calls kj5 t328 t330 t331 ((bt t325 0) == 97) t326 ((t325.size : Int) == 2) t335 _ A24.out).mono ?_
       rintro e w40 ⟨rfl, hb⟩
       refine ⟨_, rfl, ?_⟩
       have n0_ := Aside0.mk (blk_below (g := gb315) (o := .cells #[.int .i64 0, .int .i64 0, .int .u64 0, .bool false, .string (⟨#[]⟩ : ByteArray), .bool false] 41 (0, 0)) (by (with_reducible repeat (first | refine blk_drewN ?_ _ | refine blk_drew ?_ | refine blk_alloc ?_ _)); exact BK315.out) hb)
       have n1_ := Aside0.mk (blk_below (g := gb333) (o := .cells #[.int .i64 t330, .int .u64 t331] 37 (0, 0)) (by (with_reducible repeat (first | refine blk_drewN ?_ _ | refine blk_drew ?_ | refine blk_alloc ?_ _)); exact BK333.out) hb)
       have n2_ := Aside0.mk (blk_below (g := gb334) (o := .cells #[.int .i64 t328, .int .i64 t330, .int .u64 t331, .bool ((bt t325 0) == 97), .string t326, .bool ((t325.size : Int) == 2)] 41 (0, 0)) (by (with_reducible repeat (first | refine blk_drewN ?_ _ | refine blk_drew ?_ | refine blk_alloc ?_ _)); exact BK334.out) hb)
       have n3_ := Aside0.mk (below_step (by repeat (first | (with_reducible first | exact HB.out | apply below_alloc | apply pw_below_drewN | apply below_drew1 | refine below_set ?_ GE315.out | refine below_set ?_ GE333.out | refine below_set ?_ GE334.out) | exact HB.out)) hb)
       clear BK315; clear BK333; clear BK334; clear HB; have BK315 := n0_; have BK333 := n1_; have BK334 := n2_; have HB := n3_; clear n0_ n1_ n2_ n3_
       (try clear hb)
       (try clear hb2)
       (try clear hk)
       (try clear hi)
       refine hK.out _ _ ⟨(blk_cell BK334.out 0).trans rfl, (blk_cell BK334.out 1).trans rfl, (blk_cell BK334.out 2).trans rfl, (blk_cell BK334.out 3).trans rfl, (blk_cell BK334.out 4).trans rfl, (blk_cell BK334.out 5).trans rfl⟩ (fun hHeld => ?_)
       clear hK K
       refine norm_ (a' := ?_) ?_ ?_
       rotate_left
       ·
        show Act.put _ (some 104) _ = _
        simp only [Act.put, List.setIfInBounds_toArray, List.set_cons_zero, List.set_cons_succ, i64_w, i32_w]
        rfl
       refine pure_ (i := 8) (N := some 105) (v := ?_) (a' := ?_) (bm 12 511) rfl rfl (any_of HT_.out (by kernel_rfl)) (fun _ _ _ h => h) (Or.inl ⟨by rfl, ?_⟩) ?_ ?_; rotate_left; (intro w'; go_simp; with_reducible rfl); rotate_left; (simp only [Act.put, List.setIfInBounds_toArray, List.set_cons_zero, List.set_cons_succ, i64_w, i32_w]; rfl)
       refine pure_ (i := 9) (N := some 106) (v := ?_) (a' := ?_) (bm 12 1023) rfl rfl (any_of HT_.out (by kernel_rfl)) (fun _ _ _ h => h) (Or.inl ⟨by rfl, ?_⟩) ?_ ?_; rotate_left; (intro w'; go_simp; with_reducible rfl); rotate_left; (simp only [Act.put, List.setIfInBounds_toArray, List.set_cons_zero, List.set_cons_succ, i64_w, i32_w]; rfl)
       refine one_ (i := 10) (N := none) (bm 12 2047) rfl rfl (one_of HT_.out (by kernel_rfl)) (by decide) (fun K hK => ?_)
       have hs41 : w40.cell? ⟨gb315, 0, none⟩ = some (.int .i64 0) := (blk_cell BK315.out 0).trans rfl
       have hfs41 := blk_frozen BK315.out 0
       have hns41_1 := NB333_315.out
       have hns41_2 := NB334_315.out
       have hms41_1 := NB315_333.out
       have hms41_2 := NB315_334.out
       have hs42 : w40.cell? ⟨gb315, 1, none⟩ = some (.int .i64 0) := (blk_cell BK315.out 1).trans rfl
       have hfs42 := blk_frozen BK315.out 1
       have hns42_1 := NB333_315.out
       have hns42_2 := NB334_315.out
       have hms42_1 := NB315_333.out
       have hms42_2 := NB315_334.out
       have hs43 : w40.cell? ⟨gb315, 2, none⟩ = some (.int .u64 0) := (blk_cell BK315.out 2).trans rfl
       have hfs43 := blk_frozen BK315.out 2
       have hns43_1 := NB333_315.out
       have hns43_2 := NB334_315.out
       have hms43_1 := NB315_333.out
       have hms43_2 := NB315_334.out
       have hs44 : w40.cell? ⟨gb315, 3, none⟩ = some (.bool false) := (blk_cell BK315.out 3).trans rfl
       have hfs44 := blk_frozen BK315.out 3
       have hns44_1 := NB333_315.out
       have hns44_2 := NB334_315.out
       have hms44_1 := NB315_333.out
       have hms44_2 := NB315_334.out
       have hs45 : w40.cell? ⟨gb315, 4, none⟩ = some (.string (⟨#[]⟩ : ByteArray)) := (blk_cell BK315.out 4).trans rfl
       have hfs45 := blk_frozen BK315.out 4
       have hns45_1 := NB333_315.out
       have hns45_2 := NB334_315.out
       have hms45_1 := NB315_333.out
       have hms45_2 := NB315_334.out
       have hs46 : w40.cell? ⟨gb315, 5, none⟩ = some (.bool false) := (blk_cell BK315.out 5).trans rfl
       have hfs46 := blk_frozen BK315.out 5
       have hns46_1 := NB333_315.out
       have hns46_2 := NB334_315.out
       have hms46_1 := NB315_333.out
       have hms46_2 := NB315_334.out
       refine skip_ (w1 := ?_) (by rfl) rfl ?_ ?_
       rotate_left
       ·
        go_simp
        rfl
       refine hK.out _ _ ⟨(cell_far6 NB334_315.out (hHeld.1) _ _ _ _ _ _), (cell_far6 NB334_315.out (hHeld.2.1) _ _ _ _ _ _), (cell_far6 NB334_315.out (hHeld.2.2.1) _ _ _ _ _ _), (cell_far6 NB334_315.out (hHeld.2.2.2.1) _ _ _ _ _ _), (cell_far6 NB334_315.out (hHeld.2.2.2.2.1) _ _ _ _ _ _), (cell_far6 NB334_315.out (hHeld.2.2.2.2.2) _ _ _ _ _ _)⟩ (fun hHeld => ?_)
       clear hK K
       refine pure_ (i := 11) (N := some 3) (v := ?_) (a' := ?_) (bm 12 4095) rfl rfl (any_of HT_.out (by kernel_rfl)) (fun _ _ _ h => h) (Or.inl ⟨by rfl, ?_⟩) ?_ ?_; rotate_left; (intro w'; go_simp; with_reducible rfl); rotate_left; (simp only [Act.put, List.setIfInBounds_toArray, List.set_cons_zero, List.set_cons_succ, i64_w, i32_w]; rfl)
       refine done_ (done_of HT_.out (by kernel_rfl)) ?_
       try go_wp2
       refine bodyPost_ret (results_ct rfl _ _ gb315 41 #[.int .i64 t328, .int .i64 t330, .int .u64 t331, .bool ((bt t325 0) == 97), .string t326, .bool ((t325.size : Int) == 2)] (0, 0) _ rfl (by (with_reducible repeat (first | refine blk_drewN ?_ _ | refine blk_drew ?_ | refine blk_alloc ?_ _)); refine blk_put (cs := #[.int .i64 t328, .int .i64 t330, .int .u64 t331, .bool ((bt t325 0) == 97), .string t326, .bool false]) ?_ 5 _ rfl; (with_reducible repeat (first | refine blk_drewN ?_ _ | refine blk_drew ?_ | refine blk_alloc ?_ _)); refine blk_put (cs := #[.int .i64 t328, .int .i64 t330, .int .u64 t331, .bool ((bt t325 0) == 97), .string (⟨#[]⟩ : ByteArray), .bool false]) ?_ 4 _ rfl; (with_reducible repeat (first | refine blk_drewN ?_ _ | refine blk_drew ?_ | refine blk_alloc ?_ _)); refine blk_put (cs := #[.int .i64 t328, .int .i64 t330, .int .u64 t331, .bool false, .string (⟨#[]⟩ : ByteArray), .bool false]) ?_ 3 _ rfl; (with_reducible repeat (first | refine blk_drewN ?_ _ | refine blk_drew ?_ | refine blk_alloc ?_ _)); refine blk_put (cs := #[.int .i64 t328, .int .i64 t330, .int .u64 0, .bool false, .string (⟨#[]⟩ : ByteArray), .bool false]) ?_ 2 _ rfl; (with_reducible repeat (first | refine blk_drewN ?_ _ | refine blk_drew ?_ | refine blk_alloc ?_ _)); refine blk_put (cs := #[.int .i64 t328, .int .i64 0, .int .u64 0, .bool false, .string (⟨#[]⟩ : ByteArray), .bool false]) ?_ 1 _ rfl; (with_reducible repeat (first | refine blk_drewN ?_ _ | refine blk_drew ?_ | refine blk_alloc ?_ _)); refine blk_put (cs := #[.int .i64 0, .int .i64 0, .int .u64 0, .bool false, .string (⟨#[]⟩ : ByteArray), .bool false]) ?_ 0 _ rfl; (with_reducible repeat (first | refine blk_drewN ?_ _ | refine blk_drew ?_ | refine blk_alloc ?_ _)); exact BK315.out) Tryd.underlying41 rfl (by kernel_rfl)) rfl ?_
       exact ⟨by first | rfl | (simp [errW_none, errW_some] <;> rfl) | (simp [*, errW_none, errW_some] <;> rfl), by repeat (first | (with_reducible first | exact HB.out | apply below_alloc | apply pw_below_drewN | apply below_drew1 | refine below_set ?_ GE315.out | refine below_set ?_ GE333.out | refine below_set ?_ GE334.out) | exact HB.out)⟩
      ·
       refine start_ (n := 12) (S := fun w' => w'.cell? ⟨gb334, 0, none⟩ = some (.int .i64 t328) ∧ w'.cell? ⟨gb334, 1, none⟩ = some (.int .i64 t330) ∧ w'.cell? ⟨gb334, 2, none⟩ = some (.int .u64 t331) ∧ w'.cell? ⟨gb334, 3, none⟩ = some (.bool ((bt t325 0) == 97)) ∧ w'.cell? ⟨gb334, 4, none⟩ = some (.string t326) ∧ w'.cell? ⟨gb334, 5, none⟩ = some (.bool ((t325.size : Int) == 2))) (ds := []) (bm 12 0) (by kernel_rfl) rfl rfl ⟨(blk_cell BK334.out 0).trans rfl, (blk_cell BK334.out 1).trans rfl, (blk_cell BK334.out 2).trans rfl, (blk_cell BK334.out 3).trans rfl, (blk_cell BK334.out 4).trans rfl, (blk_cell BK334.out 5).trans rfl⟩ (fun hHeld => ?_); refine with_tabW jalousieref15_item.tab10 jalousieref15_item.bits10 (fun HT_ HW_ => ?_)
       generalize w38.drew = w61 at BK315 BK333 BK334 HB hHeld ⊢
       refine pure_ (i := 1) (N := some 98) (v := ?_) (a' := ?_) (bm 12 2) rfl rfl (any_of HT_.out (by kernel_rfl)) (fun _ _ _ h => h) (Or.inl ⟨by rfl, ?_⟩) ?_ ?_; rotate_left; (intro w'; go_simp; with_reducible rfl); rotate_left; (simp only [Act.put, List.setIfInBounds_toArray, List.set_cons_zero, List.set_cons_succ, i64_w, i32_w]; rfl)
       refine pure_ (i := 2) (N := some 99) (v := ?_) (a' := ?_) (bm 12 6) rfl rfl (any_of HT_.out (by kernel_rfl)) (fun _ _ _ h => h) (Or.inl ⟨by rfl, ?_⟩) ?_ ?_; rotate_left; (intro w'; go_simp; with_reducible rfl); rotate_left; (simp only [Act.put, List.setIfInBounds_toArray, List.set_cons_zero, List.set_cons_succ, i64_w, i32_w]; rfl)
       refine pure_ (i := 3) (N := some 100) (v := ?_) (a' := ?_) (bm 12 14) rfl rfl (any_of HT_.out (by kernel_rfl)) (fun _ _ _ h => h) (Or.inl ⟨by rfl, ?_⟩) ?_ ?_; rotate_left; (intro w'; go_simp; with_reducible rfl); rotate_left; (simp only [Act.put, List.setIfInBounds_toArray, List.set_cons_zero, List.set_cons_succ, i64_w, i32_w]; rfl)
       refine pure_ (i := 4) (N := some 101) (v := ?_) (a' := ?_) (bm 12 30) rfl rfl (any_of HT_.out (by kernel_rfl)) (fun _ _ _ h => h) (Or.inl ⟨by rfl, ?_⟩) ?_ ?_; rotate_left; (intro w'; go_simp; with_reducible rfl); rotate_left; (simp only [Act.put, List.setIfInBounds_toArray, List.set_cons_zero, List.set_cons_succ, i64_w, i32_w]; rfl)
       refine pure_ (i := 5) (N := some 102) (v := ?_) (a' := ?_) (bm 12 62) rfl rfl (any_of HT_.out (by kernel_rfl)) (fun _ _ _ h => h) (Or.inl ⟨by rfl, ?_⟩) ?_ ?_; rotate_left; (intro w'; go_simp; with_reducible rfl); rotate_left; (simp only [Act.put, List.setIfInBounds_toArray, List.set_cons_zero, List.set_cons_succ, i64_w, i32_w]; rfl)
       refine pure_ (i := 6) (N := some 103) (v := undef) (a' := ?_) (bm 12 126) rfl rfl (any_of HT_.out (by kernel_rfl)) (fun _ _ _ h => h) (Or.inr ⟨by rfl, rfl⟩) ?_ ?_
       rotate_left
       ·
        simp only [Act.put, List.setIfInBounds_toArray, List.set_cons_zero, List.set_cons_succ, i64_w, i32_w]
        rfl
       refine pure_ (i := 7) (N := some 104) (v := undef) (a' := ?_) (bm 12 254) rfl rfl (any_of HT_.out (by kernel_rfl)) (fun _ _ _ h => h) (Or.inr ⟨by rfl, rfl⟩) ?_ ?_
       rotate_left
       ·
        simp only [Act.put, List.setIfInBounds_toArray, List.set_cons_zero, List.set_cons_succ, i64_w, i32_w]
        rfl
       refine pure_ (i := 8) (N := some 105) (v := undef) (a' := ?_) (bm 12 510) rfl rfl (any_of HT_.out (by kernel_rfl)) (fun _ _ _ h => h) (Or.inr ⟨by rfl, rfl⟩) ?_ ?_
       rotate_left
       ·
        simp only [Act.put, List.setIfInBounds_toArray, List.set_cons_zero, List.set_cons_succ, i64_w, i32_w]
        rfl
       refine pure_ (i := 9) (N := some 106) (v := ?_) (a' := ?_) (bm 12 1022) rfl rfl (any_of HT_.out (by kernel_rfl)) (fun _ _ _ h => h) (Or.inl ⟨by rfl, ?_⟩) ?_ ?_; rotate_left; (intro w'; go_simp; with_reducible rfl); rotate_left; (simp only [Act.put, List.setIfInBounds_toArray, List.set_cons_zero, List.set_cons_succ, i64_w, i32_w]; rfl)
       refine take_ (i := 0) (N := some 97) (v := ?_) (a' := ?_) (bm 12 1023) rfl rfl (take_ofW HT_.out HW_.out (by kernel_rfl)) (fun _ _ _ h => h) (Or.inl ⟨by rfl, ?_⟩) hHeld ?_ ?_; rotate_left; (rintro w' ⟨s0, s1, s2, s3, s4, s5⟩; go_simp; with_reducible rfl); rotate_left; (simp only [Act.put, List.setIfInBounds_toArray, List.set_cons_zero, List.set_cons_succ, i64_w, i32_w]; rfl)
       refine one_ (i := 10) (N := none) (bm 12 2047) rfl rfl (one_of HT_.out (by kernel_rfl)) (by decide) (fun K hK => ?_)
       have hs62 : w61.cell? ⟨gb315, 0, none⟩ = some (.int .i64 0) := (blk_cell BK315.out 0).trans rfl
       have hfs62 := blk_frozen BK315.out 0
       have hns62_1 := NB333_315.out
       have hns62_2 := NB334_315.out
       have hms62_1 := NB315_333.out
       have hms62_2 := NB315_334.out
       have hs63 : w61.cell? ⟨gb315, 1, none⟩ = some (.int .i64 0) := (blk_cell BK315.out 1).trans rfl
       have hfs63 := blk_frozen BK315.out 1
       have hns63_1 := NB333_315.out
       have hns63_2 := NB334_315.out
       have hms63_1 := NB315_333.out
       have hms63_2 := NB315_334.out
       have hs64 : w61.cell? ⟨gb315, 2, none⟩ = some (.int .u64 0) := (blk_cell BK315.out 2).trans rfl
       have hfs64 := blk_frozen BK315.out 2
       have hns64_1 := NB333_315.out
       have hns64_2 := NB334_315.out
       have hms64_1 := NB315_333.out
       have hms64_2 := NB315_334.out
       have hs65 : w61.cell? ⟨gb315, 3, none⟩ = some (.bool false) := (blk_cell BK315.out 3).trans rfl
       have hfs65 := blk_frozen BK315.out 3
       have hns65_1 := NB333_315.out
       have hns65_2 := NB334_315.out
       have hms65_1 := NB315_333.out
       have hms65_2 := NB315_334.out
       have hs66 : w61.cell? ⟨gb315, 4, none⟩ = some (.string (⟨#[]⟩ : ByteArray)) := (blk_cell BK315.out 4).trans rfl
       have hfs66 := blk_frozen BK315.out 4
       have hns66_1 := NB333_315.out
       have hns66_2 := NB334_315.out
       have hms66_1 := NB315_333.out
       have hms66_2 := NB315_334.out
       have hs67 : w61.cell? ⟨gb315, 5, none⟩ = some (.bool false) := (blk_cell BK315.out 5).trans rfl
       have hfs67 := blk_frozen BK315.out 5
       have hns67_1 := NB333_315.out
       have hns67_2 := NB334_315.out
       have hms67_1 := NB315_333.out
       have hms67_2 := NB315_334.out
       refine skip_ (w1 := ?_) (by rfl) rfl ?_ ?_
       rotate_left
       ·
        go_simp
        rfl
       refine hK.out _ _ ⟨(cell_far6 NB334_315.out (hHeld.1) _ _ _ _ _ _), (cell_far6 NB334_315.out (hHeld.2.1) _ _ _ _ _ _), (cell_far6 NB334_315.out (hHeld.2.2.1) _ _ _ _ _ _), (cell_far6 NB334_315.out (hHeld.2.2.2.1) _ _ _ _ _ _), (cell_far6 NB334_315.out (hHeld.2.2.2.2.1) _ _ _ _ _ _), (cell_far6 NB334_315.out (hHeld.2.2.2.2.2) _ _ _ _ _ _)⟩ (fun hHeld => ?_)
       clear hK K
       refine pure_ (i := 11) (N := some 3) (v := ?_) (a' := ?_) (bm 12 4095) rfl rfl (any_of HT_.out (by kernel_rfl)) (fun _ _ _ h => h) (Or.inl ⟨by rfl, ?_⟩) ?_ ?_; rotate_left; (intro w'; go_simp; with_reducible rfl); rotate_left; (simp only [Act.put, List.setIfInBounds_toArray, List.set_cons_zero, List.set_cons_succ, i64_w, i32_w]; rfl)
       refine done_ (done_of HT_.out (by kernel_rfl)) ?_
       try go_wp2
       refine bodyPost_ret (results_ct rfl _ _ gb315 41 #[.int .i64 t328, .int .i64 t330, .int .u64 t331, .bool ((bt t325 0) == 97), .string t326, .bool ((t325.size : Int) == 2)] (0, 0) _ rfl (by (with_reducible repeat (first | refine blk_drewN ?_ _ | refine blk_drew ?_ | refine blk_alloc ?_ _)); refine blk_put (cs := #[.int .i64 t328, .int .i64 t330, .int .u64 t331, .bool ((bt t325 0) == 97), .string t326, .bool false]) ?_ 5 _ rfl; (with_reducible repeat (first | refine blk_drewN ?_ _ | refine blk_drew ?_ | refine blk_alloc ?_ _)); refine blk_put (cs := #[.int .i64 t328, .int .i64 t330, .int .u64 t331, .bool ((bt t325 0) == 97), .string (⟨#[]⟩ : ByteArray), .bool false]) ?_ 4 _ rfl; (with_reducible repeat (first | refine blk_drewN ?_ _ | refine blk_drew ?_ | refine blk_alloc ?_ _)); refine blk_put (cs := #[.int .i64 t328, .int .i64 t330, .int .u64 t331, .bool false, .string (⟨#[]⟩ : ByteArray), .bool false]) ?_ 3 _ rfl; (with_reducible repeat (first | refine blk_drewN ?_ _ | refine blk_drew ?_ | refine blk_alloc ?_ _)); refine blk_put (cs := #[.int .i64 t328, .int .i64 t330, .int .u64 0, .bool false, .string (⟨#[]⟩ : ByteArray), .bool false]) ?_ 2 _ rfl; (with_reducible repeat (first | refine blk_drewN ?_ _ | refine blk_drew ?_ | refine blk_alloc ?_ _)); refine blk_put (cs := #[.int .i64 t328, .int .i64 0, .int .u64 0, .bool false, .string (⟨#[]⟩ : ByteArray), .bool false]) ?_ 1 _ rfl; (with_reducible repeat (first | refine blk_drewN ?_ _ | refine blk_drew ?_ | refine blk_alloc ?_ _)); refine blk_put (cs := #[.int .i64 0, .int .i64 0, .int .u64 0, .bool false, .string (⟨#[]⟩ : ByteArray), .bool false]) ?_ 0 _ rfl; (with_reducible repeat (first | refine blk_drewN ?_ _ | refine blk_drew ?_ | refine blk_alloc ?_ _)); exact BK315.out) Tryd.underlying41 rfl (by kernel_rfl)) rfl ?_
       exact ⟨by first | rfl | (simp [errW_none, errW_some] <;> rfl) | (simp [*, errW_none, errW_some] <;> rfl), by repeat (first | (with_reducible first | exact HB.out | apply below_alloc | apply pw_below_drewN | apply below_drew1 | refine below_set ?_ GE315.out | refine below_set ?_ GE333.out | refine below_set ?_ GE334.out) | exact HB.out)⟩
     ·
      replace c22 := Bool.eq_false_iff.mpr c22
      subst c22
      have H1 : (some (t328, t330, t331, ((bt t325 0) == 97), t326, ((t325.size : Int) == 2), false)) = some (r1, r2, r3, r4, r5, r6, r7) := by rw [if_neg (show ¬ (false = true) by decide)] at H; exact H
      clear H; have H := H1; clear H1
      simp only [Option.some.injEq, Prod.mk.injEq] at H
      obtain ⟨rfl, rfl, rfl, rfl, rfl, rfl, rfl⟩ := H
      try go_wp2_with (first | ((with_reducible refine gate_callee (f := 38) rfl ?_); refine goesL_ (some 78) rfl rfl Tryd.func38 (by kernel_rfl) rfl #[.string t319] rfl (by (try simp only [List.map_toArray, List.map_cons, List.map_nil]); first | done | rfl | (simp only [List.length_drop, List.length_take]; rfl) | (simp only [gt_iff_lt, Int.natCast_pos]; rfl)) ?_; (with_reducible refine (jalousieref01_Number.calls kj5 t319 t328 false _ A18.out).mono ?_); rintro e w' ⟨rfl, ⟨nd, rfl⟩⟩; refine ⟨_, rfl, ?_⟩; (try (rw [drewN_self wc]; generalize hq_ : World.drewN wc _ = wc; have n0_ : Aside0 (wc.heap[gb315]? = some (.cells #[.int .i64 0, .int .i64 0, .int .u64 0, .bool false, .string (⟨#[]⟩ : ByteArray), .bool false] 41 (0, 0))) := ⟨by rw [← hq_]; exact (by (with_reducible repeat (first | refine blk_drewN ?_ _ | refine blk_drew ?_ | refine blk_alloc ?_ _)); exact BK315.out)⟩; have n1_ : Aside0 (Below w.heap.size w wc) := ⟨by rw [← hq_]; exact (by repeat (first | (with_reducible first | exact HB.out | apply below_alloc | apply pw_below_drewN | apply below_drew1 | refine below_set ?_ GE315.out) | exact HB.out))⟩; clear BK315 HB hq_; have BK315 := n0_; have HB := n1_; clear n0_ n1_))) | ((with_reducible refine gate_callee (f := 51) rfl ?_); refine goesL_ (some 83) rfl rfl Tryd.func51 (by kernel_rfl) rfl #[.string t322] rfl (by (try simp only [List.map_toArray, List.map_cons, List.map_nil]); first | done | rfl | (simp only [List.length_drop, List.length_take]; rfl) | (simp only [gt_iff_lt, Int.natCast_pos]; rfl)) ?_; (with_reducible refine (jalousieref02_Parse.calls kj5 t322 t330 t331 t332 _ A19.out).mono ?_); rintro e w68 ⟨rfl, hb⟩; refine ⟨_, rfl, ?_⟩; have n0_ := Aside0.mk (blk_below (g := gb315) (o := .cells #[.int .i64 0, .int .i64 0, .int .u64 0, .bool false, .string (⟨#[]⟩ : ByteArray), .bool false] 41 (0, 0)) (by (with_reducible repeat (first | refine blk_drewN ?_ _ | refine blk_drew ?_ | refine blk_alloc ?_ _)); exact BK315.out) hb); have n1_ := Aside0.mk (below_step (by repeat (first | (with_reducible first | exact HB.out | apply below_alloc | apply pw_below_drewN | apply below_drew1 | refine below_set ?_ GE315.out) | exact HB.out)) hb); clear BK315; clear HB; have BK315 := n0_; have HB := n1_; clear n0_ n1_; (try clear hb); (try clear hb2); (try clear hk); (try clear hi)) | ((with_reducible refine gate_dst (N := 14) rfl ?_); refine box_event ?hg (N := 14) ?hd (cs := #[.int .i64 0, .int .u64 0]) (t := 37) ?hr ?_; (case hd => rfl); (case hg => rfl); (case hr => first | (go_simp; done) | (go_simp; rfl)); intro gb333 hg w69 hbox hb; have n0_ := Aside0.mk (blk_below (g := gb315) (o := .cells #[.int .i64 0, .int .i64 0, .int .u64 0, .bool false, .string (⟨#[]⟩ : ByteArray), .bool false] 41 (0, 0)) (by (with_reducible repeat (first | refine blk_drewN ?_ _ | refine blk_drew ?_ | refine blk_alloc ?_ _)); exact BK315.out) hb); have n1_ := Aside0.mk (below_step (by repeat (first | (with_reducible first | exact HB.out | apply below_alloc | apply pw_below_drewN | apply below_drew1 | refine below_set ?_ GE315.out) | exact HB.out)) hb); have n2_ := Aside0.mk (hbox); have n3_ := Aside0.mk ((by rw [hg]; exact (below_size (by repeat (first | (with_reducible first | exact HB.out | apply below_alloc | apply pw_below_drewN | apply below_drew1 | refine below_set ?_ GE315.out) | exact HB.out))) : w.heap.size ≤ gb333)); have n4_ := Aside0.mk ((by rw [hg]; exact (below_size (by repeat (first | (with_reducible first | exact HB.out | apply below_alloc | apply pw_below_drewN | apply below_drew1 | refine below_set ?_ GE315.out) | exact HB.out))) : w.heap.size ≤ gb333)); have n5_ := Aside0.mk ((by rw [hg]; exact Nat.ne_of_lt (blk_lt (g := gb315) (o := .cells #[.int .i64 0, .int .i64 0, .int .u64 0, .bool false, .string (⟨#[]⟩ : ByteArray), .bool false] 41 (0, 0)) (by (with_reducible repeat (first | refine blk_drewN ?_ _ | refine blk_drew ?_ | refine blk_alloc ?_ _)); exact BK315.out)) : gb315 ≠ gb333)); have n6_ := Aside0.mk ((by rw [hg]; exact Nat.ne_of_gt (blk_lt (g := gb315) (o := .cells #[.int .i64 0, .int .i64 0, .int .u64 0, .bool false, .string (⟨#[]⟩ : ByteArray), .bool false] 41 (0, 0)) (by (with_reducible repeat (first | refine blk_drewN ?_ _ | refine blk_drew ?_ | refine blk_alloc ?_ _)); exact BK315.out)) : gb333 ≠ gb315)); clear BK315; clear HB; have BK315 := n0_; have HB := n1_; have BK333 := n2_; have GW333 := n3_; have GE333 := n4_; have NB315_333 := n5_; have NB333_315 := n6_; clear n0_ n1_ n2_ n3_ n4_ n5_ n6_; clear hb hbox hg; have hnb70 := NB333_315.out; have hnc70 := NB315_333.out; have hcz71_0 : w69.cell? ⟨gb333, 0, none⟩ = some (.int .i64 0) := (blk_cell BK333.out 0).trans rfl; have hcz71_1 : w69.cell? ⟨gb333, 1, none⟩ = some (.int .u64 0) := (blk_cell BK333.out 1).trans rfl; have hfz71_0 := blk_frozen BK333.out 0; have hfz71_1 := blk_frozen BK333.out 1))
      have n0_ : Aside0 (((w69.setCell ⟨gb333, 0, none⟩ (.int .i64 t330)).setCell ⟨gb333, 1, none⟩ (.int .u64 t331)).heap[gb315]? = some (.cells #[.int .i64 0, .int .i64 0, .int .u64 0, .bool false, .string (⟨#[]⟩ : ByteArray), .bool false] 41 (0, 0))) := ⟨by (with_reducible repeat (first | refine blk_drewN ?_ _ | refine blk_drew ?_ | refine blk_alloc ?_ _)); refine blk_far ?_ NB315_333.out _; (with_reducible repeat (first | refine blk_drewN ?_ _ | refine blk_drew ?_ | refine blk_alloc ?_ _)); refine blk_far ?_ NB315_333.out _; (with_reducible repeat (first | refine blk_drewN ?_ _ | refine blk_drew ?_ | refine blk_alloc ?_ _)); exact BK315.out⟩
      have n1_ : Aside0 (((w69.setCell ⟨gb333, 0, none⟩ (.int .i64 t330)).setCell ⟨gb333, 1, none⟩ (.int .u64 t331)).heap[gb333]? = some (.cells #[.int .i64 t330, .int .u64 t331] 37 (0, 0))) := ⟨by (with_reducible repeat (first | refine blk_drewN ?_ _ | refine blk_drew ?_ | refine blk_alloc ?_ _)); refine blk_put (cs := #[.int .i64 t330, .int .u64 0]) ?_ 1 _ rfl; (with_reducible repeat (first | refine blk_drewN ?_ _ | refine blk_drew ?_ | refine blk_alloc ?_ _)); refine blk_put (cs := #[.int .i64 0, .int .u64 0]) ?_ 0 _ rfl; (with_reducible repeat (first | refine blk_drewN ?_ _ | refine blk_drew ?_ | refine blk_alloc ?_ _)); exact BK333.out⟩
      have n2_ : Aside0 (Below w.heap.size w ((w69.setCell ⟨gb333, 0, none⟩ (.int .i64 t330)).setCell ⟨gb333, 1, none⟩ (.int .u64 t331))) := ⟨by repeat (first | (with_reducible first | exact HB.out | apply below_alloc | apply pw_below_drewN | apply below_drew1 | refine below_set ?_ GE315.out | refine below_set ?_ GE333.out) | exact HB.out)⟩
      (try clear BK315)
      (try clear BK333)
      (try clear HB)
      generalize ((w69.setCell ⟨gb333, 0, none⟩ (.int .i64 t330)).setCell ⟨gb333, 1, none⟩ (.int .u64 t331)) = w72 at n0_ n1_ n2_ ⊢
      have BK315 := n0_; have BK333 := n1_; have HB := n2_; clear n0_ n1_ n2_
      have n0_ := Aside0.mk (blk_drew BK315.out)
      have n1_ := Aside0.mk (blk_drew BK333.out)
      have n2_ := Aside0.mk (below_drew1 HB.out)
      clear BK315; clear BK333; clear HB; have BK315 := n0_; have BK333 := n1_; have HB := n2_; clear n0_ n1_ n2_
      have p21 : 0 ≤ (0 : Int) := (by omega)
      have q21 : 0 < t325.size := (by have : (0 : Int) < (t325.size : Int) := of_decide_eq_true (by first | (with_reducible assumption) | assumption); omega)
      have hx21 : ∀ h : 0 < t325.size, ((t325[0]'h).toNat : Int) = bt t325 0 := bt_at t325 0
      clear p21
      have qi21 : (0 < (t325.size : Int)) = True := eq_true (of_decide_eq_true (by first | (with_reducible assumption) | assumption))
      replace q21 := eq_true q21
      refine start_ (n := 13) (S := fun w' => w'.cell? ⟨gb333, 0, none⟩ = some (.int .i64 t330) ∧ w'.cell? ⟨gb333, 1, none⟩ = some (.int .u64 t331)) (ds := []) (bm 13 0) (by kernel_rfl) rfl rfl ⟨(blk_cell BK333.out 0).trans rfl, (blk_cell BK333.out 1).trans rfl⟩ (fun hHeld => ?_); refine with_tabW jalousieref15_item.tab9 jalousieref15_item.bits9 (fun HT_ HW_ => ?_)
      generalize w72.drew = w73 at BK315 BK333 HB hHeld ⊢
      refine pure_ (i := 0) (N := some 86) (v := ?_) (a' := ?_) (bm 13 1) rfl rfl (any_of HT_.out (by kernel_rfl)) (fun _ _ _ h => h) (Or.inl ⟨by rfl, ?_⟩) ?_ ?_; rotate_left; (intro w'; go_simp; with_reducible rfl); rotate_left; (simp only [Act.put, List.setIfInBounds_toArray, List.set_cons_zero, List.set_cons_succ, i64_w, i32_w]; rfl)
      refine pure_ (i := 2) (N := some 88) (v := ?_) (a' := ?_) (bm 13 5) rfl rfl (any_of HT_.out (by kernel_rfl)) (fun _ _ _ h => h) (Or.inl ⟨by rfl, ?_⟩) ?_ ?_; rotate_left; (intro w'; go_simp; with_reducible rfl); rotate_left; (simp only [Act.put, List.setIfInBounds_toArray, List.set_cons_zero, List.set_cons_succ, i64_w, i32_w]; rfl)
      refine pure_ (i := 5) (N := some 91) (v := ?_) (a' := ?_) (bm 13 37) rfl rfl (any_of HT_.out (by kernel_rfl)) (fun _ _ _ h => h) (Or.inl ⟨by rfl, ?_⟩) ?_ ?_; rotate_left; (intro w'; go_simp; with_reducible rfl); rotate_left; (simp only [Act.put, List.setIfInBounds_toArray, List.set_cons_zero, List.set_cons_succ, i64_w, i32_w]; rfl)
      refine pure_ (i := 6) (N := some 92) (v := ?_) (a' := ?_) (bm 13 101) rfl rfl (any_of HT_.out (by kernel_rfl)) (fun _ _ _ h => h) (Or.inl ⟨by rfl, ?_⟩) ?_ ?_; rotate_left; (intro w'; go_simp; with_reducible rfl); rotate_left; (simp only [Act.put, List.setIfInBounds_toArray, List.set_cons_zero, List.set_cons_succ, i64_w, i32_w]; rfl)
      refine pure_ (i := 7) (N := some 93) (v := ?_) (a' := ?_) (bm 13 229) rfl rfl (any_of HT_.out (by kernel_rfl)) (fun _ _ _ h => h) (Or.inl ⟨by rfl, ?_⟩) ?_ ?_; rotate_left; (intro w'; go_simp; with_reducible rfl); rotate_left; (simp only [Act.put, List.setIfInBounds_toArray, List.set_cons_zero, List.set_cons_succ, i64_w, i32_w]; rfl)
      refine pure_ (i := 8) (N := some 94) (v := ?_) (a' := ?_) (bm 13 485) rfl rfl (any_of HT_.out (by kernel_rfl)) (fun _ _ _ h => h) (Or.inl ⟨by rfl, ?_⟩) ?_ ?_; rotate_left; (intro w'; go_simp; with_reducible rfl); rotate_left; (simp only [Act.put, List.setIfInBounds_toArray, List.set_cons_zero, List.set_cons_succ, i64_w, i32_w]; rfl)
      refine pure_ (i := 9) (N := some 95) (v := ?_) (a' := ?_) (bm 13 997) rfl rfl (any_of HT_.out (by kernel_rfl)) (fun _ _ _ h => h) (Or.inl ⟨by rfl, ?_⟩) ?_ ?_; rotate_left; (intro w'; go_simp; with_reducible rfl); rotate_left; (simp only [Act.put, List.setIfInBounds_toArray, List.set_cons_zero, List.set_cons_succ, i64_w, i32_w]; rfl)
      refine take_ (i := 1) (N := some 87) (v := ?_) (a' := ?_) (bm 13 999) rfl rfl (take_ofW HT_.out HW_.out (by kernel_rfl)) (fun _ _ _ h => h) (Or.inl ⟨by rfl, ?_⟩) hHeld ?_ ?_; rotate_left; (rintro w' ⟨s0, s1⟩; go_simp; with_reducible rfl); rotate_left; (simp only [Act.put, List.setIfInBounds_toArray, List.set_cons_zero, List.set_cons_succ, i64_w, i32_w]; rfl)
      refine take_ (i := 3) (N := some 89) (v := ?_) (a' := ?_) (bm 13 1007) rfl rfl (take_ofW HT_.out HW_.out (by kernel_rfl)) (fun _ _ _ h => h) (Or.inl ⟨by rfl, ?_⟩) hHeld ?_ ?_; rotate_left; (rintro w' ⟨s0, s1⟩; go_simp; with_reducible rfl); rotate_left; (simp only [Act.put, List.setIfInBounds_toArray, List.set_cons_zero, List.set_cons_succ, i64_w, i32_w]; rfl)
      refine pure_ (i := 4) (N := some 90) (v := ?_) (a' := ?_) (bm 13 1023) rfl rfl (any_of HT_.out (by kernel_rfl)) (fun _ _ _ h => h) (Or.inl ⟨by rfl, ?_⟩) ?_ ?_; rotate_left; (intro w'; go_simp; with_reducible rfl); rotate_left; (simp only [Act.put, List.setIfInBounds_toArray, List.set_cons_zero, List.set_cons_succ, i64_w, i32_w]; rfl)
      refine pure_ (i := 10) (N := some 96) (v := ?_) (a' := ?_) (bm 13 2047) rfl rfl (any_of HT_.out (by kernel_rfl)) (fun _ _ _ h => h) (Or.inl ⟨by rfl, ?_⟩) ?_ ?_; rotate_left; (intro w'; go_simp; with_reducible rfl); rotate_left; (simp only [Act.put, List.setIfInBounds_toArray, List.set_cons_zero, List.set_cons_succ, i64_w, i32_w]; rfl)
      refine one_ (i := 11) (N := some 16) (bm 13 4095) rfl rfl (one_of HT_.out (by kernel_rfl)) (by decide) (fun K hK => ?_)
      refine box_step ?hg (N := 16) ?hd (cs := #[.int .i64 0, .int .i64 0, .int .u64 0, .bool false, .string (⟨#[]⟩ : ByteArray), .bool false]) (t := 41) ?hr ?_; (case hd => rfl); (case hg => rfl); (case hr => first | (go_simp; done) | (go_simp; rfl))
      intro gb334 hg w74 hbox hb
      have n0_ := Aside0.mk (blk_below (g := gb315) (o := .cells #[.int .i64 0, .int .i64 0, .int .u64 0, .bool false, .string (⟨#[]⟩ : ByteArray), .bool false] 41 (0, 0)) (by (with_reducible repeat (first | refine blk_drewN ?_ _ | refine blk_drew ?_ | refine blk_alloc ?_ _)); exact BK315.out) hb)
      have n1_ := Aside0.mk (blk_below (g := gb333) (o := .cells #[.int .i64 t330, .int .u64 t331] 37 (0, 0)) (by (with_reducible repeat (first | refine blk_drewN ?_ _ | refine blk_drew ?_ | refine blk_alloc ?_ _)); exact BK333.out) hb)
      have n2_ := Aside0.mk (below_step (by repeat (first | (with_reducible first | exact HB.out | apply below_alloc | apply pw_below_drewN | apply below_drew1 | refine below_set ?_ GE315.out | refine below_set ?_ GE333.out) | exact HB.out)) hb)
      have n3_ := Aside0.mk (hbox)
      have n4_ := Aside0.mk ((by rw [hg]; exact (below_size (by repeat (first | (with_reducible first | exact HB.out | apply below_alloc | apply pw_below_drewN | apply below_drew1 | refine below_set ?_ GE315.out | refine below_set ?_ GE333.out) | exact HB.out))) : w.heap.size ≤ gb334))
      have n5_ := Aside0.mk ((by rw [hg]; exact (below_size (by repeat (first | (with_reducible first | exact HB.out | apply below_alloc | apply pw_below_drewN | apply below_drew1 | refine below_set ?_ GE315.out | refine below_set ?_ GE333.out) | exact HB.out))) : w.heap.size ≤ gb334))
      have n6_ := Aside0.mk ((by rw [hg]; exact Nat.ne_of_lt (blk_lt (g := gb315) (o := .cells #[.int .i64 0, .int .i64 0, .int .u64 0, .bool false, .string (⟨#[]⟩ : ByteArray), .bool false] 41 (0, 0)) (by (with_reducible repeat (first | refine blk_drewN ?_ _ | refine blk_drew ?_ | refine blk_alloc ?_ _)); exact BK315.out)) : gb315 ≠ gb334))
      have n7_ := Aside0.mk ((by rw [hg]; exact Nat.ne_of_gt (blk_lt (g := gb315) (o := .cells #[.int .i64 0, .int .i64 0, .int .u64 0, .bool false, .string (⟨#[]⟩ : ByteArray), .bool false] 41 (0, 0)) (by (with_reducible repeat (first | refine blk_drewN ?_ _ | refine blk_drew ?_ | refine blk_alloc ?_ _)); exact BK315.out)) : gb334 ≠ gb315))
      have n8_ := Aside0.mk ((by rw [hg]; exact Nat.ne_of_lt (blk_lt (g := gb333) (o := .cells #[.int .i64 t330, .int .u64 t331] 37 (0, 0)) (by (with_reducible repeat (first | refine blk_drewN ?_ _ | refine blk_drew ?_ | refine blk_alloc ?_ _)); exact BK333.out)) : gb333 ≠ gb334))
      have n9_ := Aside0.mk ((by rw [hg]; exact Nat.ne_of_gt (blk_lt (g := gb333) (o := .cells #[.int .i64 t330, .int .u64 t331] 37 (0, 0)) (by (with_reducible repeat (first | refine blk_drewN ?_ _ | refine blk_drew ?_ | refine blk_alloc ?_ _)); exact BK333.out)) : gb334 ≠ gb333))
      clear BK315; clear BK333; clear HB; have BK315 := n0_; have BK333 := n1_; have HB := n2_; have BK334 := n3_; have GW334 := n4_; have GE334 := n5_; have NB315_334 := n6_; have NB334_315 := n7_; have NB333_334 := n8_; have NB334_333 := n9_; clear n0_ n1_ n2_ n3_ n4_ n5_ n6_ n7_ n8_ n9_; clear hb hbox hg
      refine hK.out _ _ ⟨(blk_cell BK333.out 0).trans rfl, (blk_cell BK333.out 1).trans rfl⟩ (fun hHeld => ?_)
      clear hK K
      refine norm_ (a' := ?_) ?_ ?_
      rotate_left
      ·
       show Act.put _ (some 16) _ = _
       simp only [Act.put, List.setIfInBounds_toArray, List.set_cons_zero, List.set_cons_succ, i64_w, i32_w]
       rfl
      refine one_ (i := 12) (N := none) (bm 13 8191) rfl rfl (one_of HT_.out (by kernel_rfl)) (by decide) (fun K hK => ?_)
      have hs75 : w74.cell? ⟨gb334, 0, none⟩ = some (.int .i64 0) := (blk_cell BK334.out 0).trans rfl
      have hfs75 := blk_frozen BK334.out 0
      have hns75_0 := NB315_334.out
      have hns75_1 := NB333_334.out
      have hms75_0 := NB334_315.out
      have hms75_1 := NB334_333.out
      have hs76 : w74.cell? ⟨gb334, 1, none⟩ = some (.int .i64 0) := (blk_cell BK334.out 1).trans rfl
      have hfs76 := blk_frozen BK334.out 1
      have hns76_0 := NB315_334.out
      have hns76_1 := NB333_334.out
      have hms76_0 := NB334_315.out
      have hms76_1 := NB334_333.out
      have hs77 : w74.cell? ⟨gb334, 2, none⟩ = some (.int .u64 0) := (blk_cell BK334.out 2).trans rfl
      have hfs77 := blk_frozen BK334.out 2
      have hns77_0 := NB315_334.out
      have hns77_1 := NB333_334.out
      have hms77_0 := NB334_315.out
      have hms77_1 := NB334_333.out
      have hs78 : w74.cell? ⟨gb334, 3, none⟩ = some (.bool false) := (blk_cell BK334.out 3).trans rfl
      have hfs78 := blk_frozen BK334.out 3
      have hns78_0 := NB315_334.out
      have hns78_1 := NB333_334.out
      have hms78_0 := NB334_315.out
      have hms78_1 := NB334_333.out
      have hs79 : w74.cell? ⟨gb334, 4, none⟩ = some (.string (⟨#[]⟩ : ByteArray)) := (blk_cell BK334.out 4).trans rfl
      have hfs79 := blk_frozen BK334.out 4
      have hns79_0 := NB315_334.out
      have hns79_1 := NB333_334.out
      have hms79_0 := NB334_315.out
      have hms79_1 := NB334_333.out
      have hs80 : w74.cell? ⟨gb334, 5, none⟩ = some (.bool false) := (blk_cell BK334.out 5).trans rfl
      have hfs80 := blk_frozen BK334.out 5
      have hns80_0 := NB315_334.out
      have hns80_1 := NB333_334.out
      have hms80_0 := NB334_315.out
      have hms80_1 := NB334_333.out
      refine skip_ (w1 := ?_) (by rfl) rfl ?_ ?_
      rotate_left
      ·
       go_simp
       rfl
      refine hK.out _ _ ⟨(cell_far6 NB333_334.out (hHeld.1) _ _ _ _ _ _), (cell_far6 NB333_334.out (hHeld.2) _ _ _ _ _ _)⟩ (fun hHeld => ?_)
      clear hK K
      refine done_ (done_of HT_.out (by kernel_rfl)) ?_
      try go_wp2
      have n0_ : Aside0 (((((((w74.setCell ⟨gb334, 0, none⟩ (.int .i64 t328)).setCell ⟨gb334, 1, none⟩ (.int .i64 t330)).setCell ⟨gb334, 2, none⟩ (.int .u64 t331)).setCell ⟨gb334, 3, none⟩ (.bool ((bt t325 0) == 97))).setCell ⟨gb334, 4, none⟩ (.string t326)).setCell ⟨gb334, 5, none⟩ (.bool ((t325.size : Int) == 2))).heap[gb315]? = some (.cells #[.int .i64 0, .int .i64 0, .int .u64 0, .bool false, .string (⟨#[]⟩ : ByteArray), .bool false] 41 (0, 0))) := ⟨by (with_reducible repeat (first | refine blk_drewN ?_ _ | refine blk_drew ?_ | refine blk_alloc ?_ _)); refine blk_far ?_ NB315_334.out _; (with_reducible repeat (first | refine blk_drewN ?_ _ | refine blk_drew ?_ | refine blk_alloc ?_ _)); refine blk_far ?_ NB315_334.out _; (with_reducible repeat (first | refine blk_drewN ?_ _ | refine blk_drew ?_ | refine blk_alloc ?_ _)); refine blk_far ?_ NB315_334.out _; (with_reducible repeat (first | refine blk_drewN ?_ _ | refine blk_drew ?_ | refine blk_alloc ?_ _)); refine blk_far ?_ NB315_334.out _; (with_reducible repeat (first | refine blk_drewN ?_ _ | refine blk_drew ?_ | refine blk_alloc ?_ _)); refine blk_far ?_ NB315_334.out _; (with_reducible repeat (first | refine blk_drewN ?_ _ | refine blk_drew ?_ | refine blk_alloc ?_ _)); refine blk_far ?_ NB315_334.out _; (with_reducible repeat (first | refine blk_drewN ?_ _ | refine blk_drew ?_ | refine blk_alloc ?_ _)); exact BK315.out⟩
      have n1_ : Aside0 (((((((w74.setCell ⟨gb334, 0, none⟩ (.int .i64 t328)).setCell ⟨gb334, 1, none⟩ (.int .i64 t330)).setCell ⟨gb334, 2, none⟩ (.int .u64 t331)).setCell ⟨gb334, 3, none⟩ (.bool ((bt t325 0) == 97))).setCell ⟨gb334, 4, none⟩ (.string t326)).setCell ⟨gb334, 5, none⟩ (.bool ((t325.size : Int) == 2))).heap[gb333]? = some (.cells #[.int .i64 t330, .int .u64 t331] 37 (0, 0))) := ⟨by (with_reducible repeat (first | refine blk_drewN ?_ _ | refine blk_drew ?_ | refine blk_alloc ?_ _)); refine blk_far ?_ NB333_334.out _; (with_reducible repeat (first | refine blk_drewN ?_ _ | refine blk_drew ?_ | refine blk_alloc ?_ _)); refine blk_far ?_ NB333_334.out _; (with_reducible repeat (first | refine blk_drewN ?_ _ | refine blk_drew ?_ | refine blk_alloc ?_ _)); refine blk_far ?_ NB333_334.out _; (with_reducible repeat (first | refine blk_drewN ?_ _ | refine blk_drew ?_ | refine blk_alloc ?_ _)); refine blk_far ?_ NB333_334.out _; (with_reducible repeat (first | refine blk_drewN ?_ _ | refine blk_drew ?_ | refine blk_alloc ?_ _)); refine blk_far ?_ NB333_334.out _; (with_reducible repeat (first | refine blk_drewN ?_ _ | refine blk_drew ?_ | refine blk_alloc ?_ _)); refine blk_far ?_ NB333_334.out _; (with_reducible repeat (first | refine blk_drewN ?_ _ | refine blk_drew ?_ | refine blk_alloc ?_ _)); exact BK333.out⟩
      have n2_ : Aside0 (((((((w74.setCell ⟨gb334, 0, none⟩ (.int .i64 t328)).setCell ⟨gb334, 1, none⟩ (.int .i64 t330)).setCell ⟨gb334, 2, none⟩ (.int .u64 t331)).setCell ⟨gb334, 3, none⟩ (.bool ((bt t325 0) == 97))).setCell ⟨gb334, 4, none⟩ (.string t326)).setCell ⟨gb334, 5, none⟩ (.bool ((t325.size : Int) == 2))).heap[gb334]? = some (.cells #[.int .i64 t328, .int .i64 t330, .int .u64 t331, .bool ((bt t325 0) == 97), .string t326, .bool ((t325.size : Int) == 2)] 41 (0, 0))) := ⟨by (with_reducible repeat (first | refine blk_drewN ?_ _ | refine blk_drew ?_ | refine blk_alloc ?_ _)); refine blk_put (cs := #[.int .i64 t328, .int .i64 t330, .int .u64 t331, .bool ((bt t325 0) == 97), .string t326, .bool false]) ?_ 5 _ rfl; (with_reducible repeat (first | refine blk_drewN ?_ _ | refine blk_drew ?_ | refine blk_alloc ?_ _)); refine blk_put (cs := #[.int .i64 t328, .int .i64 t330, .int .u64 t331, .bool ((bt t325 0) == 97), .string (⟨#[]⟩ : ByteArray), .bool false]) ?_ 4 _ rfl; (with_reducible repeat (first | refine blk_drewN ?_ _ | refine blk_drew ?_ | refine blk_alloc ?_ _)); refine blk_put (cs := #[.int .i64 t328, .int .i64 t330, .int .u64 t331, .bool false, .string (⟨#[]⟩ : ByteArray), .bool false]) ?_ 3 _ rfl; (with_reducible repeat (first | refine blk_drewN ?_ _ | refine blk_drew ?_ | refine blk_alloc ?_ _)); refine blk_put (cs := #[.int .i64 t328, .int .i64 t330, .int .u64 0, .bool false, .string (⟨#[]⟩ : ByteArray), .bool false]) ?_ 2 _ rfl; (with_reducible repeat (first | refine blk_drewN ?_ _ | refine blk_drew ?_ | refine blk_alloc ?_ _)); refine blk_put (cs := #[.int .i64 t328, .int .i64 0, .int .u64 0, .bool false, .string (⟨#[]⟩ : ByteArray), .bool false]) ?_ 1 _ rfl; (with_reducible repeat (first | refine blk_drewN ?_ _ | refine blk_drew ?_ | refine blk_alloc ?_ _)); refine blk_put (cs := #[.int .i64 0, .int .i64 0, .int .u64 0, .bool false, .string (⟨#[]⟩ : ByteArray), .bool false]) ?_ 0 _ rfl; (with_reducible repeat (first | refine blk_drewN ?_ _ | refine blk_drew ?_ | refine blk_alloc ?_ _)); exact BK334.out⟩
      have n3_ : Aside0 (Below w.heap.size w ((((((w74.setCell ⟨gb334, 0, none⟩ (.int .i64 t328)).setCell ⟨gb334, 1, none⟩ (.int .i64 t330)).setCell ⟨gb334, 2, none⟩ (.int .u64 t331)).setCell ⟨gb334, 3, none⟩ (.bool ((bt t325 0) == 97))).setCell ⟨gb334, 4, none⟩ (.string t326)).setCell ⟨gb334, 5, none⟩ (.bool ((t325.size : Int) == 2)))) := ⟨by repeat (first | (with_reducible first | exact HB.out | apply below_alloc | apply pw_below_drewN | apply below_drew1 | refine below_set ?_ GE315.out | refine below_set ?_ GE333.out | refine below_set ?_ GE334.out) | exact HB.out)⟩
      (try clear BK315)
      (try clear BK333)
      (try clear BK334)
      (try clear HB)
      generalize ((((((w74.setCell ⟨gb334, 0, none⟩ (.int .i64 t328)).setCell ⟨gb334, 1, none⟩ (.int .i64 t330)).setCell ⟨gb334, 2, none⟩ (.int .u64 t331)).setCell ⟨gb334, 3, none⟩ (.bool ((bt t325 0) == 97))).setCell ⟨gb334, 4, none⟩ (.string t326)).setCell ⟨gb334, 5, none⟩ (.bool ((t325.size : Int) == 2))) = w81 at n0_ n1_ n2_ n3_ ⊢
      have BK315 := n0_; have BK333 := n1_; have BK334 := n2_; have HB := n3_; clear n0_ n1_ n2_ n3_
      have n0_ := Aside0.mk (blk_drew BK315.out)
      have n1_ := Aside0.mk (blk_drew BK333.out)
      have n2_ := Aside0.mk (blk_drew BK334.out)
      have n3_ := Aside0.mk (below_drew1 HB.out)
      clear BK315; clear BK333; clear BK334; clear HB; have BK315 := n0_; have BK333 := n1_; have BK334 := n2_; have HB := n3_; clear n0_ n1_ n2_ n3_
      refine start_ (n := 12) (S := fun w' => w'.cell? ⟨gb334, 0, none⟩ = some (.int .i64 t328) ∧ w'.cell? ⟨gb334, 1, none⟩ = some (.int .i64 t330) ∧ w'.cell? ⟨gb334, 2, none⟩ = some (.int .u64 t331) ∧ w'.cell? ⟨gb334, 3, none⟩ = some (.bool ((bt t325 0) == 97)) ∧ w'.cell? ⟨gb334, 4, none⟩ = some (.string t326) ∧ w'.cell? ⟨gb334, 5, none⟩ = some (.bool ((t325.size : Int) == 2))) (ds := []) (bm 12 0) (by kernel_rfl) rfl rfl ⟨(blk_cell BK334.out 0).trans rfl, (blk_cell BK334.out 1).trans rfl, (blk_cell BK334.out 2).trans rfl, (blk_cell BK334.out 3).trans rfl, (blk_cell BK334.out 4).trans rfl, (blk_cell BK334.out 5).trans rfl⟩ (fun hHeld => ?_); refine with_tabW jalousieref15_item.tab10 jalousieref15_item.bits10 (fun HT_ HW_ => ?_)
      generalize w81.drew = w82 at BK315 BK333 BK334 HB hHeld ⊢
      refine pure_ (i := 1) (N := some 98) (v := ?_) (a' := ?_) (bm 12 2) rfl rfl (any_of HT_.out (by kernel_rfl)) (fun _ _ _ h => h) (Or.inl ⟨by rfl, ?_⟩) ?_ ?_; rotate_left; (intro w'; go_simp; with_reducible rfl); rotate_left; (simp only [Act.put, List.setIfInBounds_toArray, List.set_cons_zero, List.set_cons_succ, i64_w, i32_w]; rfl)
      refine pure_ (i := 2) (N := some 99) (v := ?_) (a' := ?_) (bm 12 6) rfl rfl (any_of HT_.out (by kernel_rfl)) (fun _ _ _ h => h) (Or.inl ⟨by rfl, ?_⟩) ?_ ?_; rotate_left; (intro w'; go_simp; with_reducible rfl); rotate_left; (simp only [Act.put, List.setIfInBounds_toArray, List.set_cons_zero, List.set_cons_succ, i64_w, i32_w]; rfl)
      refine pure_ (i := 3) (N := some 100) (v := undef) (a' := ?_) (bm 12 14) rfl rfl (any_of HT_.out (by kernel_rfl)) (fun _ _ _ h => h) (Or.inr ⟨by rfl, rfl⟩) ?_ ?_
      rotate_left
      ·
       simp only [Act.put, List.setIfInBounds_toArray, List.set_cons_zero, List.set_cons_succ, i64_w, i32_w]
       rfl
      refine pure_ (i := 4) (N := some 101) (v := ?_) (a' := ?_) (bm 12 30) rfl rfl (any_of HT_.out (by kernel_rfl)) (fun _ _ _ h => h) (Or.inl ⟨by rfl, ?_⟩) ?_ ?_; rotate_left; (intro w'; go_simp; with_reducible rfl); rotate_left; (simp only [Act.put, List.setIfInBounds_toArray, List.set_cons_zero, List.set_cons_succ, i64_w, i32_w]; rfl)
      refine pure_ (i := 5) (N := some 102) (v := ?_) (a' := ?_) (bm 12 62) rfl rfl (any_of HT_.out (by kernel_rfl)) (fun _ _ _ h => h) (Or.inl ⟨by rfl, ?_⟩) ?_ ?_; rotate_left; (intro w'; go_simp; with_reducible rfl); rotate_left; (simp only [Act.put, List.setIfInBounds_toArray, List.set_cons_zero, List.set_cons_succ, i64_w, i32_w]; rfl)
      refine pure_ (i := 6) (N := some 103) (v := undef) (a' := ?_) (bm 12 126) rfl rfl (any_of HT_.out (by kernel_rfl)) (fun _ _ _ h => h) (Or.inr ⟨by rfl, rfl⟩) ?_ ?_
      rotate_left
      ·
       simp only [Act.put, List.setIfInBounds_toArray, List.set_cons_zero, List.set_cons_succ, i64_w, i32_w]
       rfl
      refine pure_ (i := 7) (N := some 104) (v := undef) (a' := ?_) (bm 12 254) rfl rfl (any_of HT_.out (by kernel_rfl)) (fun _ _ _ h => h) (Or.inr ⟨by rfl, rfl⟩) ?_ ?_
      rotate_left
      ·
       simp only [Act.put, List.setIfInBounds_toArray, List.set_cons_zero, List.set_cons_succ, i64_w, i32_w]
       rfl
      refine pure_ (i := 8) (N := some 105) (v := undef) (a' := ?_) (bm 12 510) rfl rfl (any_of HT_.out (by kernel_rfl)) (fun _ _ _ h => h) (Or.inr ⟨by rfl, rfl⟩) ?_ ?_
      rotate_left
      ·
       simp only [Act.put, List.setIfInBounds_toArray, List.set_cons_zero, List.set_cons_succ, i64_w, i32_w]
       rfl
      refine pure_ (i := 9) (N := some 106) (v := ?_) (a' := ?_) (bm 12 1022) rfl rfl (any_of HT_.out (by kernel_rfl)) (fun _ _ _ h => h) (Or.inl ⟨by rfl, ?_⟩) ?_ ?_; rotate_left; (intro w'; go_simp; with_reducible rfl); rotate_left; (simp only [Act.put, List.setIfInBounds_toArray, List.set_cons_zero, List.set_cons_succ, i64_w, i32_w]; rfl)
      refine take_ (i := 0) (N := some 97) (v := ?_) (a' := ?_) (bm 12 1023) rfl rfl (take_ofW HT_.out HW_.out (by kernel_rfl)) (fun _ _ _ h => h) (Or.inl ⟨by rfl, ?_⟩) hHeld ?_ ?_; rotate_left; (rintro w' ⟨s0, s1, s2, s3, s4, s5⟩; go_simp; with_reducible rfl); rotate_left; (simp only [Act.put, List.setIfInBounds_toArray, List.set_cons_zero, List.set_cons_succ, i64_w, i32_w]; rfl)
      refine one_ (i := 10) (N := none) (bm 12 2047) rfl rfl (one_of HT_.out (by kernel_rfl)) (by decide) (fun K hK => ?_)
      have hs83 : w82.cell? ⟨gb315, 0, none⟩ = some (.int .i64 0) := (blk_cell BK315.out 0).trans rfl
      have hfs83 := blk_frozen BK315.out 0
      have hns83_1 := NB333_315.out
      have hns83_2 := NB334_315.out
      have hms83_1 := NB315_333.out
      have hms83_2 := NB315_334.out
      have hs84 : w82.cell? ⟨gb315, 1, none⟩ = some (.int .i64 0) := (blk_cell BK315.out 1).trans rfl
      have hfs84 := blk_frozen BK315.out 1
      have hns84_1 := NB333_315.out
      have hns84_2 := NB334_315.out
      have hms84_1 := NB315_333.out
      have hms84_2 := NB315_334.out
      have hs85 : w82.cell? ⟨gb315, 2, none⟩ = some (.int .u64 0) := (blk_cell BK315.out 2).trans rfl
      have hfs85 := blk_frozen BK315.out 2
      have hns85_1 := NB333_315.out
      have hns85_2 := NB334_315.out
      have hms85_1 := NB315_333.out
      have hms85_2 := NB315_334.out
      have hs86 : w82.cell? ⟨gb315, 3, none⟩ = some (.bool false) := (blk_cell BK315.out 3).trans rfl
      have hfs86 := blk_frozen BK315.out 3
      have hns86_1 := NB333_315.out
      have hns86_2 := NB334_315.out
      have hms86_1 := NB315_333.out
      have hms86_2 := NB315_334.out
      have hs87 : w82.cell? ⟨gb315, 4, none⟩ = some (.string (⟨#[]⟩ : ByteArray)) := (blk_cell BK315.out 4).trans rfl
      have hfs87 := blk_frozen BK315.out 4
      have hns87_1 := NB333_315.out
      have hns87_2 := NB334_315.out
      have hms87_1 := NB315_333.out
      have hms87_2 := NB315_334.out
      have hs88 : w82.cell? ⟨gb315, 5, none⟩ = some (.bool false) := (blk_cell BK315.out 5).trans rfl
      have hfs88 := blk_frozen BK315.out 5
      have hns88_1 := NB333_315.out
      have hns88_2 := NB334_315.out
      have hms88_1 := NB315_333.out
      have hms88_2 := NB315_334.out
      refine skip_ (w1 := ?_) (by rfl) rfl ?_ ?_
      rotate_left
      ·
       go_simp
       rfl
      refine hK.out _ _ ⟨(cell_far6 NB334_315.out (hHeld.1) _ _ _ _ _ _), (cell_far6 NB334_315.out (hHeld.2.1) _ _ _ _ _ _), (cell_far6 NB334_315.out (hHeld.2.2.1) _ _ _ _ _ _), (cell_far6 NB334_315.out (hHeld.2.2.2.1) _ _ _ _ _ _), (cell_far6 NB334_315.out (hHeld.2.2.2.2.1) _ _ _ _ _ _), (cell_far6 NB334_315.out (hHeld.2.2.2.2.2) _ _ _ _ _ _)⟩ (fun hHeld => ?_)
      clear hK K
      refine pure_ (i := 11) (N := some 3) (v := ?_) (a' := ?_) (bm 12 4095) rfl rfl (any_of HT_.out (by kernel_rfl)) (fun _ _ _ h => h) (Or.inl ⟨by rfl, ?_⟩) ?_ ?_; rotate_left; (intro w'; go_simp; with_reducible rfl); rotate_left; (simp only [Act.put, List.setIfInBounds_toArray, List.set_cons_zero, List.set_cons_succ, i64_w, i32_w]; rfl)
      refine done_ (done_of HT_.out (by kernel_rfl)) ?_
      try go_wp2
      refine bodyPost_ret (results_ct rfl _ _ gb315 41 #[.int .i64 t328, .int .i64 t330, .int .u64 t331, .bool ((bt t325 0) == 97), .string t326, .bool ((t325.size : Int) == 2)] (0, 0) _ rfl (by (with_reducible repeat (first | refine blk_drewN ?_ _ | refine blk_drew ?_ | refine blk_alloc ?_ _)); refine blk_put (cs := #[.int .i64 t328, .int .i64 t330, .int .u64 t331, .bool ((bt t325 0) == 97), .string t326, .bool false]) ?_ 5 _ rfl; (with_reducible repeat (first | refine blk_drewN ?_ _ | refine blk_drew ?_ | refine blk_alloc ?_ _)); refine blk_put (cs := #[.int .i64 t328, .int .i64 t330, .int .u64 t331, .bool ((bt t325 0) == 97), .string (⟨#[]⟩ : ByteArray), .bool false]) ?_ 4 _ rfl; (with_reducible repeat (first | refine blk_drewN ?_ _ | refine blk_drew ?_ | refine blk_alloc ?_ _)); refine blk_put (cs := #[.int .i64 t328, .int .i64 t330, .int .u64 t331, .bool false, .string (⟨#[]⟩ : ByteArray), .bool false]) ?_ 3 _ rfl; (with_reducible repeat (first | refine blk_drewN ?_ _ | refine blk_drew ?_ | refine blk_alloc ?_ _)); refine blk_put (cs := #[.int .i64 t328, .int .i64 t330, .int .u64 0, .bool false, .string (⟨#[]⟩ : ByteArray), .bool false]) ?_ 2 _ rfl; (with_reducible repeat (first | refine blk_drewN ?_ _ | refine blk_drew ?_ | refine blk_alloc ?_ _)); refine blk_put (cs := #[.int .i64 t328, .int .i64 0, .int .u64 0, .bool false, .string (⟨#[]⟩ : ByteArray), .bool false]) ?_ 1 _ rfl; (with_reducible repeat (first | refine blk_drewN ?_ _ | refine blk_drew ?_ | refine blk_alloc ?_ _)); refine blk_put (cs := #[.int .i64 0, .int .i64 0, .int .u64 0, .bool false, .string (⟨#[]⟩ : ByteArray), .bool false]) ?_ 0 _ rfl; (with_reducible repeat (first | refine blk_drewN ?_ _ | refine blk_drew ?_ | refine blk_alloc ?_ _)); exact BK315.out) Tryd.underlying41 rfl (by kernel_rfl)) rfl ?_
      exact ⟨by first | rfl | (simp [errW_none, errW_some] <;> rfl) | (simp [*, errW_none, errW_some] <;> rfl), by repeat (first | (with_reducible first | exact HB.out | apply below_alloc | apply pw_below_drewN | apply below_drew1 | refine below_set ?_ GE315.out | refine below_set ?_ GE333.out | refine below_set ?_ GE334.out) | exact HB.out)⟩
    ·
     rw [if_neg c20] at H
     exact absurd H (by simp)
   subst c16
   have H1 : (some (0, 0, 0, false, (⟨#[]⟩ : ByteArray), false, false)) = some (r1, r2, r3, r4, r5, r6, r7) := by rw [if_pos rfl] at H; exact H
   clear H; have H := H1; clear H1
   simp only [Option.some.injEq, Prod.mk.injEq] at H
   obtain ⟨rfl, rfl, rfl, rfl, rfl, rfl, rfl⟩ := H
   have hcz17_0 : wc.cell? ⟨gb315, 0, none⟩ = some (.int .i64 0) := (blk_cell BK315.out 0).trans rfl
   have hcz17_1 : wc.cell? ⟨gb315, 1, none⟩ = some (.int .i64 0) := (blk_cell BK315.out 1).trans rfl
   have hcz17_2 : wc.cell? ⟨gb315, 2, none⟩ = some (.int .u64 0) := (blk_cell BK315.out 2).trans rfl
   have hcz17_3 : wc.cell? ⟨gb315, 3, none⟩ = some (.bool false) := (blk_cell BK315.out 3).trans rfl
   have hcz17_4 : wc.cell? ⟨gb315, 4, none⟩ = some (.string (⟨#[]⟩ : ByteArray)) := (blk_cell BK315.out 4).trans rfl
   have hcz17_5 : wc.cell? ⟨gb315, 5, none⟩ = some (.bool false) := (blk_cell BK315.out 5).trans rfl
   have hfz17_0 := blk_frozen BK315.out 0
   have hfz17_1 := blk_frozen BK315.out 1
   have hfz17_2 := blk_frozen BK315.out 2
   have hfz17_3 := blk_frozen BK315.out 3
   have hfz17_4 := blk_frozen BK315.out 4
   have hfz17_5 := blk_frozen BK315.out 5
   go_wp2
   refine bodyPost_ret (results_ct rfl _ _ gb315 41 #[.int .i64 0, .int .i64 0, .int .u64 0, .bool false, .string (⟨#[]⟩ : ByteArray), .bool false] (0, 0) _ rfl (by (with_reducible repeat (first | refine blk_drewN ?_ _ | refine blk_drew ?_ | refine blk_alloc ?_ _)); refine blk_put (cs := #[.int .i64 0, .int .i64 0, .int .u64 0, .bool false, .string (⟨#[]⟩ : ByteArray), .bool false]) ?_ 5 _ rfl; (with_reducible repeat (first | refine blk_drewN ?_ _ | refine blk_drew ?_ | refine blk_alloc ?_ _)); refine blk_put (cs := #[.int .i64 0, .int .i64 0, .int .u64 0, .bool false, .string (⟨#[]⟩ : ByteArray), .bool false]) ?_ 4 _ rfl; (with_reducible repeat (first | refine blk_drewN ?_ _ | refine blk_drew ?_ | refine blk_alloc ?_ _)); refine blk_put (cs := #[.int .i64 0, .int .i64 0, .int .u64 0, .bool false, .string (⟨#[]⟩ : ByteArray), .bool false]) ?_ 3 _ rfl; (with_reducible repeat (first | refine blk_drewN ?_ _ | refine blk_drew ?_ | refine blk_alloc ?_ _)); refine blk_put (cs := #[.int .i64 0, .int .i64 0, .int .u64 0, .bool false, .string (⟨#[]⟩ : ByteArray), .bool false]) ?_ 2 _ rfl; (with_reducible repeat (first | refine blk_drewN ?_ _ | refine blk_drew ?_ | refine blk_alloc ?_ _)); refine blk_put (cs := #[.int .i64 0, .int .i64 0, .int .u64 0, .bool false, .string (⟨#[]⟩ : ByteArray), .bool false]) ?_ 1 _ rfl; (with_reducible repeat (first | refine blk_drewN ?_ _ | refine blk_drew ?_ | refine blk_alloc ?_ _)); refine blk_put (cs := #[.int .i64 0, .int .i64 0, .int .u64 0, .bool false, .string (⟨#[]⟩ : ByteArray), .bool false]) ?_ 0 _ rfl; (with_reducible repeat (first | refine blk_drewN ?_ _ | refine blk_drew ?_ | refine blk_alloc ?_ _)); exact BK315.out) Tryd.underlying41 rfl (by kernel_rfl)) rfl ?_
   exact ⟨by first | rfl | (simp [errW_none, errW_some] <;> rfl) | (simp [*, errW_none, errW_some] <;> rfl), by repeat (first | (with_reducible first | exact HB.out | apply below_alloc | apply pw_below_drewN | apply below_drew1 | refine below_set ?_ GE315.out) | exact HB.out)⟩
end Go.Proofs.YthppicgolkpbaaaDoor.P

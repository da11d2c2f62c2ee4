-- printed by this session's turned copy of the kit's print program (wip/gen/patch.py); Lean checks it
import Derived.Test.YthaimkdnddmokaaDoorWireAnswersGHTabs
import Derived.Test.YthaimkdnddmokaaDoorWireAnswersPxEq26
import Derived.Test.YthaimkdnddmokaaDoorWireAnswersHWRefCut
namespace Go.Proofs.YthaimkdnddmokaaDoor.P
open Go.RowKit Go.Proofs.YthaimkdnddmokaaDoorW.PrintWords Go.Proofs.YthaimkdnddmokaaDoorW.PrintLast Go.Proofs.YthaimkdnddmokaaDoorW.PrintMore
attribute [local go_sem] max2_int min2_int max_two min_two max_three min_three max_four min_four   -- for this text's walks alone
set_option linter.unusedVariables false
set_option linter.unusedSimpArgs false
attribute [local go_sem high] eqA26
/-! ### jalousieref21_Word: function 23 -/
/-! ### jalousieref21_Names: function 31 -/
/-! ### jalousieref21_File: function 48 -/
/-! ### jalousieref21_Same: function 11 -/
/-! ### jalousieref21_Code: function 17 -/
def jalousieref21_Code.f (a0 : Int) : Option (ByteArray) := (some (([(⟨#[111, 107]⟩ : ByteArray), (⟨#[110, 111, 116, 104, 105, 110, 103]⟩ : ByteArray), (⟨#[116, 111, 111, 45, 109, 117, 99, 104]⟩ : ByteArray), (⟨#[109, 97, 108, 102, 111, 114, 109, 101, 100]⟩ : ByteArray), (⟨#[116, 111, 111, 45, 108, 111, 110, 103]⟩ : ByteArray), (⟨#[98, 97, 100, 45, 108, 97, 98, 101, 108]⟩ : ByteArray), (⟨#[110, 111, 116, 45, 102, 111, 117, 110, 100]⟩ : ByteArray), (⟨#[101, 120, 105, 115, 116, 115]⟩ : ByteArray), (⟨#[109, 105, 115, 97, 112, 112, 108, 105, 101, 100]⟩ : ByteArray), (⟨#[102, 111, 114, 98, 105, 100, 100, 101, 110]⟩ : ByteArray), (⟨#[99, 111, 110, 102, 108, 105, 99, 116]⟩ : ByteArray), (⟨#[113, 117, 111, 116, 97]⟩ : ByteArray), (⟨#[100, 101, 110, 105, 101, 100]⟩ : ByteArray), (⟨#[97, 117, 100, 105, 116, 45, 102, 117, 108, 108]⟩ : ByteArray), (⟨#[110, 111, 45, 112, 111, 108, 105, 99, 121]⟩ : ByteArray)] : List ByteArray) : List ByteArray)).bind fun y212 => (if a0 < 0 then (some (⟨#[]⟩ : ByteArray)) else (if a0 > 14 then (some (⟨#[]⟩ : ByteArray)) else (if 0 ≤ a0 then (if a0 < (y212.length : Int) then (some (rdOf ByteArray.empty y212 a0)) else (none)) else (none))))
set_option maxHeartbeats 8000000 in
set_option maxRecDepth 100000 in
theorem jalousieref21_Code.calls (a0 : Int) (r : ByteArray) (w : World) (h : jalousieref21_Code.f a0 = some r) :
    Calls Tryd.prog 17 #[.int .i64 a0] w fun e w' => e = .returned (.string r) ∧ Below w.heap.size w w' := by
  have HB := Aside0.mk (Below.refl w.heap.size w)
  have H : ((some (([(⟨#[111, 107]⟩ : ByteArray), (⟨#[110, 111, 116, 104, 105, 110, 103]⟩ : ByteArray), (⟨#[116, 111, 111, 45, 109, 117, 99, 104]⟩ : ByteArray), (⟨#[109, 97, 108, 102, 111, 114, 109, 101, 100]⟩ : ByteArray), (⟨#[116, 111, 111, 45, 108, 111, 110, 103]⟩ : ByteArray), (⟨#[98, 97, 100, 45, 108, 97, 98, 101, 108]⟩ : ByteArray), (⟨#[110, 111, 116, 45, 102, 111, 117, 110, 100]⟩ : ByteArray), (⟨#[101, 120, 105, 115, 116, 115]⟩ : ByteArray), (⟨#[109, 105, 115, 97, 112, 112, 108, 105, 101, 100]⟩ : ByteArray), (⟨#[102, 111, 114, 98, 105, 100, 100, 101, 110]⟩ : ByteArray), (⟨#[99, 111, 110, 102, 108, 105, 99, 116]⟩ : ByteArray), (⟨#[113, 117, 111, 116, 97]⟩ : ByteArray), (⟨#[100, 101, 110, 105, 101, 100]⟩ : ByteArray), (⟨#[97, 117, 100, 105, 116, 45, 102, 117, 108, 108]⟩ : ByteArray), (⟨#[110, 111, 45, 112, 111, 108, 105, 99, 121]⟩ : ByteArray)] : List ByteArray) : List ByteArray)).bind fun y212 => (if a0 < 0 then (some (⟨#[]⟩ : ByteArray)) else (if a0 > 14 then (some (⟨#[]⟩ : ByteArray)) else (if 0 ≤ a0 then (if a0 < (y212.length : Int) then (some (rdOf ByteArray.empty y212 a0)) else (none)) else (none))))) = some r := h
  clear h
  obtain ⟨y212, hy212⟩ : ∃ y_ : List ByteArray, y_ = (([(⟨#[111, 107]⟩ : ByteArray), (⟨#[110, 111, 116, 104, 105, 110, 103]⟩ : ByteArray), (⟨#[116, 111, 111, 45, 109, 117, 99, 104]⟩ : ByteArray), (⟨#[109, 97, 108, 102, 111, 114, 109, 101, 100]⟩ : ByteArray), (⟨#[116, 111, 111, 45, 108, 111, 110, 103]⟩ : ByteArray), (⟨#[98, 97, 100, 45, 108, 97, 98, 101, 108]⟩ : ByteArray), (⟨#[110, 111, 116, 45, 102, 111, 117, 110, 100]⟩ : ByteArray), (⟨#[101, 120, 105, 115, 116, 115]⟩ : ByteArray), (⟨#[109, 105, 115, 97, 112, 112, 108, 105, 101, 100]⟩ : ByteArray), (⟨#[102, 111, 114, 98, 105, 100, 100, 101, 110]⟩ : ByteArray), (⟨#[99, 111, 110, 102, 108, 105, 99, 116]⟩ : ByteArray), (⟨#[113, 117, 111, 116, 97]⟩ : ByteArray), (⟨#[100, 101, 110, 105, 101, 100]⟩ : ByteArray), (⟨#[97, 117, 100, 105, 116, 45, 102, 117, 108, 108]⟩ : ByteArray), (⟨#[110, 111, 45, 112, 111, 108, 105, 99, 121]⟩ : ByteArray)] : List ByteArray)) := ⟨_, rfl⟩
  replace H : (if a0 < 0 then (some (⟨#[]⟩ : ByteArray)) else (if a0 > 14 then (some (⟨#[]⟩ : ByteArray)) else (if 0 ≤ a0 then (if a0 < (y212.length : Int) then (some (rdOf ByteArray.empty y212 a0)) else (none)) else (none)))) = some r := by first | (rw [hy212]; with_reducible exact H) | (have H2_ := (Option.bind_some _ _).symm.trans H; rw [hy212]; with_reducible exact H2_) | (have H2_ := (Option.bind_some _ _).symm.trans H; with_reducible exact H2_) | with_reducible exact H | (rw [hy212]; exact H) | exact H
  have Ny212 := Aside0.mk hy212
  clear hy212
  by_cases c2 : a0 < 0
  · rw [if_pos c2] at H
    have c2b0 : decide (a0 < 0) = true := decide_eq_true c2
    clear c2
    obtain rfl := Option.some.inj H
    go_enter Tryd.func17, Tryd.ntmps17
    go_wp2_with (first | ((with_reducible refine gate_dst (N := 4) rfl ?_); refine Kd.R_lit Kd.string _ 9 ?hg (N := 4) ?hd (xs := ([(⟨#[111, 107]⟩ : ByteArray), (⟨#[110, 111, 116, 104, 105, 110, 103]⟩ : ByteArray), (⟨#[116, 111, 111, 45, 109, 117, 99, 104]⟩ : ByteArray), (⟨#[109, 97, 108, 102, 111, 114, 109, 101, 100]⟩ : ByteArray), (⟨#[116, 111, 111, 45, 108, 111, 110, 103]⟩ : ByteArray), (⟨#[98, 97, 100, 45, 108, 97, 98, 101, 108]⟩ : ByteArray), (⟨#[110, 111, 116, 45, 102, 111, 117, 110, 100]⟩ : ByteArray), (⟨#[101, 120, 105, 115, 116, 115]⟩ : ByteArray), (⟨#[109, 105, 115, 97, 112, 112, 108, 105, 101, 100]⟩ : ByteArray), (⟨#[102, 111, 114, 98, 105, 100, 100, 101, 110]⟩ : ByteArray), (⟨#[99, 111, 110, 102, 108, 105, 99, 116]⟩ : ByteArray), (⟨#[113, 117, 111, 116, 97]⟩ : ByteArray), (⟨#[100, 101, 110, 105, 101, 100]⟩ : ByteArray), (⟨#[97, 117, 100, 105, 116, 45, 102, 117, 108, 108]⟩ : ByteArray), (⟨#[110, 111, 45, 112, 111, 108, 105, 99, 121]⟩ : ByteArray)] : List ByteArray)) (inner := [.string (⟨#[111, 107]⟩ : ByteArray), .string (⟨#[110, 111, 116, 104, 105, 110, 103]⟩ : ByteArray), .string (⟨#[116, 111, 111, 45, 109, 117, 99, 104]⟩ : ByteArray), .string (⟨#[109, 97, 108, 102, 111, 114, 109, 101, 100]⟩ : ByteArray), .string (⟨#[116, 111, 111, 45, 108, 111, 110, 103]⟩ : ByteArray), .string (⟨#[98, 97, 100, 45, 108, 97, 98, 101, 108]⟩ : ByteArray), .string (⟨#[110, 111, 116, 45, 102, 111, 117, 110, 100]⟩ : ByteArray), .string (⟨#[101, 120, 105, 115, 116, 115]⟩ : ByteArray), .string (⟨#[109, 105, 115, 97, 112, 112, 108, 105, 101, 100]⟩ : ByteArray), .string (⟨#[102, 111, 114, 98, 105, 100, 100, 101, 110]⟩ : ByteArray), .string (⟨#[99, 111, 110, 102, 108, 105, 99, 116]⟩ : ByteArray), .string (⟨#[113, 117, 111, 116, 97]⟩ : ByteArray), .string (⟨#[100, 101, 110, 105, 101, 100]⟩ : ByteArray), .string (⟨#[97, 117, 100, 105, 116, 45, 102, 117, 108, 108]⟩ : ByteArray), .string (⟨#[110, 111, 45, 112, 111, 108, 105, 99, 121]⟩ : ByteArray)]) (ok := fun _ => True) (okp := fun _ => True) ?hr ?hp (fun _ hk => hk) trivial (Below.refl _ _) (Nat.le_refl _) (by simp) ?_; (case hd => rfl); (case hg => rfl); (case hr => first | (go_simp; done) | (go_simp; rfl)); (case hp => exact (Reps.one (show Kd.M Kd.string _ _ _ (⟨#[111, 107]⟩ : ByteArray) [.string (⟨#[111, 107]⟩ : ByteArray)] from rfl) (Reps.one (show Kd.M Kd.string _ _ _ (⟨#[110, 111, 116, 104, 105, 110, 103]⟩ : ByteArray) [.string (⟨#[110, 111, 116, 104, 105, 110, 103]⟩ : ByteArray)] from rfl) (Reps.one (show Kd.M Kd.string _ _ _ (⟨#[116, 111, 111, 45, 109, 117, 99, 104]⟩ : ByteArray) [.string (⟨#[116, 111, 111, 45, 109, 117, 99, 104]⟩ : ByteArray)] from rfl) (Reps.one (show Kd.M Kd.string _ _ _ (⟨#[109, 97, 108, 102, 111, 114, 109, 101, 100]⟩ : ByteArray) [.string (⟨#[109, 97, 108, 102, 111, 114, 109, 101, 100]⟩ : ByteArray)] from rfl) (Reps.one (show Kd.M Kd.string _ _ _ (⟨#[116, 111, 111, 45, 108, 111, 110, 103]⟩ : ByteArray) [.string (⟨#[116, 111, 111, 45, 108, 111, 110, 103]⟩ : ByteArray)] from rfl) (Reps.one (show Kd.M Kd.string _ _ _ (⟨#[98, 97, 100, 45, 108, 97, 98, 101, 108]⟩ : ByteArray) [.string (⟨#[98, 97, 100, 45, 108, 97, 98, 101, 108]⟩ : ByteArray)] from rfl) (Reps.one (show Kd.M Kd.string _ _ _ (⟨#[110, 111, 116, 45, 102, 111, 117, 110, 100]⟩ : ByteArray) [.string (⟨#[110, 111, 116, 45, 102, 111, 117, 110, 100]⟩ : ByteArray)] from rfl) (Reps.one (show Kd.M Kd.string _ _ _ (⟨#[101, 120, 105, 115, 116, 115]⟩ : ByteArray) [.string (⟨#[101, 120, 105, 115, 116, 115]⟩ : ByteArray)] from rfl) (Reps.one (show Kd.M Kd.string _ _ _ (⟨#[109, 105, 115, 97, 112, 112, 108, 105, 101, 100]⟩ : ByteArray) [.string (⟨#[109, 105, 115, 97, 112, 112, 108, 105, 101, 100]⟩ : ByteArray)] from rfl) (Reps.one (show Kd.M Kd.string _ _ _ (⟨#[102, 111, 114, 98, 105, 100, 100, 101, 110]⟩ : ByteArray) [.string (⟨#[102, 111, 114, 98, 105, 100, 100, 101, 110]⟩ : ByteArray)] from rfl) (Reps.one (show Kd.M Kd.string _ _ _ (⟨#[99, 111, 110, 102, 108, 105, 99, 116]⟩ : ByteArray) [.string (⟨#[99, 111, 110, 102, 108, 105, 99, 116]⟩ : ByteArray)] from rfl) (Reps.one (show Kd.M Kd.string _ _ _ (⟨#[113, 117, 111, 116, 97]⟩ : ByteArray) [.string (⟨#[113, 117, 111, 116, 97]⟩ : ByteArray)] from rfl) (Reps.one (show Kd.M Kd.string _ _ _ (⟨#[100, 101, 110, 105, 101, 100]⟩ : ByteArray) [.string (⟨#[100, 101, 110, 105, 101, 100]⟩ : ByteArray)] from rfl) (Reps.one (show Kd.M Kd.string _ _ _ (⟨#[97, 117, 100, 105, 116, 45, 102, 117, 108, 108]⟩ : ByteArray) [.string (⟨#[97, 117, 100, 105, 116, 45, 102, 117, 108, 108]⟩ : ByteArray)] from rfl) (Reps.one (show Kd.M Kd.string _ _ _ (⟨#[110, 111, 45, 112, 111, 108, 105, 99, 121]⟩ : ByteArray) [.string (⟨#[110, 111, 45, 112, 111, 108, 105, 99, 121]⟩ : ByteArray)] from rfl) (Reps.none _ _))))))))))))))))); intro v213 w3 ho4 hb hg_ hnew_; clear hg_ hnew_; (first | rw [← Ny212.out] at ho4 | (simp only [Int.reduceToNat] at ho4; rw [← Ny212.out] at ho4)); have n0_ := Aside0.mk (Kd.R_lower ho4 (below_size (by repeat (first | (with_reducible first | exact HB.out | apply below_alloc | apply pw_below_drewN | apply below_drew1) | exact HB.out)))); have n1_ := Aside0.mk (below_step (by repeat (first | (with_reducible first | exact HB.out | apply below_alloc | apply pw_below_drewN | apply below_drew1) | exact HB.out)) hb); clear HB; have HO214 := n0_; have HB := n1_; clear n0_ n1_; clear hb ho4))
    go_ret
    exact ⟨by first | rfl | (simp [errW_none, errW_some] <;> rfl) | (simp [*, errW_none, errW_some] <;> rfl), by repeat (first | (with_reducible first | exact HB.out | apply below_alloc | apply pw_below_drewN | apply below_drew1) | exact HB.out)⟩
  · rw [if_neg c2] at H
    have c2b0 : decide (a0 < 0) = false := decide_eq_false c2
    clear c2
    by_cases c5 : a0 > 14
    · rw [if_pos c5] at H
      have c5b0 : decide (14 < a0) = true := decide_eq_true c5
      clear c5
      obtain rfl := Option.some.inj H
      go_enter Tryd.func17, Tryd.ntmps17
      go_wp2_with (first | ((with_reducible refine gate_dst (N := 4) rfl ?_); refine Kd.R_lit Kd.string _ 9 ?hg (N := 4) ?hd (xs := ([(⟨#[111, 107]⟩ : ByteArray), (⟨#[110, 111, 116, 104, 105, 110, 103]⟩ : ByteArray), (⟨#[116, 111, 111, 45, 109, 117, 99, 104]⟩ : ByteArray), (⟨#[109, 97, 108, 102, 111, 114, 109, 101, 100]⟩ : ByteArray), (⟨#[116, 111, 111, 45, 108, 111, 110, 103]⟩ : ByteArray), (⟨#[98, 97, 100, 45, 108, 97, 98, 101, 108]⟩ : ByteArray), (⟨#[110, 111, 116, 45, 102, 111, 117, 110, 100]⟩ : ByteArray), (⟨#[101, 120, 105, 115, 116, 115]⟩ : ByteArray), (⟨#[109, 105, 115, 97, 112, 112, 108, 105, 101, 100]⟩ : ByteArray), (⟨#[102, 111, 114, 98, 105, 100, 100, 101, 110]⟩ : ByteArray), (⟨#[99, 111, 110, 102, 108, 105, 99, 116]⟩ : ByteArray), (⟨#[113, 117, 111, 116, 97]⟩ : ByteArray), (⟨#[100, 101, 110, 105, 101, 100]⟩ : ByteArray), (⟨#[97, 117, 100, 105, 116, 45, 102, 117, 108, 108]⟩ : ByteArray), (⟨#[110, 111, 45, 112, 111, 108, 105, 99, 121]⟩ : ByteArray)] : List ByteArray)) (inner := [.string (⟨#[111, 107]⟩ : ByteArray), .string (⟨#[110, 111, 116, 104, 105, 110, 103]⟩ : ByteArray), .string (⟨#[116, 111, 111, 45, 109, 117, 99, 104]⟩ : ByteArray), .string (⟨#[109, 97, 108, 102, 111, 114, 109, 101, 100]⟩ : ByteArray), .string (⟨#[116, 111, 111, 45, 108, 111, 110, 103]⟩ : ByteArray), .string (⟨#[98, 97, 100, 45, 108, 97, 98, 101, 108]⟩ : ByteArray), .string (⟨#[110, 111, 116, 45, 102, 111, 117, 110, 100]⟩ : ByteArray), .string (⟨#[101, 120, 105, 115, 116, 115]⟩ : ByteArray), .string (⟨#[109, 105, 115, 97, 112, 112, 108, 105, 101, 100]⟩ : ByteArray), .string (⟨#[102, 111, 114, 98, 105, 100, 100, 101, 110]⟩ : ByteArray), .string (⟨#[99, 111, 110, 102, 108, 105, 99, 116]⟩ : ByteArray), .string (⟨#[113, 117, 111, 116, 97]⟩ : ByteArray), .string (⟨#[100, 101, 110, 105, 101, 100]⟩ : ByteArray), .string (⟨#[97, 117, 100, 105, 116, 45, 102, 117, 108, 108]⟩ : ByteArray), .string (⟨#[110, 111, 45, 112, 111, 108, 105, 99, 121]⟩ : ByteArray)]) (ok := fun _ => True) (okp := fun _ => True) ?hr ?hp (fun _ hk => hk) trivial (Below.refl _ _) (Nat.le_refl _) (by simp) ?_; (case hd => rfl); (case hg => rfl); (case hr => first | (go_simp; done) | (go_simp; rfl)); (case hp => exact (Reps.one (show Kd.M Kd.string _ _ _ (⟨#[111, 107]⟩ : ByteArray) [.string (⟨#[111, 107]⟩ : ByteArray)] from rfl) (Reps.one (show Kd.M Kd.string _ _ _ (⟨#[110, 111, 116, 104, 105, 110, 103]⟩ : ByteArray) [.string (⟨#[110, 111, 116, 104, 105, 110, 103]⟩ : ByteArray)] from rfl) (Reps.one (show Kd.M Kd.string _ _ _ (⟨#[116, 111, 111, 45, 109, 117, 99, 104]⟩ : ByteArray) [.string (⟨#[116, 111, 111, 45, 109, 117, 99, 104]⟩ : ByteArray)] from rfl) (Reps.one (show Kd.M Kd.string _ _ _ (⟨#[109, 97, 108, 102, 111, 114, 109, 101, 100]⟩ : ByteArray) [.string (⟨#[109, 97, 108, 102, 111, 114, 109, 101, 100]⟩ : ByteArray)] from rfl) (Reps.one (show Kd.M Kd.string _ _ _ (⟨#[116, 111, 111, 45, 108, 111, 110, 103]⟩ : ByteArray) [.string (⟨#[116, 111, 111, 45, 108, 111, 110, 103]⟩ : ByteArray)] from rfl) (Reps.one (show Kd.M Kd.string _ _ _ (⟨#[98, 97, 100, 45, 108, 97, 98, 101, 108]⟩ : ByteArray) [.string (⟨#[98, 97, 100, 45, 108, 97, 98, 101, 108]⟩ : ByteArray)] from rfl) (Reps.one (show Kd.M Kd.string _ _ _ (⟨#[110, 111, 116, 45, 102, 111, 117, 110, 100]⟩ : ByteArray) [.string (⟨#[110, 111, 116, 45, 102, 111, 117, 110, 100]⟩ : ByteArray)] from rfl) (Reps.one (show Kd.M Kd.string _ _ _ (⟨#[101, 120, 105, 115, 116, 115]⟩ : ByteArray) [.string (⟨#[101, 120, 105, 115, 116, 115]⟩ : ByteArray)] from rfl) (Reps.one (show Kd.M Kd.string _ _ _ (⟨#[109, 105, 115, 97, 112, 112, 108, 105, 101, 100]⟩ : ByteArray) [.string (⟨#[109, 105, 115, 97, 112, 112, 108, 105, 101, 100]⟩ : ByteArray)] from rfl) (Reps.one (show Kd.M Kd.string _ _ _ (⟨#[102, 111, 114, 98, 105, 100, 100, 101, 110]⟩ : ByteArray) [.string (⟨#[102, 111, 114, 98, 105, 100, 100, 101, 110]⟩ : ByteArray)] from rfl) (Reps.one (show Kd.M Kd.string _ _ _ (⟨#[99, 111, 110, 102, 108, 105, 99, 116]⟩ : ByteArray) [.string (⟨#[99, 111, 110, 102, 108, 105, 99, 116]⟩ : ByteArray)] from rfl) (Reps.one (show Kd.M Kd.string _ _ _ (⟨#[113, 117, 111, 116, 97]⟩ : ByteArray) [.string (⟨#[113, 117, 111, 116, 97]⟩ : ByteArray)] from rfl) (Reps.one (show Kd.M Kd.string _ _ _ (⟨#[100, 101, 110, 105, 101, 100]⟩ : ByteArray) [.string (⟨#[100, 101, 110, 105, 101, 100]⟩ : ByteArray)] from rfl) (Reps.one (show Kd.M Kd.string _ _ _ (⟨#[97, 117, 100, 105, 116, 45, 102, 117, 108, 108]⟩ : ByteArray) [.string (⟨#[97, 117, 100, 105, 116, 45, 102, 117, 108, 108]⟩ : ByteArray)] from rfl) (Reps.one (show Kd.M Kd.string _ _ _ (⟨#[110, 111, 45, 112, 111, 108, 105, 99, 121]⟩ : ByteArray) [.string (⟨#[110, 111, 45, 112, 111, 108, 105, 99, 121]⟩ : ByteArray)] from rfl) (Reps.none _ _))))))))))))))))); intro v213 w6 ho7 hb hg_ hnew_; clear hg_ hnew_; (first | rw [← Ny212.out] at ho7 | (simp only [Int.reduceToNat] at ho7; rw [← Ny212.out] at ho7)); have n0_ := Aside0.mk (Kd.R_lower ho7 (below_size (by repeat (first | (with_reducible first | exact HB.out | apply below_alloc | apply pw_below_drewN | apply below_drew1) | exact HB.out)))); have n1_ := Aside0.mk (below_step (by repeat (first | (with_reducible first | exact HB.out | apply below_alloc | apply pw_below_drewN | apply below_drew1) | exact HB.out)) hb); clear HB; have HO214 := n0_; have HB := n1_; clear n0_ n1_; clear hb ho7))
      go_ret
      exact ⟨by first | rfl | (simp [errW_none, errW_some] <;> rfl) | (simp [*, errW_none, errW_some] <;> rfl), by repeat (first | (with_reducible first | exact HB.out | apply below_alloc | apply pw_below_drewN | apply below_drew1) | exact HB.out)⟩
    · rw [if_neg c5] at H
      have c5b0 : decide (14 < a0) = false := decide_eq_false c5
      clear c5
      by_cases c8 : 0 ≤ a0
      · rw [if_pos c8] at H
        have c8b0 : decide (0 ≤ a0) = true := decide_eq_true c8
        clear c8
        by_cases c9 : a0 < (y212.length : Int)
        · rw [if_pos c9] at H
          have c9b0 : decide (a0 < (y212.length : Int)) = true := decide_eq_true c9
          clear c9
          obtain rfl := Option.some.inj H
          go_enter Tryd.func17, Tryd.ntmps17
          go_wp2_with (first | ((with_reducible refine gate_dst (N := 4) rfl ?_); refine Kd.R_lit Kd.string _ 9 ?hg (N := 4) ?hd (xs := ([(⟨#[111, 107]⟩ : ByteArray), (⟨#[110, 111, 116, 104, 105, 110, 103]⟩ : ByteArray), (⟨#[116, 111, 111, 45, 109, 117, 99, 104]⟩ : ByteArray), (⟨#[109, 97, 108, 102, 111, 114, 109, 101, 100]⟩ : ByteArray), (⟨#[116, 111, 111, 45, 108, 111, 110, 103]⟩ : ByteArray), (⟨#[98, 97, 100, 45, 108, 97, 98, 101, 108]⟩ : ByteArray), (⟨#[110, 111, 116, 45, 102, 111, 117, 110, 100]⟩ : ByteArray), (⟨#[101, 120, 105, 115, 116, 115]⟩ : ByteArray), (⟨#[109, 105, 115, 97, 112, 112, 108, 105, 101, 100]⟩ : ByteArray), (⟨#[102, 111, 114, 98, 105, 100, 100, 101, 110]⟩ : ByteArray), (⟨#[99, 111, 110, 102, 108, 105, 99, 116]⟩ : ByteArray), (⟨#[113, 117, 111, 116, 97]⟩ : ByteArray), (⟨#[100, 101, 110, 105, 101, 100]⟩ : ByteArray), (⟨#[97, 117, 100, 105, 116, 45, 102, 117, 108, 108]⟩ : ByteArray), (⟨#[110, 111, 45, 112, 111, 108, 105, 99, 121]⟩ : ByteArray)] : List ByteArray)) (inner := [.string (⟨#[111, 107]⟩ : ByteArray), .string (⟨#[110, 111, 116, 104, 105, 110, 103]⟩ : ByteArray), .string (⟨#[116, 111, 111, 45, 109, 117, 99, 104]⟩ : ByteArray), .string (⟨#[109, 97, 108, 102, 111, 114, 109, 101, 100]⟩ : ByteArray), .string (⟨#[116, 111, 111, 45, 108, 111, 110, 103]⟩ : ByteArray), .string (⟨#[98, 97, 100, 45, 108, 97, 98, 101, 108]⟩ : ByteArray), .string (⟨#[110, 111, 116, 45, 102, 111, 117, 110, 100]⟩ : ByteArray), .string (⟨#[101, 120, 105, 115, 116, 115]⟩ : ByteArray), .string (⟨#[109, 105, 115, 97, 112, 112, 108, 105, 101, 100]⟩ : ByteArray), .string (⟨#[102, 111, 114, 98, 105, 100, 100, 101, 110]⟩ : ByteArray), .string (⟨#[99, 111, 110, 102, 108, 105, 99, 116]⟩ : ByteArray), .string (⟨#[113, 117, 111, 116, 97]⟩ : ByteArray), .string (⟨#[100, 101, 110, 105, 101, 100]⟩ : ByteArray), .string (⟨#[97, 117, 100, 105, 116, 45, 102, 117, 108, 108]⟩ : ByteArray), .string (⟨#[110, 111, 45, 112, 111, 108, 105, 99, 121]⟩ : ByteArray)]) (ok := fun _ => True) (okp := fun _ => True) ?hr ?hp (fun _ hk => hk) trivial (Below.refl _ _) (Nat.le_refl _) (by simp) ?_; (case hd => rfl); (case hg => rfl); (case hr => first | (go_simp; done) | (go_simp; rfl)); (case hp => exact (Reps.one (show Kd.M Kd.string _ _ _ (⟨#[111, 107]⟩ : ByteArray) [.string (⟨#[111, 107]⟩ : ByteArray)] from rfl) (Reps.one (show Kd.M Kd.string _ _ _ (⟨#[110, 111, 116, 104, 105, 110, 103]⟩ : ByteArray) [.string (⟨#[110, 111, 116, 104, 105, 110, 103]⟩ : ByteArray)] from rfl) (Reps.one (show Kd.M Kd.string _ _ _ (⟨#[116, 111, 111, 45, 109, 117, 99, 104]⟩ : ByteArray) [.string (⟨#[116, 111, 111, 45, 109, 117, 99, 104]⟩ : ByteArray)] from rfl) (Reps.one (show Kd.M Kd.string _ _ _ (⟨#[109, 97, 108, 102, 111, 114, 109, 101, 100]⟩ : ByteArray) [.string (⟨#[109, 97, 108, 102, 111, 114, 109, 101, 100]⟩ : ByteArray)] from rfl) (Reps.one (show Kd.M Kd.string _ _ _ (⟨#[116, 111, 111, 45, 108, 111, 110, 103]⟩ : ByteArray) [.string (⟨#[116, 111, 111, 45, 108, 111, 110, 103]⟩ : ByteArray)] from rfl) (Reps.one (show Kd.M Kd.string _ _ _ (⟨#[98, 97, 100, 45, 108, 97, 98, 101, 108]⟩ : ByteArray) [.string (⟨#[98, 97, 100, 45, 108, 97, 98, 101, 108]⟩ : ByteArray)] from rfl) (Reps.one (show Kd.M Kd.string _ _ _ (⟨#[110, 111, 116, 45, 102, 111, 117, 110, 100]⟩ : ByteArray) [.string (⟨#[110, 111, 116, 45, 102, 111, 117, 110, 100]⟩ : ByteArray)] from rfl) (Reps.one (show Kd.M Kd.string _ _ _ (⟨#[101, 120, 105, 115, 116, 115]⟩ : ByteArray) [.string (⟨#[101, 120, 105, 115, 116, 115]⟩ : ByteArray)] from rfl) (Reps.one (show Kd.M Kd.string _ _ _ (⟨#[109, 105, 115, 97, 112, 112, 108, 105, 101, 100]⟩ : ByteArray) [.string (⟨#[109, 105, 115, 97, 112, 112, 108, 105, 101, 100]⟩ : ByteArray)] from rfl) (Reps.one (show Kd.M Kd.string _ _ _ (⟨#[102, 111, 114, 98, 105, 100, 100, 101, 110]⟩ : ByteArray) [.string (⟨#[102, 111, 114, 98, 105, 100, 100, 101, 110]⟩ : ByteArray)] from rfl) (Reps.one (show Kd.M Kd.string _ _ _ (⟨#[99, 111, 110, 102, 108, 105, 99, 116]⟩ : ByteArray) [.string (⟨#[99, 111, 110, 102, 108, 105, 99, 116]⟩ : ByteArray)] from rfl) (Reps.one (show Kd.M Kd.string _ _ _ (⟨#[113, 117, 111, 116, 97]⟩ : ByteArray) [.string (⟨#[113, 117, 111, 116, 97]⟩ : ByteArray)] from rfl) (Reps.one (show Kd.M Kd.string _ _ _ (⟨#[100, 101, 110, 105, 101, 100]⟩ : ByteArray) [.string (⟨#[100, 101, 110, 105, 101, 100]⟩ : ByteArray)] from rfl) (Reps.one (show Kd.M Kd.string _ _ _ (⟨#[97, 117, 100, 105, 116, 45, 102, 117, 108, 108]⟩ : ByteArray) [.string (⟨#[97, 117, 100, 105, 116, 45, 102, 117, 108, 108]⟩ : ByteArray)] from rfl) (Reps.one (show Kd.M Kd.string _ _ _ (⟨#[110, 111, 45, 112, 111, 108, 105, 99, 121]⟩ : ByteArray) [.string (⟨#[110, 111, 45, 112, 111, 108, 105, 99, 121]⟩ : ByteArray)] from rfl) (Reps.none _ _))))))))))))))))); intro v213 w10 ho11 hb hg_ hnew_; clear hg_ hnew_; (first | rw [← Ny212.out] at ho11 | (simp only [Int.reduceToNat] at ho11; rw [← Ny212.out] at ho11)); have n0_ := Aside0.mk (Kd.R_lower ho11 (below_size (by repeat (first | (with_reducible first | exact HB.out | apply below_alloc | apply pw_below_drewN | apply below_drew1) | exact HB.out)))); have n1_ := Aside0.mk (below_step (by repeat (first | (with_reducible first | exact HB.out | apply below_alloc | apply pw_below_drewN | apply below_drew1) | exact HB.out)) hb); clear HB; have HO214 := n0_; have HB := n1_; clear n0_ n1_; clear hb ho11; obtain ⟨Ao12, co12, eo12⟩ := Kd.R_slice HO214.out; subst eo12; have p215 : 0 ≤ (a0 : Int) := of_decide_eq_true (by first | (with_reducible assumption) | assumption); have q215 : a0 < (y212.length : Int) := of_decide_eq_true (by first | (with_reducible assumption) | assumption); obtain ⟨ad215, e215, hx215_0⟩ := Kd.at_string (Kd.R_reads' HO214.out).2.2 a0 p215 q215; cases e215; replace p215 := eq_true p215; replace q215 := eq_true q215))
          go_ret
          exact ⟨by first | rfl | (simp [errW_none, errW_some] <;> rfl) | (simp [*, errW_none, errW_some] <;> rfl), by repeat (first | (with_reducible first | exact HB.out | apply below_alloc | apply pw_below_drewN | apply below_drew1) | exact HB.out)⟩
        · rw [if_neg c9] at H
          exact absurd H (by simp)
      · rw [if_neg c8] at H
        exact absurd H (by simp)
/-! ### jalousieref21_Read: function 14 -/
mutual
def jalousieref21_Read.l0 : Nat → ByteArray → List Int → Bool → Int → Option (Int × List Int × Int)
  | 0, _, _, _, _ => none
  | k + 1, x4, x5, x6, x7 => if x6 = true then (jalousieref21_Read.j1 k x4 x5 x6 x7 (decide (x7 ≤ 14))) else (jalousieref21_Read.j1 k x4 x5 x6 x7 false)
def jalousieref21_Read.j1 : Nat → ByteArray → List Int → Bool → Int → Bool → Option (Int × List Int × Int)
  | 0, _, _, _, _, _ => none
  | k + 1, x4, x5, x6, x7, x18 => if x18 = true then ((jalousieref21_Code.f x7).bind fun t222 => (if t222.toList = x4.toList then (some (x7, x5, 0)) else (jalousieref21_Read.l0 k x4 x5 x6 (wrap64 (x7 + 1))))) else (some (0, ([] : List Int), 3))
end
def jalousieref21_Read.f (k : Nat) (l0 : List Int) : Option (Int × List Int × Int) := (jalousieref21_Cut.f l0).bind fun bt217 => (jalousieref21_Read.l0 k bt217.1 bt217.2.1 bt217.2.2 0)
set_option maxHeartbeats 8000000 in
set_option maxRecDepth 100000 in
theorem jalousieref21_Read.calls (k : Nat) (A0 : Option Addr) (c0 : Nat) (l0 : List Int) (r1 : Int) (r2 : List Int) (r3 : Int) (w : World) (hr0 : Kd.C (Kd.int .u8) w A0 l0.length l0) (hc0 : l0.length ≤ c0) (h : jalousieref21_Read.f k l0 = some (r1, r2, r3)) :
    Calls Tryd.prog 14 #[.slice A0 l0.length c0] w fun e w' => ∃ v1_ : Value, e = .returned (.tuple #[.agg #[.int .i64 r1, v1_], .int .i64 r3]) ∧ Kd.R (Kd.int .u8) 5 w' w.heap.size (fun _ => True) v1_ r2 ∧ Below w.heap.size w w' := by
  have hu36 := Tryd.underlying36
  have HR0 := Aside0.mk hr0
  have HC0 := Aside0.mk hc0
  clear hr0 hc0
  have HB := Aside0.mk (Below.refl w.heap.size w)
  have H : ((jalousieref21_Cut.f l0).bind fun bt217 => (jalousieref21_Read.l0 k bt217.1 bt217.2.1 bt217.2.2 0)) = some (r1, r2, r3) := h
  clear h
  replace H := Option.bind_eq_some_iff.mp H
  obtain ⟨⟨t217, t218, t219⟩, A20, H⟩ := H
  replace H : (jalousieref21_Read.l0 k t217 t218 t219 0) = some (r1, r2, r3) := H
  have A2 := Aside0.mk A20
  clear A20
  have H' := Aside0.mk H
  clear H
  go_enter Tryd.func14, Tryd.ntmps14
  go_wp2_with (first | ((with_reducible refine gate_dst (N := 2) rfl ?_); refine box_event ?hg (N := 2) ?hd (cs := #[.int .i64 0, .slice none 0 0]) (t := 36) ?hr ?_; (case hd => rfl); (case hg => rfl); (case hr => first | (go_simp; done) | (go_simp; rfl)); intro gb216 hg w3 hbox hb; have n0_ := Aside0.mk (below_step (by repeat (first | (with_reducible first | exact HB.out | apply below_alloc | apply pw_below_drewN | apply below_drew1) | exact HB.out)) hb); have n1_ := Aside0.mk (hbox); have n2_ := Aside0.mk ((by rw [hg]; exact (below_size (by repeat (first | (with_reducible first | exact HB.out | apply below_alloc | apply pw_below_drewN | apply below_drew1) | exact HB.out))) : w.heap.size ≤ gb216)); have n3_ := Aside0.mk ((by rw [hg]; exact (below_size (by repeat (first | (with_reducible first | exact HB.out | apply below_alloc | apply pw_below_drewN | apply below_drew1) | exact HB.out))) : w.heap.size ≤ gb216)); clear HB; have HB := n0_; have BK216 := n1_; have GW216 := n2_; have GE216 := n3_; clear n0_ n1_ n2_ n3_; clear hb hbox hg) | ((with_reducible refine gate_callee (f := 28) rfl ?_); refine goesL_ (some 10) rfl rfl Tryd.func28 (by kernel_rfl) rfl #[.slice A0 l0.length c0] rfl (by (try simp only [List.map_toArray, List.map_cons, List.map_nil]); first | done | rfl | (simp only [List.length_drop, List.length_take]; rfl) | (simp only [gt_iff_lt, Int.natCast_pos]; rfl)) ?_; (with_reducible refine (jalousieref21_Cut.calls _ _ l0 t217 t218 t219 _ ?side1 ?side2 A2.out).mono ?_); (case side1 => repeat (first | exact (Kd.C_below HR0.out HB.out) | (with_reducible refine Kd.C_alloc ?_ _) | (with_reducible refine Kd.C_drewN ?_ _) | (with_reducible refine Kd.C_drew ?_))); (case side2 => exact HC0.out); rintro e w4 ⟨v220, rfl, ho0, hb⟩; refine ⟨_, rfl, ?_⟩; have n0_ := Aside0.mk (Kd.R_lower ho0 (below_size (by repeat (first | (with_reducible first | exact HB.out | apply below_alloc | apply pw_below_drewN | apply below_drew1 | refine below_set ?_ GE216.out) | exact HB.out)))); have n1_ := Aside0.mk (blk_below (g := gb216) (o := .cells #[.int .i64 0, .slice none 0 0] 36 (0, 0)) (by (with_reducible repeat (first | refine blk_drewN ?_ _ | refine blk_drew ?_ | refine blk_alloc ?_ _)); exact BK216.out) hb); have n2_ := Aside0.mk (below_step (by repeat (first | (with_reducible first | exact HB.out | apply below_alloc | apply pw_below_drewN | apply below_drew1 | refine below_set ?_ GE216.out) | exact HB.out)) hb); clear BK216; clear HB; have HO221 := n0_; have BK216 := n1_; have HB := n2_; clear n0_ n1_ n2_; (try clear hb); (try clear hb2); (try clear hk); (try clear hi); (try clear ho0)))
  go_loopg [7] k (fun kq v7 w' => ∃ (x7_1 : Int) (x217000_1 : Int), v7 = .int .i64 x7_1 ∧ Aside0 (jalousieref21_Read.l0 kq t217 t218 t219 x7_1 = some (r1, r2, r3)) ∧ Aside0 (kq ≤ k) ∧ Aside0 (Kd.R (Kd.int .u8) 5 w' w.heap.size (fun _ => True) v220 t218) ∧ Aside0 (w'.heap[gb216]? = some (.cells #[.int .i64 x217000_1, (.slice none 0 0)] 36 (0, 0))) ∧ Aside0 (Below w.heap.size w w'))
  case atStart => exact ⟨(0), (0), (by first | rfl | (simp; done) | (simp [*]; done)), H', ⟨Nat.le_refl _⟩, ⟨by (with_reducible repeat (first | apply Kd.R_alloc | apply Kd.R_drewN | apply Kd.R_drew)); exact HO221.out⟩, ⟨by (with_reducible repeat (first | refine blk_drewN ?_ _ | refine blk_drew ?_ | refine blk_alloc ?_ _)); exact BK216.out⟩, ⟨by repeat (first | (with_reducible first | exact HB.out | apply below_alloc | apply pw_below_drewN | apply below_drew1 | refine below_set ?_ GE216.out) | exact HB.out)⟩⟩
  case round =>
    clear H'
    try clear c1
    try clear c2
    try clear p2
    obtain ⟨x7_1, x217000_1, rfl, HA, HK1, HO_5, BK216, HB⟩ := hrel
    cases gk with
    | zero => exact absurd HA.out (by simp [jalousieref21_Read.l0])
    | succ k1 =>
      have H := HA.out
      clear HA
      simp only [jalousieref21_Read.l0] at H
      have HC5 := Aside0.mk H
      clear H
      go_upto_region 3 with (fail)
      go_cut [18] (fun v18 wc => ∃ (kq : Nat) (x18_4 : Bool), v18 = .bool x18_4 ∧ Aside0 (jalousieref21_Read.j1 kq t217 t218 t219 x7_1 x18_4 = some (r1, r2, r3)) ∧ Aside0 (kq ≤ k1) ∧ Aside0 (Kd.R (Kd.int .u8) 5 wc w.heap.size (fun _ => True) v220 t218) ∧ Aside0 (wc.heap[gb216]? = some (.cells #[.int .i64 x217000_1, (.slice none 0 0)] 36 (0, 0))) ∧ Aside0 (Below w.heap.size w wc))
      case first =>
        have H := HC5.out
        clear HC5
        by_cases c6 : t219 = true
        · subst c6
          have H1 : (jalousieref21_Read.j1 k1 t217 t218 true x7_1 (decide (x7_1 ≤ 14))) = some (r1, r2, r3) := by rw [if_pos rfl] at H; exact H
          clear H
          have H := H1
          clear H1
          have H' := Aside0.mk H
          clear H
          go_wp2
          go_meet
          case rel => exact ⟨_, (decide (x7_1 ≤ 14)), (by first | rfl | (simp; done) | (simp [*]; done)), H', ⟨by have := HK1.out; first | omega | exact Nat.le_refl _⟩, ⟨by (with_reducible repeat (first | apply Kd.R_alloc | apply Kd.R_drewN | apply Kd.R_drew)); exact HO_5.out⟩, ⟨by (with_reducible repeat (first | refine blk_drewN ?_ _ | refine blk_drew ?_ | refine blk_alloc ?_ _)); exact BK216.out⟩, ⟨by repeat (first | (with_reducible first | exact HB.out | apply below_alloc | apply pw_below_drewN | apply below_drew1 | refine below_set ?_ GE216.out) | exact HB.out)⟩⟩
        · replace c6 := Bool.eq_false_iff.mpr c6
          subst c6
          have H1 : (jalousieref21_Read.j1 k1 t217 t218 false x7_1 false) = some (r1, r2, r3) := by rw [if_neg (show ¬ (false = true) by decide)] at H; exact H
          clear H
          have H := H1
          clear H1
          have H' := Aside0.mk H
          clear H
          go_wp2
          go_meet
          case rel => exact ⟨_, (false), (by first | rfl | (simp; done) | (simp [*]; done)), H', ⟨by have := HK1.out; first | omega | exact Nat.le_refl _⟩, ⟨by (with_reducible repeat (first | apply Kd.R_alloc | apply Kd.R_drewN | apply Kd.R_drew)); exact HO_5.out⟩, ⟨by (with_reducible repeat (first | refine blk_drewN ?_ _ | refine blk_drew ?_ | refine blk_alloc ?_ _)); exact BK216.out⟩, ⟨by repeat (first | (with_reducible first | exact HB.out | apply below_alloc | apply pw_below_drewN | apply below_drew1 | refine below_set ?_ GE216.out) | exact HB.out)⟩⟩
      case rest =>
        clear HC5
        try clear c1
        try clear c2
        try clear p2
        try clear c6
        try clear p2
        obtain ⟨kq, x18_4, rfl, HA, HJ4, HO_5, BK216, HB⟩ := hcut
        cases kq with
        | zero => exact absurd HA.out (by simp [jalousieref21_Read.j1])
        | succ kj4 =>
          have H := HA.out
          clear HA
          simp only [jalousieref21_Read.j1] at H
          by_cases c7 : x18_4 = true
          · subst c7
            have H1 : ((jalousieref21_Code.f x7_1).bind fun t222 => (if t222.toList = t217.toList then (some (x7_1, t218, 0)) else (jalousieref21_Read.l0 kj4 t217 t218 t219 (wrap64 (x7_1 + 1))))) = some (r1, r2, r3) := by rw [if_pos rfl] at H; exact H
            clear H
            have H := H1
            clear H1
            replace H := Option.bind_eq_some_iff.mp H
            obtain ⟨t222, A80, H⟩ := H
            replace H : (if t222.toList = t217.toList then (some (x7_1, t218, 0)) else (jalousieref21_Read.l0 kj4 t217 t218 t219 (wrap64 (x7_1 + 1)))) = some (r1, r2, r3) := H
            have A8 := Aside0.mk A80
            clear A80
            by_cases c9 : t222.toList = t217.toList
            · rw [if_pos c9] at H
              have c9b0 : (t222.toList == t217.toList) = true := beq_iff_eq.mpr c9
              have c9b1 : (t222.toList != t217.toList) = false := bne_eq_false_iff_eq.mpr c9
              clear c9
              simp only [Option.some.injEq, Prod.mk.injEq] at H
              obtain ⟨rfl, rfl, rfl⟩ := H
              go_wp2_with (first | ((with_reducible refine gate_callee (f := 17) rfl ?_); refine goesL_ (some 22) rfl rfl Tryd.func17 (by kernel_rfl) rfl #[.int .i64 x7_1] rfl (by (try simp only [List.map_toArray, List.map_cons, List.map_nil]); first | done | rfl | (simp only [List.length_drop, List.length_take]; rfl) | (simp only [gt_iff_lt, Int.natCast_pos]; rfl)) ?_; (with_reducible refine (jalousieref21_Code.calls x7_1 t222 _ A8.out).mono ?_); rintro e w10 ⟨rfl, hb⟩; refine ⟨_, rfl, ?_⟩; have n0_ := Aside0.mk (Kd.R_below (by (with_reducible repeat (first | apply Kd.R_alloc | apply Kd.R_drewN | apply Kd.R_drew)); exact HO_5.out) hb); have n1_ := Aside0.mk (blk_below (g := gb216) (o := .cells #[.int .i64 x217000_1, .slice none 0 0] 36 (0, 0)) (by (with_reducible repeat (first | refine blk_drewN ?_ _ | refine blk_drew ?_ | refine blk_alloc ?_ _)); exact BK216.out) hb); have n2_ := Aside0.mk (below_step (by repeat (first | (with_reducible first | exact HB.out | apply below_alloc | apply pw_below_drewN | apply below_drew1 | refine below_set ?_ GE216.out) | exact HB.out)) hb); clear HO_5; clear BK216; clear HB; have HO_5 := n0_; have BK216 := n1_; have HB := n2_; clear n0_ n1_ n2_; (try clear hb); (try clear hb2); (try clear hk); (try clear hi); obtain ⟨Ao11, co11, eo11⟩ := Kd.R_slice HO_5.out; subst eo11; have hcz12_0 : w10.cell? ⟨gb216, 0, none⟩ = some (.int .i64 x217000_1) := (blk_cell BK216.out 0).trans rfl; have hcz12_1 : w10.cell? ⟨gb216, 1, none⟩ = some (.slice none 0 0) := (blk_cell BK216.out 1).trans rfl; have hfz12_0 := blk_frozen BK216.out 0; have hfz12_1 := blk_frozen BK216.out 1))
              refine bodyPost_ret (results_ct rfl _ _ gb216 36 #[.int .i64 x7_1, .slice Ao11 t218.length co11] (0, 0) _ rfl (by (with_reducible repeat (first | refine blk_drewN ?_ _ | refine blk_drew ?_ | refine blk_alloc ?_ _)); refine blk_put (cs := #[.int .i64 x7_1, .slice none 0 0]) ?_ 1 _ rfl; (with_reducible repeat (first | refine blk_drewN ?_ _ | refine blk_drew ?_ | refine blk_alloc ?_ _)); refine blk_put (cs := #[.int .i64 x217000_1, .slice none 0 0]) ?_ 0 _ rfl; (with_reducible repeat (first | refine blk_drewN ?_ _ | refine blk_drew ?_ | refine blk_alloc ?_ _)); exact BK216.out) Tryd.underlying36 rfl (by kernel_rfl)) rfl ?_
              exact ⟨_, by first | rfl | (simp [errW_none, errW_some] <;> rfl) | (simp [*, errW_none, errW_some] <;> rfl), by (with_reducible repeat (first | apply Kd.R_alloc | apply Kd.R_drewN | apply Kd.R_drew)); exact Kd.R_mono (Kd.R_far (p := ⟨gb216, 1, none⟩) (Kd.R_far (p := ⟨gb216, 0, none⟩) (Kd.R_types HO_5.out BK216.out (by decide)) (fun _ hk => hk.2) (.int .i64 x7_1)) (fun _ hk => hk.2) (.slice Ao11 t218.length co11)) (fun _ hk => trivial), by repeat (first | (with_reducible first | exact HB.out | apply below_alloc | apply pw_below_drewN | apply below_drew1 | refine below_set ?_ GE216.out) | exact HB.out)⟩
            · rw [if_neg c9] at H
              have c9b0 : (t222.toList == t217.toList) = false := beq_eq_false_iff_ne.mpr c9
              have c9b1 : (t222.toList != t217.toList) = true := bne_iff_ne.mpr c9
              have H' := Aside0.mk H
              clear H
              go_wp2_with (first | ((with_reducible refine gate_callee (f := 17) rfl ?_); refine goesL_ (some 22) rfl rfl Tryd.func17 (by kernel_rfl) rfl #[.int .i64 x7_1] rfl (by (try simp only [List.map_toArray, List.map_cons, List.map_nil]); first | done | rfl | (simp only [List.length_drop, List.length_take]; rfl) | (simp only [gt_iff_lt, Int.natCast_pos]; rfl)) ?_; (with_reducible refine (jalousieref21_Code.calls x7_1 t222 _ A8.out).mono ?_); rintro e w13 ⟨rfl, hb⟩; refine ⟨_, rfl, ?_⟩; have n0_ := Aside0.mk (Kd.R_below (by (with_reducible repeat (first | apply Kd.R_alloc | apply Kd.R_drewN | apply Kd.R_drew)); exact HO_5.out) hb); have n1_ := Aside0.mk (blk_below (g := gb216) (o := .cells #[.int .i64 x217000_1, .slice none 0 0] 36 (0, 0)) (by (with_reducible repeat (first | refine blk_drewN ?_ _ | refine blk_drew ?_ | refine blk_alloc ?_ _)); exact BK216.out) hb); have n2_ := Aside0.mk (below_step (by repeat (first | (with_reducible first | exact HB.out | apply below_alloc | apply pw_below_drewN | apply below_drew1 | refine below_set ?_ GE216.out) | exact HB.out)) hb); clear HO_5; clear BK216; clear HB; have HO_5 := n0_; have BK216 := n1_; have HB := n2_; clear n0_ n1_ n2_; (try clear hb); (try clear hb2); (try clear hk); (try clear hi)))
              go_roundg kj4
              case measure => have := HK1.out; have := HJ4.out; omega
              case rel => exact ⟨(wrap64 (x7_1 + 1)), (x217000_1), (by first | rfl | (simp; done) | (simp [*]; done)), H', ⟨by have := HK1.out; have := HJ4.out; omega⟩, ⟨by (with_reducible repeat (first | apply Kd.R_alloc | apply Kd.R_drewN | apply Kd.R_drew)); exact HO_5.out⟩, ⟨by (with_reducible repeat (first | refine blk_drewN ?_ _ | refine blk_drew ?_ | refine blk_alloc ?_ _)); exact BK216.out⟩, ⟨by repeat (first | (with_reducible first | exact HB.out | apply below_alloc | apply pw_below_drewN | apply below_drew1 | refine below_set ?_ GE216.out) | exact HB.out)⟩⟩
          · replace c7 := Bool.eq_false_iff.mpr c7
            subst c7
            have H1 : (some (0, ([] : List Int), 3)) = some (r1, r2, r3) := by rw [if_neg (show ¬ (false = true) by decide)] at H; exact H
            clear H
            have H := H1
            clear H1
            simp only [Option.some.injEq, Prod.mk.injEq] at H
            obtain ⟨rfl, rfl, rfl⟩ := H
            have hcz14_0 : wc.cell? ⟨gb216, 0, none⟩ = some (.int .i64 x217000_1) := (blk_cell BK216.out 0).trans rfl
            have hcz14_1 : wc.cell? ⟨gb216, 1, none⟩ = some (.slice none 0 0) := (blk_cell BK216.out 1).trans rfl
            have hfz14_0 := blk_frozen BK216.out 0
            have hfz14_1 := blk_frozen BK216.out 1
            go_wp2
            refine bodyPost_ret (results_ct rfl _ _ gb216 36 #[.int .i64 0, .slice none 0 0] (0, 0) _ rfl (by (with_reducible repeat (first | refine blk_drewN ?_ _ | refine blk_drew ?_ | refine blk_alloc ?_ _)); refine blk_put (cs := #[.int .i64 0, .slice none 0 0]) ?_ 1 _ rfl; (with_reducible repeat (first | refine blk_drewN ?_ _ | refine blk_drew ?_ | refine blk_alloc ?_ _)); refine blk_put (cs := #[.int .i64 x217000_1, .slice none 0 0]) ?_ 0 _ rfl; (with_reducible repeat (first | refine blk_drewN ?_ _ | refine blk_drew ?_ | refine blk_alloc ?_ _)); exact BK216.out) Tryd.underlying36 rfl (by kernel_rfl)) rfl ?_
            exact ⟨_, by first | rfl | (simp [errW_none, errW_some] <;> rfl) | (simp [*, errW_none, errW_some] <;> rfl), by first | exact Kd.R_nil _ _ _ _ _ | exact Kd.N_nil _ _ _ _ _ | exact Kd.V_nil _ _ _ _ _ | exact Kd.Q_nil _ _ _ _ _ | exact Kd.S_nil _ _ _ _ _, by repeat (first | (with_reducible first | exact HB.out | apply below_alloc | apply pw_below_drewN | apply below_drew1 | refine below_set ?_ GE216.out) | exact HB.out)⟩
end Go.Proofs.YthaimkdnddmokaaDoor.P

/- the walk of jalousielaw02.LabelAlgebra -/
import Derived.Test.YtlhodalfbmdnnaaDoorPx0
import Derived.Test.YtlhodalfbmdnnaaDoorHLabelLaws
import Derived.Test.YtlhodalfbmdnnaaDoorHEqLabel
import Derived.Test.YtlhodalfbmdnnaaDoorHLive02
import Derived.Deep.RegionHeld3
namespace Go.Proofs.YtlhodalfbmdnnaaDoor.P
open Go.RowKit Go.Proofs.YtlhodalfbmdnnaaDoorW.PrintWords Go.Proofs.YtlhodalfbmdnnaaDoorW.PrintLast Go.Proofs.YtlhodalfbmdnnaaDoorW.PrintMore
set_option linter.unusedVariables false
set_option linter.unusedSimpArgs false
attribute [local go_sem high] eqA40

theorem keep6 {w W w' : World} {p1 p2 p3 p4 p5 p6 : Addr} {v1 v2 v3 v4 v5 v6 : Value} (h : Below w.heap.size w W ∧ W.cell? p1 = some v1 ∧ W.cell? p2 = some v2 ∧ W.cell? p3 = some v3 ∧ W.cell? p4 = some v4 ∧ W.cell? p5 = some v5 ∧ W.cell? p6 = some v6) (hb : Below W.heap.size W w') :
    Below w.heap.size w w' ∧ w'.cell? p1 = some v1 ∧ w'.cell? p2 = some v2 ∧ w'.cell? p3 = some v3 ∧ w'.cell? p4 = some v4 ∧ w'.cell? p5 = some v5 ∧ w'.cell? p6 = some v6 :=
  ⟨below_step h.1 hb, pw_cell_below hb h.2.1, pw_cell_below hb h.2.2.1, pw_cell_below hb h.2.2.2.1, pw_cell_below hb h.2.2.2.2.1, pw_cell_below hb h.2.2.2.2.2.1, pw_cell_below hb h.2.2.2.2.2.2⟩

theorem keepB {w W : World} {p1 p2 p3 p4 p5 p6 : Addr} {v1 v2 v3 v4 v5 v6 : Value} (h : Below w.heap.size w W ∧ W.cell? p1 = some v1 ∧ W.cell? p2 = some v2 ∧ W.cell? p3 = some v3 ∧ W.cell? p4 = some v4 ∧ W.cell? p5 = some v5 ∧ W.cell? p6 = some v6) : Below w.heap.size w W := h.1
theorem or_and_self (A B : Nat) : A ||| (A &&& B) = A := by
  apply Nat.eq_of_testBit_eq; intro i; simp only [Nat.testBit_or, Nat.testBit_and]; cases A.testBit i <;> simp
theorem and_or_self (A B : Nat) : A &&& (A ||| B) = A := by
  apply Nat.eq_of_testBit_eq; intro i; simp only [Nat.testBit_or, Nat.testBit_and]; cases A.testBit i <;> simp

set_option maxHeartbeats 8000000 in
set_option maxRecDepth 100000 in
theorem LabelAlgebra.walk (a : Int) (A : Nat) (b : Int) (B : Nat) (c : Int) (C : Nat) (w : World) (hT : Tabs w) (hA : A < 18446744073709551616) (hB : B < 18446744073709551616) (hC : C < 18446744073709551616) :
    Calls Tryd.prog 14 #[.agg #[.int .i64 a, .int .u64 (A : Int)], .agg #[.int .i64 b, .int .u64 (B : Int)], .agg #[.int .i64 c, .int .u64 (C : Int)]] w fun e w' => e = .returned (.bool true) ∧ Below w.heap.size w w' := by
  have hJ := or_lt A B hA hB
  have hK := or_lt B C hB hC
  have hM := and_lt A B hA
  have hN := and_lt B C hB
  have J1 := Lib.hid (show label_Join.f a ((A : Nat) : Int) b ((B : Nat) : Int) = some ((max a b), (((A ||| B) : Nat) : Int)) by rw [label_Join_tells _ _ _ _ hA hB])
  have J2 := Lib.hid (show label_Join.f b ((B : Nat) : Int) a ((A : Nat) : Int) = some ((max a b), (((A ||| B) : Nat) : Int)) by rw [label_Join_tells _ _ _ _ hB hA]; exact congrArg some (Prod.ext (by show _ = _; dsimp only; omega) (by dsimp only; rw [Nat.or_comm])))
  have M1 := Lib.hid (show label_Meet.f a ((A : Nat) : Int) b ((B : Nat) : Int) = some ((min a b), (((A &&& B) : Nat) : Int)) by rw [label_Meet_tells _ _ _ _ hA hB])
  have M2 := Lib.hid (show label_Meet.f b ((B : Nat) : Int) a ((A : Nat) : Int) = some ((min a b), (((A &&& B) : Nat) : Int)) by rw [label_Meet_tells _ _ _ _ hB hA]; exact congrArg some (Prod.ext (by show _ = _; dsimp only; omega) (by dsimp only; rw [Nat.and_comm])))
  have K1 := Lib.hid (show label_Join.f b ((B : Nat) : Int) c ((C : Nat) : Int) = some ((max b c), (((B ||| C) : Nat) : Int)) by rw [label_Join_tells _ _ _ _ hB hC])
  have T1 := Lib.hid (show label_Join.f a ((A : Nat) : Int) (max b c) (((B ||| C) : Nat) : Int) = some ((max a (max b c)), (((A ||| (B ||| C)) : Nat) : Int)) by rw [label_Join_tells _ _ _ _ hA hK])
  have T2 := Lib.hid (show label_Join.f (max a b) (((A ||| B) : Nat) : Int) c ((C : Nat) : Int) = some ((max a (max b c)), (((A ||| (B ||| C)) : Nat) : Int)) by rw [label_Join_tells _ _ _ _ hJ hC]; exact congrArg some (Prod.ext (by show _ = _; dsimp only; omega) (by dsimp only; rw [Nat.or_assoc])))
  have N1 := Lib.hid (show label_Meet.f b ((B : Nat) : Int) c ((C : Nat) : Int) = some ((min b c), (((B &&& C) : Nat) : Int)) by rw [label_Meet_tells _ _ _ _ hB hC])
  have U1 := Lib.hid (show label_Meet.f a ((A : Nat) : Int) (min b c) (((B &&& C) : Nat) : Int) = some ((min a (min b c)), (((A &&& (B &&& C)) : Nat) : Int)) by rw [label_Meet_tells _ _ _ _ hA hN])
  have U2 := Lib.hid (show label_Meet.f (min a b) (((A &&& B) : Nat) : Int) c ((C : Nat) : Int) = some ((min a (min b c)), (((A &&& (B &&& C)) : Nat) : Int)) by rw [label_Meet_tells _ _ _ _ hM hC]; exact congrArg some (Prod.ext (by show _ = _; dsimp only; omega) (by dsimp only; rw [Nat.and_assoc])))
  have X1 := Lib.hid (show label_Join.f a ((A : Nat) : Int) (min a b) (((A &&& B) : Nat) : Int) = some (a, ((A : Nat) : Int)) by rw [label_Join_tells _ _ _ _ hA hM]; exact congrArg some (Prod.ext (by show _ = _; dsimp only; omega) (by dsimp only; rw [or_and_self])))
  have Y1 := Lib.hid (show label_Meet.f a ((A : Nat) : Int) (max a b) (((A ||| B) : Nat) : Int) = some (a, ((A : Nat) : Int)) by rw [label_Meet_tells _ _ _ _ hA hJ]; exact congrArg some (Prod.ext (by show _ = _; dsimp only; omega) (by dsimp only; rw [and_or_self])))
  clear hJ hK hM hN hA hB hC
  generalize (((A ||| (B ||| C) : Nat)) : Int) = T, max a (max b c) = t, (((A &&& (B &&& C) : Nat)) : Int) = U, min a (min b c) = u at J1 J2 M1 M2 K1 T1 T2 N1 U1 U2 X1 Y1
  generalize (((A ||| B : Nat)) : Int) = J, max a b = j, (((A &&& B : Nat)) : Int) = M, min a b = m, (((B ||| C : Nat)) : Int) = K, max b c = k, (((B &&& C : Nat)) : Int) = N, min b c = n at J1 J2 M1 M2 K1 T1 T2 N1 U1 U2 X1 Y1
  generalize (A : Int) = A' at J1 J2 M1 M2 K1 T1 T2 N1 U1 U2 X1 Y1 ⊢
  generalize (B : Int) = B' at J1 J2 M1 M2 K1 T1 T2 N1 U1 U2 X1 Y1 ⊢
  generalize (C : Int) = C' at J1 J2 M1 M2 K1 T1 T2 N1 U1 U2 X1 Y1 ⊢
  go_enter Tryd.func14, Tryd.ntmps14
  go_wp2
  have HS : (fun w' => Below w.heap.size w w' ∧ w'.cell? ⟨w.heap.size, 0, none⟩ = some (.int .i64 a) ∧ w'.cell? ⟨w.heap.size, 1, none⟩ = some (.int .u64 A') ∧ w'.cell? ⟨w.heap.size + 1, 0, none⟩ = some (.int .i64 b) ∧ w'.cell? ⟨w.heap.size + 1, 1, none⟩ = some (.int .u64 B') ∧ w'.cell? ⟨w.heap.size + 1 + 1, 0, none⟩ = some (.int .i64 c) ∧ w'.cell? ⟨w.heap.size + 1 + 1, 1, none⟩ = some (.int .u64 C')) (((w.alloc (.cells #[.int .i64 a, .int .u64 A'] 40 (0, 0))).alloc (.cells #[.int .i64 b, .int .u64 B'] 40 (0, 0))).alloc (.cells #[.int .i64 c, .int .u64 C'] 40 (0, 0))) := by
    refine ⟨by repeat (first | exact Below.refl _ _ | apply below_alloc), ?_, ?_, ?_, ?_, ?_, ?_⟩ <;> go_simp
  generalize (((w.alloc (.cells #[.int .i64 a, .int .u64 A'] 40 (0, 0))).alloc (.cells #[.int .i64 b, .int .u64 B'] 40 (0, 0))).alloc (.cells #[.int .i64 c, .int .u64 C'] 40 (0, 0))) = W1 at HS ⊢
  have HS0 : (fun w' => Below w.heap.size w w' ∧ w'.cell? ⟨w.heap.size, 0, none⟩ = some (.int .i64 a) ∧ w'.cell? ⟨w.heap.size, 1, none⟩ = some (.int .u64 A') ∧ w'.cell? ⟨w.heap.size + 1, 0, none⟩ = some (.int .i64 b) ∧ w'.cell? ⟨w.heap.size + 1, 1, none⟩ = some (.int .u64 B') ∧ w'.cell? ⟨w.heap.size + 1 + 1, 0, none⟩ = some (.int .i64 c) ∧ w'.cell? ⟨w.heap.size + 1 + 1, 1, none⟩ = some (.int .u64 C')) W1.drew := keep6 HS (below_drew (Below.refl _ _))
  clear HS
  go_region_held3 (fun w' => Below w.heap.size w w' ∧ w'.cell? ⟨w.heap.size, 0, none⟩ = some (.int .i64 a) ∧ w'.cell? ⟨w.heap.size, 1, none⟩ = some (.int .u64 A') ∧ w'.cell? ⟨w.heap.size + 1, 0, none⟩ = some (.int .i64 b) ∧ w'.cell? ⟨w.heap.size + 1, 1, none⟩ = some (.int .u64 B') ∧ w'.cell? ⟨w.heap.size + 1 + 1, 0, none⟩ = some (.int .i64 c) ∧ w'.cell? ⟨w.heap.size + 1 + 1, 1, none⟩ = some (.int .u64 C')) (first | exact HS0 | exact keep6 (by assumption) (by assumption)) (first
    | (go_at_call 36; (refine (jalousielaw02_live.calls true _ (hT.below (keepB (by assumption))) rfl).mono ?_); rintro e w1 ⟨rfl, hb⟩)
    | (go_at_call 45; (with_reducible refine (label_Join.calls _ _ _ _ _ _ _ J1.out).mono ?_); rintro e w1 ⟨rfl, hb⟩)
    | (go_at_call 45; (with_reducible refine (label_Join.calls _ _ _ _ _ _ _ J2.out).mono ?_); rintro e w1 ⟨rfl, hb⟩)
    | (go_at_call 45; (with_reducible refine (label_Join.calls _ _ _ _ _ _ _ K1.out).mono ?_); rintro e w1 ⟨rfl, hb⟩)
    | (go_at_call 45; (with_reducible refine (label_Join.calls _ _ _ _ _ _ _ T1.out).mono ?_); rintro e w1 ⟨rfl, hb⟩)
    | (go_at_call 45; (with_reducible refine (label_Join.calls _ _ _ _ _ _ _ T2.out).mono ?_); rintro e w1 ⟨rfl, hb⟩)
    | (go_at_call 45; (with_reducible refine (label_Join.calls _ _ _ _ _ _ _ X1.out).mono ?_); rintro e w1 ⟨rfl, hb⟩)
    | (go_at_call 47; (with_reducible refine (label_Meet.calls _ _ _ _ _ _ _ M1.out).mono ?_); rintro e w1 ⟨rfl, hb⟩)
    | (go_at_call 47; (with_reducible refine (label_Meet.calls _ _ _ _ _ _ _ M2.out).mono ?_); rintro e w1 ⟨rfl, hb⟩)
    | (go_at_call 47; (with_reducible refine (label_Meet.calls _ _ _ _ _ _ _ N1.out).mono ?_); rintro e w1 ⟨rfl, hb⟩)
    | (go_at_call 47; (with_reducible refine (label_Meet.calls _ _ _ _ _ _ _ U1.out).mono ?_); rintro e w1 ⟨rfl, hb⟩)
    | (go_at_call 47; (with_reducible refine (label_Meet.calls _ _ _ _ _ _ _ U2.out).mono ?_); rintro e w1 ⟨rfl, hb⟩)
    | (go_at_call 47; (with_reducible refine (label_Meet.calls _ _ _ _ _ _ _ Y1.out).mono ?_); rintro e w1 ⟨rfl, hb⟩))
  all_goals (go_wp2; go_ret; exact ⟨rfl, keepB (by assumption)⟩)
end Go.Proofs.YtlhodalfbmdnnaaDoor.P

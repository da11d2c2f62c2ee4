/- delta.wrong's contract, by hand; condition: none. -/
import Derived.Test.YthppicgolkpbaaaDoorDeltaPrintsPx0
import Derived.Lib.Hide
namespace Go.Proofs.YthppicgolkpbaaaDoor.P
open Go.RowKit Go.Proofs.YthppicgolkpbaaaDoorW.PrintWords Go.Proofs.YthppicgolkpbaaaDoorW.PrintLast Go.Proofs.YthppicgolkpbaaaDoorW.PrintMore
set_option linter.unusedVariables false
set_option linter.unusedSimpArgs false
def wrongOf (at_ n : Int) (len : Nat) : Int := if (n = 0 ∧ len = 0) ∨ (¬ n = 0 ∧ ¬ len = 0) then 3 else if at_ < 0 then 2 else if n < 0 then 2 else if ¬ len = 0 ∧ ¬ at_ = 0 then 2 else 0
def delta_wrong.f (a0_0 : Int) (a0_1 : Int) (l0_2 : List S41) : Option Int := some (wrongOf a0_0 a0_1 l0_2.length)
set_option maxHeartbeats 4000000 in
theorem delta_wrong.calls (a0_0 : Int) (a0_1 : Int) (A0_2 : Option Addr) (c0_2 : Nat) (l0_2 : List S41) (r : Int) (w : World) (hr0_2 : Kd.C k41 w A0_2 l0_2.length l0_2) (hc0_2 : l0_2.length ≤ c0_2) (h : delta_wrong.f a0_0 a0_1 l0_2 = some r) :
    Calls Tryd.prog 27 #[.agg #[.int .i64 a0_0, .int .i64 a0_1, .slice A0_2 l0_2.length c0_2]] w fun e w' => e = .returned (.int .i64 r) ∧ Below w.heap.size w w' := by
  have hu := Tryd.underlying27
  clear hr0_2 hc0_2
  obtain rfl := Option.some.inj h
  clear h
  generalize l0_2.length = n
  unfold wrongOf
  by_cases hn : a0_1 = 0
  · have n1 : (a0_1 == 0) = true := by simpa using hn
    have n2 : (a0_1 != 0) = false := by simpa using hn
    have n3 : decide (a0_1 < 0) = false := decide_eq_false (by omega)
    have n4 : ¬ a0_1 < 0 := by omega
    by_cases hl : n = 0
    · have l1 : decide (0 < n) = false := decide_eq_false (by omega)
      rw [if_pos (.inl ⟨hn, hl⟩)]
      clear hn hl n4
      go_enter Tryd.func27, Tryd.ntmps27
      go_wp2
      go_ret
      exact ⟨rfl, by repeat (first | exact Below.refl _ _ | apply below_alloc)⟩
    · have l1 : decide (0 < n) = true := decide_eq_true (by omega)
      rw [if_neg (by omega)]
      by_cases ha : a0_0 < 0
      · have a1 : decide (a0_0 < 0) = true := decide_eq_true ha
        rw [if_pos ha]
        clear hn hl n4 ha
        go_enter Tryd.func27, Tryd.ntmps27
        go_wp2
        go_ret
        exact ⟨rfl, by repeat (first | exact Below.refl _ _ | apply below_alloc)⟩
      · have a1 : decide (a0_0 < 0) = false := decide_eq_false ha
        rw [if_neg ha, if_neg n4]
        by_cases h0 : a0_0 = 0
        · have a2 : (a0_0 != 0) = false := by simpa using h0
          have a3 : (a0_0 == 0) = true := by simpa using h0
          rw [if_neg (by omega)]
          clear hn hl n4 ha h0
          go_enter Tryd.func27, Tryd.ntmps27
          go_wp2
          go_ret
          exact ⟨rfl, by repeat (first | exact Below.refl _ _ | apply below_alloc)⟩
        · have a2 : (a0_0 != 0) = true := by simpa using h0
          have a3 : (a0_0 == 0) = false := by simpa using h0
          rw [if_pos ⟨hl, h0⟩]
          clear hn hl n4 ha h0
          go_enter Tryd.func27, Tryd.ntmps27
          go_wp2
          go_ret
          exact ⟨rfl, by repeat (first | exact Below.refl _ _ | apply below_alloc)⟩
  · have n1 : (a0_1 == 0) = false := by simpa using hn
    have n2 : (a0_1 != 0) = true := by simpa using hn
    by_cases hl : n = 0
    · have l1 : decide (0 < n) = false := decide_eq_false (by omega)
      rw [if_neg (by omega)]
      by_cases ha : a0_0 < 0
      · have a1 : decide (a0_0 < 0) = true := decide_eq_true ha
        rw [if_pos ha]
        clear hn hl ha
        go_enter Tryd.func27, Tryd.ntmps27
        go_wp2
        go_ret
        exact ⟨rfl, by repeat (first | exact Below.refl _ _ | apply below_alloc)⟩
      · have a1 : decide (a0_0 < 0) = false := decide_eq_false ha
        rw [if_neg ha]
        by_cases hm : a0_1 < 0
        · have n3 : decide (a0_1 < 0) = true := decide_eq_true hm
          rw [if_pos hm]
          clear hn hl ha hm
          go_enter Tryd.func27, Tryd.ntmps27
          go_wp2
          go_ret
          exact ⟨rfl, by repeat (first | exact Below.refl _ _ | apply below_alloc)⟩
        · have n3 : decide (a0_1 < 0) = false := decide_eq_false hm
          rw [if_neg hm, if_neg (by omega)]
          clear hn hl ha hm
          go_enter Tryd.func27, Tryd.ntmps27
          go_wp2
          go_ret
          exact ⟨rfl, by repeat (first | exact Below.refl _ _ | apply below_alloc)⟩
    · have l1 : decide (0 < n) = true := decide_eq_true (by omega)
      rw [if_pos (.inr ⟨hn, hl⟩)]
      clear hn hl
      go_enter Tryd.func27, Tryd.ntmps27
      go_wp2
      go_ret
      exact ⟨rfl, by repeat (first | exact Below.refl _ _ | apply below_alloc)⟩
end Go.Proofs.YthppicgolkpbaaaDoor.P

/- what this claim needs of the words and the printed functions; conditions: as each statement says -/
import Derived.Test.YthppicgolkpbaaaDoorDeltaSizesHDMakeGo
import Derived.Test.YthppicgolkpbaaaDoorDeltaSizesPx0
import Derived.Lib.TrailingZeros
namespace Go.Proofs.YthppicgolkpbaaaDoor.P
open Go.RowKit Go.Proofs.YthppicgolkpbaaaDoorW.PrintWords Go.Proofs.YthppicgolkpbaaaDoorW.PrintLast Go.Proofs.YthppicgolkpbaaaDoorW.PrintMore
set_option linter.unusedVariables false
set_option linter.unusedSimpArgs false
attribute [local go_sem] max2_int min2_int max_two min_two
theorem cut_few (W : World) (A : Option Addr) (n c : Nat) (m : Nat) (hm : m ≤ n) (hc : n ≤ c) : (Instr.slice 22 (.slice A n c) none (some (.int .i64 (m : Int))) none).run Tryd.prog W = .ok (.slice A m c) W := by
  obtain ⟨i0, hi, _, hsz, _⟩ := info_parts info41
  have := cut_to (P := Tryd.prog) 22 41 .i64 Tryd.underlying22 hi A n c (m : Int) (by omega) (by omega) hc W
  rw [Int.toNat_natCast] at this
  exact this
set_option maxHeartbeats 1000000 in
theorem few_calls (A0 : Option Addr) (n c0 : Nat) (w : World) (hn : n ≤ 9223372036854775807) (hc0 : n ≤ c0) :
    Calls Tryd.prog 10 #[.slice A0 n c0] w fun e w' => e = .returned (.slice A0 (min n 40) c0) ∧ w = w' := by
  by_cases h : 40 < n
  · have h1 : (if (40 : Int) < (n : Int) then (40 : Int) else (n : Int)) = 40 := if_pos (by omega)
    have hd : decide (40 < n) = true := by simpa using h
    have hcut := cut_few w A0 n c0 40 (by omega) hc0
    have hm : min n 40 = 40 := by omega
    rw [hm]
    clear hm
    go_enter Tryd.func10, Tryd.ntmps10
    go_wp2
    go_ret
    exact ⟨rfl, rfl⟩
  · have h1 : (if (40 : Int) < (n : Int) then (40 : Int) else (n : Int)) = n := if_neg (by omega)
    have hd : decide (40 < n) = false := by simpa using h
    have hcut := cut_few w A0 n c0 n (by omega) hc0
    have hm : min n 40 = n := by omega
    rw [hm]
    clear hm
    go_enter Tryd.func10, Tryd.ntmps10
    go_wp2
    go_ret
    exact ⟨rfl, rfl⟩
theorem few_C {w : World} {A : Option Addr} {l : List S41} (h : Kd.C k41 w A l.length l) : Kd.C k41 w A (l.take 40).length (l.take 40) := by
  by_cases hl : 40 ≤ l.length
  · exact Kd.C_take (m := 40) h hl
  · rw [List.take_of_length_le (by omega)]
    exact h
end Go.Proofs.YthppicgolkpbaaaDoor.P
namespace Go.Proofs.YthppicgolkpbaaaDoor.P
open Go.RowKit Go.Proofs.YthppicgolkpbaaaDoorW.PrintWords Go.Proofs.YthppicgolkpbaaaDoorW.PrintLast Go.Proofs.YthppicgolkpbaaaDoorW.PrintMore
structure Tabs (w : World) : Prop where
  deb : ∀ j, j < 64 → w.cell? ⟨1, j, none⟩ = some (.int .u8 (Lib.deBruijn64tab.getD j 0))
theorem Tabs.below {w W : World} (h : Tabs w) (hb : Below w.heap.size w W) : Tabs W :=
  ⟨fun j hj => pw_cell_below hb (h.deb j hj)⟩
theorem Tabs.drawn {w W : World} (h : Tabs w) (hb : Drawn0 w W) : Tabs W := h.below hb.below
end Go.Proofs.YthppicgolkpbaaaDoor.P

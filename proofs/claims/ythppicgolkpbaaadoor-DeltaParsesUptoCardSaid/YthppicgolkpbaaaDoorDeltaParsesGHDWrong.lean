/- what this claim needs of the words and the printed functions; conditions: as each statement says -/
import Derived.Test.YthppicgolkpbaaaDoorDeltaParsesPx0
import Derived.Test.YthppicgolkpbaaaDoorDeltaParsesHShelfB
import Derived.Lib.Hide
namespace Go.Proofs.YthppicgolkpbaaaDoor.P
open Go.RowKit Go.Proofs.YthppicgolkpbaaaDoorW.PrintWords Go.Proofs.YthppicgolkpbaaaDoorW.PrintLast Go.Proofs.YthppicgolkpbaaaDoorW.PrintMore
set_option linter.unusedVariables false
set_option linter.unusedSimpArgs false
def joinB (l : List ByteArray) (sep : ByteArray) : List UInt8 := Lib.join (l.map (·.data.toList)) sep.data.toList
def strings_Join.f (l0 : List ByteArray) (a1 : ByteArray) : Option ByteArray := if l0.length ≤ 140737488355328 then (if (joinB l0 a1).length ≤ 140737488355328 then some ⟨(joinB l0 a1).toArray⟩ else none) else none
theorem join_X : Builder.Extra Tryd.prog Tryd.lays156_ren where
 sizeBuilder := by kernel_rfl
 liesBuilder := by kernel_rfl
 t5 := Tryd.underlying5
 a5 := Tryd.isAgg5
 z5 := Tryd.sizeOf5
 v5 := Tryd.zeroValue5
 infoByte := by kernel_rfl
 cellsByte := by kernel_rfl
 sizeByte := by kernel_rfl
 neB5 := by decide
theorem cell_plain {w : World} {a : Addr} {v : Value} (h : w.cell? a = some v) : a.spot = none := by
 unfold World.cell? at h
 split at h
 ·
  split at h
  ·
   cases h
  ·
   rename_i h2
   cases hs : a.spot with
   | none => rfl
   | some x => rw [hs] at h2; simp at h2
 ·
  cases h
theorem strings_Join.calls (A0 : Option Addr) (c0 : Nat) (l0 : List ByteArray) (a1 : ByteArray) (r : ByteArray) (w : World) (hr0 : Kd.C Kd.string w A0 l0.length l0) (hc0 : l0.length ≤ c0) (h : strings_Join.f l0 a1 = some r) :
  Calls Tryd.prog 55 #[.slice A0 l0.length c0, .string a1] w fun e w' => e = .returned (.string r) ∧ Below w.heap.size w w' := by
 unfold strings_Join.f at h
 split at h
 case isFalse => cases h
 rename_i h1
 split at h
 case isFalse => cases h
 rename_i h2
 obtain rfl := Option.some.inj h
 rcases l0 with _ | ⟨x, xs⟩
 ·
  refine (Any.strings_Join_none Tryd.lays156 join_X A0 c0 a1 w).mono fun e w' ⟨he, hw⟩ => ⟨he, by rw [hw]; exact Below.refl _ _⟩
 ·
  obtain ⟨ad, rfl, hcell⟩ := (Kd.reads_of_C (enc := Value.string) (d := (⟨#[]⟩ : ByteArray)) (h1 := fun _ => rfl) hr0).2.2 (by simp)
  have h0 := hcell 0 (by simp)
  have hsp : ad.spot = none := by
   have := cell_plain h0
   rw [Addr.add, if_pos rfl] at this
   exact this
  obtain ⟨bk, o, sp⟩ := ad
  obtain rfl : sp = none := hsp
  refine (Any.strings_Join Tryd.lays156 join_X bk o c0 (x :: xs) a1 w (fun j y hj => ?_) ?_ h1 hc0 h2).mono fun e w' ⟨he, hw⟩ => ⟨he, hw⟩
  ·
   have hlt : j < (x :: xs).length := (List.getElem?_eq_some_iff.1 hj).1
   have := hcell j hlt
   have e : (⟨bk, o, none⟩ : Addr).add j = ⟨bk, o + j, none⟩ := by
    unfold Addr.add
    split
    ·
     rename_i h9; rw [h9]; rfl
    ·
     rfl
   rw [e] at this
   rw [this, List.getD_eq_getElem?_getD, hj]; rfl
  ·
   have := World.block_lt_of_cell? w _ h0
   simpa [Addr.add] using this
end Go.Proofs.YthppicgolkpbaaaDoor.P
namespace Go.Proofs.YthppicgolkpbaaaDoor.P
open Go.RowKit Go.Proofs.YthppicgolkpbaaaDoorW.PrintWords Go.Proofs.YthppicgolkpbaaaDoorW.PrintLast Go.Proofs.YthppicgolkpbaaaDoorW.PrintMore
set_option linter.unusedVariables false
set_option linter.unusedSimpArgs false
def wrongOf (at_ n : Int) (len : Nat) : Int := if (n = 0 ∧ len = 0) ∨ (¬ n = 0 ∧ ¬ len = 0) then 3 else if at_ < 0 then 2 else if n < 0 then 2 else if ¬ len = 0 ∧ ¬ at_ = 0 then 2 else 0
def delta_wrong.f (a0_0 : Int) (a0_1 : Int) (l0_2 : List S41) : Option Int := some (wrongOf a0_0 a0_1 l0_2.length)
set_option maxHeartbeats 4000000 in
theorem delta_wrong.calls (a0_0 : Int) (a0_1 : Int) (A0_2 : Option Addr) (c0_2 : Nat) (l0_2 : List S41) (r : Int) (w : World) (hr0_2 : Kd.C k41 w A0_2 l0_2.length l0_2) (hc0_2 : l0_2.length ≤ c0_2) (h : delta_wrong.f a0_0 a0_1 l0_2 = some r) :
  Calls Tryd.prog 27 #[.agg #[.int .i64 a0_0, .int .i64 a0_1, .slice A0_2 l0_2.length c0_2]] w fun e w' => e = .returned (.int .i64 r) ∧ Below w.heap.size w w' := by
 have hu := Tryd.underlying27
 clear hr0_2 hc0_2
 obtain rfl := Option.some.inj h
 clear h
 generalize l0_2.length = n
 unfold wrongOf
 by_cases hn : a0_1 = 0
 ·
  have n1 : (a0_1 == 0) = true := by simpa using hn
  have n2 : (a0_1 != 0) = false := by simpa using hn
  have n3 : decide (a0_1 < 0) = false := decide_eq_false (by omega)
  have n4 : ¬ a0_1 < 0 := by omega
  by_cases hl : n = 0
  ·
   have l1 : decide (0 < n) = false := decide_eq_false (by omega)
   rw [if_pos (.inl ⟨hn, hl⟩)]
   clear hn hl n4
   go_enter Tryd.func27, Tryd.ntmps27
   go_wp2
   go_ret
   exact ⟨rfl, by repeat (first | exact Below.refl _ _ | apply below_alloc)⟩
  ·
   have l1 : decide (0 < n) = true := decide_eq_true (by omega)
   rw [if_neg (by omega)]
   by_cases ha : a0_0 < 0
   ·
    have a1 : decide (a0_0 < 0) = true := decide_eq_true ha
    rw [if_pos ha]
    clear hn hl n4 ha
    go_enter Tryd.func27, Tryd.ntmps27
    go_wp2
    go_ret
    exact ⟨rfl, by repeat (first | exact Below.refl _ _ | apply below_alloc)⟩
   ·
    have a1 : decide (a0_0 < 0) = false := decide_eq_false ha
    rw [if_neg ha, if_neg n4]
    by_cases h0 : a0_0 = 0
    ·
     have a2 : (a0_0 != 0) = false := by simpa using h0
     have a3 : (a0_0 == 0) = true := by simpa using h0
     rw [if_neg (by omega)]
     clear hn hl n4 ha h0
     go_enter Tryd.func27, Tryd.ntmps27
     go_wp2
     go_ret
     exact ⟨rfl, by repeat (first | exact Below.refl _ _ | apply below_alloc)⟩
    ·
     have a2 : (a0_0 != 0) = true := by simpa using h0
     have a3 : (a0_0 == 0) = false := by simpa using h0
     rw [if_pos ⟨hl, h0⟩]
     clear hn hl n4 ha h0
     go_enter Tryd.func27, Tryd.ntmps27
     go_wp2
     go_ret
     exact ⟨rfl, by repeat (first | exact Below.refl _ _ | apply below_alloc)⟩
 ·
  have n1 : (a0_1 == 0) = false := by simpa using hn
  have n2 : (a0_1 != 0) = true := by simpa using hn
  by_cases hl : n = 0
  ·
   have l1 : decide (0 < n) = false := decide_eq_false (by omega)
   rw [if_neg (by omega)]
   by_cases ha : a0_0 < 0
   ·
    have a1 : decide (a0_0 < 0) = true := decide_eq_true ha
    rw [if_pos ha]
    clear hn hl ha
    go_enter Tryd.func27, Tryd.ntmps27
    go_wp2
    go_ret
    exact ⟨rfl, by repeat (first | exact Below.refl _ _ | apply below_alloc)⟩
   ·
    have a1 : decide (a0_0 < 0) = false := decide_eq_false ha
    rw [if_neg ha]
    by_cases hm : a0_1 < 0
    ·
     have n3 : decide (a0_1 < 0) = true := decide_eq_true hm
     rw [if_pos hm]
     clear hn hl ha hm
     go_enter Tryd.func27, Tryd.ntmps27
     go_wp2
     go_ret
     exact ⟨rfl, by repeat (first | exact Below.refl _ _ | apply below_alloc)⟩
    ·
     have n3 : decide (a0_1 < 0) = false := decide_eq_false hm
     rw [if_neg hm, if_neg (by omega)]
     clear hn hl ha hm
     go_enter Tryd.func27, Tryd.ntmps27
     go_wp2
     go_ret
     exact ⟨rfl, by repeat (first | exact Below.refl _ _ | apply below_alloc)⟩
  ·
   have l1 : decide (0 < n) = true := decide_eq_true (by omega)
   rw [if_pos (.inr ⟨hn, hl⟩)]
   clear hn hl
   go_enter Tryd.func27, Tryd.ntmps27
   go_wp2
   go_ret
   exact ⟨rfl, by repeat (first | exact Below.refl _ _ | apply below_alloc)⟩
end Go.Proofs.YthppicgolkpbaaaDoor.P

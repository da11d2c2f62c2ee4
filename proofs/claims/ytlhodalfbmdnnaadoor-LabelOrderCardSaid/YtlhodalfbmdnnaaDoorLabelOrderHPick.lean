/- jalousieref02.pick, by hand; condition: none. -/
import Derived.Test.YtlhodalfbmdnnaaDoorLabelOrderPx0
import Derived.Test.YtlhodalfbmdnnaaDoorLabelOrderPxJalousieref02
import Derived.Lib.Hide
namespace Go.Proofs.YtlhodalfbmdnnaaDoor.P
open Go.RowKit Go.Proofs.YtlhodalfbmdnnaaDoorW.PrintWords Go.Proofs.YtlhodalfbmdnnaaDoorW.PrintLast Go.Proofs.YtlhodalfbmdnnaaDoorW.PrintMore
set_option linter.unusedVariables false
set_option linter.unusedSimpArgs false
def hasN (cats : Int) (c : Nat) : Bool := Int.tmod (shr .u64 cats c) 2 == 1
def pickN (f : Nat → Bool) : Nat → Int → Int
  | 0, out => out
  | n + 1, out => pickN f n (if f n = true then IntKind.u64.wrap (IntKind.u64.wrap (2 * out) + 1) else IntKind.u64.wrap (2 * out))
def pickB (a b : Int) (both : Bool) (c : Nat) : Bool := hasN a c && hasN b c || !both && (hasN a c || hasN b c)
def jalousieref02_pick.f (a0_0 : Int) (a0_1 : Int) (a1_0 : Int) (a1_1 : Int) (a2 : Bool) : Option Int := some (pickN (pickB a0_1 a1_1 a2) 64 0)
theorem has_f (l cats : Int) (c : Nat) (h : c ≤ 63) : jalousieref02_Has.f l cats (c : Int) = some (hasN cats c) := by
  unfold jalousieref02_Has.f
  rw [if_pos (by omega), if_pos (by omega), if_pos (by omega)]
  rfl
/-- the two labels in memory -/
structure PickMem (w W : World) (g g' : Nat) (a0_0 a0_1 a1_0 a1_1 : Int) : Prop where
  bk : W.heap[g]? = some (.cells #[.int .i64 a0_0, .int .u64 a0_1] 40 (0, 0))
  bk' : W.heap[g']? = some (.cells #[.int .i64 a1_0, .int .u64 a1_1] 40 (0, 0))
  below : Below w.heap.size w W
theorem PickMem.step {w W W' : World} {g g' : Nat} {a b c d : Int} (h : PickMem w W g g' a b c d) (hb : Below W.heap.size W W') : PickMem w W' g g' a b c d :=
  ⟨blk_below h.bk hb, blk_below h.bk' hb, below_step h.below hb⟩
theorem PickMem.cells {w W : World} {g g' : Nat} {a b c d : Int} (h : PickMem w W g g' a b c d) :
    (W.cell? ⟨g, 0, none⟩ = some (.int .i64 a) ∧ W.cell? ⟨g, 1, none⟩ = some (.int .u64 b)) ∧ W.cell? ⟨g', 0, none⟩ = some (.int .i64 c) ∧ W.cell? ⟨g', 1, none⟩ = some (.int .u64 d) :=
  ⟨⟨(blk_cell h.bk 0).trans rfl, (blk_cell h.bk 1).trans rfl⟩, (blk_cell h.bk' 0).trans rfl, (blk_cell h.bk' 1).trans rfl⟩
theorem pick_new (w : World) (o : Obj) : (w.alloc o).heap[w.heap.size]? = some o := by
  show (w.heap.push o)[w.heap.size]? = some o
  simp
theorem pick_size (w : World) (o : Obj) : (w.alloc o).heap.size = w.heap.size + 1 := by
  show (w.heap.push o).size = _
  simp
theorem pick_mem (w : World) (a b c d : Int) : PickMem w ((w.alloc (.cells #[.int .i64 a, .int .u64 b] 40)).alloc (.cells #[.int .i64 c, .int .u64 d] 40)) w.heap.size (w.heap.size + 1) a b c d :=
  ⟨blk_alloc (pick_new _ _) _, by rw [← pick_size w (.cells #[.int .i64 a, .int .u64 b] 40)]; exact pick_new _ _, below_alloc (below_alloc (Below.refl _ _) _) _⟩
set_option maxHeartbeats 2000000 in
set_option maxRecDepth 100000 in
theorem jalousieref02_pick.calls (a0_0 : Int) (a0_1 : Int) (a1_0 : Int) (a1_1 : Int) (a2 : Bool) (r : Int) (w : World) (h : jalousieref02_pick.f a0_0 a0_1 a1_0 a1_1 a2 = some r) :
    Calls Tryd.prog 55 #[.agg #[.int .i64 a0_0, .int .u64 a0_1], .agg #[.int .i64 a1_0, .int .u64 a1_1], .bool a2] w fun e w' => e = .returned (.int .u64 r) ∧ Below w.heap.size w w' := by
  have hu40 := Tryd.underlying40
  obtain rfl := Option.some.inj h
  clear h
  go_enter Tryd.func55, Tryd.ntmps55
  go_wp2
  go_loopw [7, 8] (fun v7 v8 w' => ∃ (n : Nat) (out : Int), n ≤ 64 ∧ v7 = .int .u64 out ∧ v8 = .int .i64 ((n : Int) - 1) ∧ Aside0 (pickN (pickB a0_1 a1_1 a2) 64 0 = pickN (pickB a0_1 a1_1 a2) n out) ∧ PickMem w w' w.heap.size (w.heap.size + 1) a0_0 a0_1 a1_0 a1_1) (fun _ v8 _ => (intOf v8 + 1).toNat)
  case atStart => exact ⟨64, 0, by omega, rfl, rfl, ⟨rfl⟩, pick_mem _ _ _ _ _⟩
  case round =>
    obtain ⟨n, out, hn, rfl, rfl, HE, HM⟩ := hrel
    rcases n with _ | n
    · have hd : decide (0 ≤ (((0 : Nat) : Int) - 1)) = false := rfl
      have hd2 : ((0 : Nat) : Int) = 0 := rfl
      go_wp2
      go_ret
      exact ⟨by rw [HE.out]; rfl, HM.below⟩
    · have e0 : ((n + 1 : Nat) : Int) - 1 = (n : Int) := by omega
      rw [e0]
      have p0 : (n : Int) ≤ 63 := by omega
      have hA := has_f a0_0 a0_1 n (by omega)
      have hB := has_f a1_0 a1_1 n (by omega)
      have HA := Lib.hid hA
      have HB := Lib.hid hB
      have hstep : Hid (pickN (pickB a0_1 a1_1 a2) 64 0 = pickN (pickB a0_1 a1_1 a2) n (if pickB a0_1 a1_1 a2 n = true then IntKind.u64.wrap (IntKind.u64.wrap (2 * out) + 1) else IntKind.u64.wrap (2 * out))) := HE.out
      clear hA hB e0
      obtain ⟨⟨hc0, hc1⟩, hc2, hc3⟩ := HM.cells
      have hlt := blk_lt HM.bk'
      have hlt2 := blk_lt HM.bk
      cases ha : hasN a0_1 n <;> cases hb0 : hasN a1_1 n <;> cases a2
      · have HA' : Hid (jalousieref02_Has.f a0_0 a0_1 n = some false) := by show _ = _; rw [HA.out, ha]
        have HB' : Hid (jalousieref02_Has.f a1_0 a1_1 n = some false) := by show _ = _; rw [HB.out, hb0]
        have HS : Hid (pickN (pickB a0_1 a1_1 false) 64 0 = pickN (pickB a0_1 a1_1 false) n (IntKind.u64.wrap (2 * out))) := by show _ = _; rw [hstep.out]; simp [pickB, ha, hb0]
        clear hstep ha hb0 HA HB
        go_wp2_with (first | (go_at_call 53; (first | ((with_reducible refine (jalousieref02_Has.calls a0_0 a0_1 n false _ HA'.out).mono ?_); rintro e w1 ⟨rfl, hb⟩; have HM := HM.step hb; have hlt := blk_lt HM.bk'; have hlt2 := blk_lt HM.bk; obtain ⟨⟨hc0, hc1⟩, hc2, hc3⟩ := HM.cells; clear hb) | ((with_reducible refine (jalousieref02_Has.calls a1_0 a1_1 n false _ HB'.out).mono ?_); rintro e w1 ⟨rfl, hb⟩; have HM := HM.step hb; have hlt := blk_lt HM.bk'; have hlt2 := blk_lt HM.bk; obtain ⟨⟨hc0, hc1⟩, hc2, hc3⟩ := HM.cells; clear hb))))
        go_roundw
        case rel => exact ⟨n, _, by omega, rfl, rfl, ⟨HS.out⟩, HM⟩
        case measure => simp [intOf]
      · have HA' : Hid (jalousieref02_Has.f a0_0 a0_1 n = some false) := by show _ = _; rw [HA.out, ha]
        have HB' : Hid (jalousieref02_Has.f a1_0 a1_1 n = some false) := by show _ = _; rw [HB.out, hb0]
        have HS : Hid (pickN (pickB a0_1 a1_1 true) 64 0 = pickN (pickB a0_1 a1_1 true) n (IntKind.u64.wrap (2 * out))) := by show _ = _; rw [hstep.out]; simp [pickB, ha, hb0]
        clear hstep ha hb0 HA HB
        go_wp2_with (first | (go_at_call 53; (first | ((with_reducible refine (jalousieref02_Has.calls a0_0 a0_1 n false _ HA'.out).mono ?_); rintro e w1 ⟨rfl, hb⟩; have HM := HM.step hb; have hlt := blk_lt HM.bk'; have hlt2 := blk_lt HM.bk; obtain ⟨⟨hc0, hc1⟩, hc2, hc3⟩ := HM.cells; clear hb) | ((with_reducible refine (jalousieref02_Has.calls a1_0 a1_1 n false _ HB'.out).mono ?_); rintro e w1 ⟨rfl, hb⟩; have HM := HM.step hb; have hlt := blk_lt HM.bk'; have hlt2 := blk_lt HM.bk; obtain ⟨⟨hc0, hc1⟩, hc2, hc3⟩ := HM.cells; clear hb))))
        go_roundw
        case rel => exact ⟨n, _, by omega, rfl, rfl, ⟨HS.out⟩, HM⟩
        case measure => simp [intOf]
      · have HA' : Hid (jalousieref02_Has.f a0_0 a0_1 n = some false) := by show _ = _; rw [HA.out, ha]
        have HB' : Hid (jalousieref02_Has.f a1_0 a1_1 n = some true) := by show _ = _; rw [HB.out, hb0]
        have HS : Hid (pickN (pickB a0_1 a1_1 false) 64 0 = pickN (pickB a0_1 a1_1 false) n (IntKind.u64.wrap (IntKind.u64.wrap (2 * out) + 1))) := by show _ = _; rw [hstep.out]; simp [pickB, ha, hb0]
        clear hstep ha hb0 HA HB
        go_wp2_with (first | (go_at_call 53; (first | ((with_reducible refine (jalousieref02_Has.calls a0_0 a0_1 n false _ HA'.out).mono ?_); rintro e w1 ⟨rfl, hb⟩; have HM := HM.step hb; have hlt := blk_lt HM.bk'; have hlt2 := blk_lt HM.bk; obtain ⟨⟨hc0, hc1⟩, hc2, hc3⟩ := HM.cells; clear hb) | ((with_reducible refine (jalousieref02_Has.calls a1_0 a1_1 n true _ HB'.out).mono ?_); rintro e w1 ⟨rfl, hb⟩; have HM := HM.step hb; have hlt := blk_lt HM.bk'; have hlt2 := blk_lt HM.bk; obtain ⟨⟨hc0, hc1⟩, hc2, hc3⟩ := HM.cells; clear hb))))
        go_roundw
        case rel => exact ⟨n, _, by omega, rfl, rfl, ⟨HS.out⟩, HM⟩
        case measure => simp [intOf]
      · have HA' : Hid (jalousieref02_Has.f a0_0 a0_1 n = some false) := by show _ = _; rw [HA.out, ha]
        have HB' : Hid (jalousieref02_Has.f a1_0 a1_1 n = some true) := by show _ = _; rw [HB.out, hb0]
        have HS : Hid (pickN (pickB a0_1 a1_1 true) 64 0 = pickN (pickB a0_1 a1_1 true) n (IntKind.u64.wrap (2 * out))) := by show _ = _; rw [hstep.out]; simp [pickB, ha, hb0]
        clear hstep ha hb0 HA HB
        go_wp2_with (first | (go_at_call 53; (first | ((with_reducible refine (jalousieref02_Has.calls a0_0 a0_1 n false _ HA'.out).mono ?_); rintro e w1 ⟨rfl, hb⟩; have HM := HM.step hb; have hlt := blk_lt HM.bk'; have hlt2 := blk_lt HM.bk; obtain ⟨⟨hc0, hc1⟩, hc2, hc3⟩ := HM.cells; clear hb) | ((with_reducible refine (jalousieref02_Has.calls a1_0 a1_1 n true _ HB'.out).mono ?_); rintro e w1 ⟨rfl, hb⟩; have HM := HM.step hb; have hlt := blk_lt HM.bk'; have hlt2 := blk_lt HM.bk; obtain ⟨⟨hc0, hc1⟩, hc2, hc3⟩ := HM.cells; clear hb))))
        go_roundw
        case rel => exact ⟨n, _, by omega, rfl, rfl, ⟨HS.out⟩, HM⟩
        case measure => simp [intOf]
      · have HA' : Hid (jalousieref02_Has.f a0_0 a0_1 n = some true) := by show _ = _; rw [HA.out, ha]
        have HB' : Hid (jalousieref02_Has.f a1_0 a1_1 n = some false) := by show _ = _; rw [HB.out, hb0]
        have HS : Hid (pickN (pickB a0_1 a1_1 false) 64 0 = pickN (pickB a0_1 a1_1 false) n (IntKind.u64.wrap (IntKind.u64.wrap (2 * out) + 1))) := by show _ = _; rw [hstep.out]; simp [pickB, ha, hb0]
        clear hstep ha hb0 HA HB
        go_wp2_with (first | (go_at_call 53; (first | ((with_reducible refine (jalousieref02_Has.calls a0_0 a0_1 n true _ HA'.out).mono ?_); rintro e w1 ⟨rfl, hb⟩; have HM := HM.step hb; have hlt := blk_lt HM.bk'; have hlt2 := blk_lt HM.bk; obtain ⟨⟨hc0, hc1⟩, hc2, hc3⟩ := HM.cells; clear hb) | ((with_reducible refine (jalousieref02_Has.calls a1_0 a1_1 n false _ HB'.out).mono ?_); rintro e w1 ⟨rfl, hb⟩; have HM := HM.step hb; have hlt := blk_lt HM.bk'; have hlt2 := blk_lt HM.bk; obtain ⟨⟨hc0, hc1⟩, hc2, hc3⟩ := HM.cells; clear hb))))
        go_roundw
        case rel => exact ⟨n, _, by omega, rfl, rfl, ⟨HS.out⟩, HM⟩
        case measure => simp [intOf]
      · have HA' : Hid (jalousieref02_Has.f a0_0 a0_1 n = some true) := by show _ = _; rw [HA.out, ha]
        have HB' : Hid (jalousieref02_Has.f a1_0 a1_1 n = some false) := by show _ = _; rw [HB.out, hb0]
        have HS : Hid (pickN (pickB a0_1 a1_1 true) 64 0 = pickN (pickB a0_1 a1_1 true) n (IntKind.u64.wrap (2 * out))) := by show _ = _; rw [hstep.out]; simp [pickB, ha, hb0]
        clear hstep ha hb0 HA HB
        go_wp2_with (first | (go_at_call 53; (first | ((with_reducible refine (jalousieref02_Has.calls a0_0 a0_1 n true _ HA'.out).mono ?_); rintro e w1 ⟨rfl, hb⟩; have HM := HM.step hb; have hlt := blk_lt HM.bk'; have hlt2 := blk_lt HM.bk; obtain ⟨⟨hc0, hc1⟩, hc2, hc3⟩ := HM.cells; clear hb) | ((with_reducible refine (jalousieref02_Has.calls a1_0 a1_1 n false _ HB'.out).mono ?_); rintro e w1 ⟨rfl, hb⟩; have HM := HM.step hb; have hlt := blk_lt HM.bk'; have hlt2 := blk_lt HM.bk; obtain ⟨⟨hc0, hc1⟩, hc2, hc3⟩ := HM.cells; clear hb))))
        go_roundw
        case rel => exact ⟨n, _, by omega, rfl, rfl, ⟨HS.out⟩, HM⟩
        case measure => simp [intOf]
      · have HA' : Hid (jalousieref02_Has.f a0_0 a0_1 n = some true) := by show _ = _; rw [HA.out, ha]
        have HB' : Hid (jalousieref02_Has.f a1_0 a1_1 n = some true) := by show _ = _; rw [HB.out, hb0]
        have HS : Hid (pickN (pickB a0_1 a1_1 false) 64 0 = pickN (pickB a0_1 a1_1 false) n (IntKind.u64.wrap (IntKind.u64.wrap (2 * out) + 1))) := by show _ = _; rw [hstep.out]; simp [pickB, ha, hb0]
        clear hstep ha hb0 HA HB
        go_wp2_with (first | (go_at_call 53; (first | ((with_reducible refine (jalousieref02_Has.calls a0_0 a0_1 n true _ HA'.out).mono ?_); rintro e w1 ⟨rfl, hb⟩; have HM := HM.step hb; have hlt := blk_lt HM.bk'; have hlt2 := blk_lt HM.bk; obtain ⟨⟨hc0, hc1⟩, hc2, hc3⟩ := HM.cells; clear hb) | ((with_reducible refine (jalousieref02_Has.calls a1_0 a1_1 n true _ HB'.out).mono ?_); rintro e w1 ⟨rfl, hb⟩; have HM := HM.step hb; have hlt := blk_lt HM.bk'; have hlt2 := blk_lt HM.bk; obtain ⟨⟨hc0, hc1⟩, hc2, hc3⟩ := HM.cells; clear hb))))
        go_roundw
        case rel => exact ⟨n, _, by omega, rfl, rfl, ⟨HS.out⟩, HM⟩
        case measure => simp [intOf]
      · have HA' : Hid (jalousieref02_Has.f a0_0 a0_1 n = some true) := by show _ = _; rw [HA.out, ha]
        have HB' : Hid (jalousieref02_Has.f a1_0 a1_1 n = some true) := by show _ = _; rw [HB.out, hb0]
        have HS : Hid (pickN (pickB a0_1 a1_1 true) 64 0 = pickN (pickB a0_1 a1_1 true) n (IntKind.u64.wrap (IntKind.u64.wrap (2 * out) + 1))) := by show _ = _; rw [hstep.out]; simp [pickB, ha, hb0]
        clear hstep ha hb0 HA HB
        go_wp2_with (first | (go_at_call 53; (first | ((with_reducible refine (jalousieref02_Has.calls a0_0 a0_1 n true _ HA'.out).mono ?_); rintro e w1 ⟨rfl, hb⟩; have HM := HM.step hb; have hlt := blk_lt HM.bk'; have hlt2 := blk_lt HM.bk; obtain ⟨⟨hc0, hc1⟩, hc2, hc3⟩ := HM.cells; clear hb) | ((with_reducible refine (jalousieref02_Has.calls a1_0 a1_1 n true _ HB'.out).mono ?_); rintro e w1 ⟨rfl, hb⟩; have HM := HM.step hb; have hlt := blk_lt HM.bk'; have hlt2 := blk_lt HM.bk; obtain ⟨⟨hc0, hc1⟩, hc2, hc3⟩ := HM.cells; clear hb))))
        go_roundw
        case rel => exact ⟨n, _, by omega, rfl, rfl, ⟨HS.out⟩, HM⟩
        case measure => simp [intOf]
end Go.Proofs.YtlhodalfbmdnnaaDoor.P

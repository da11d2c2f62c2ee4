/- what this claim needs of the words and the printed functions; conditions: as each statement says -/
import Derived.Test.YthaimkdnddmokaaDoorWireRequestsGHWBytes
import Derived.Laws.Bits64b
import Derived.Lib.TrailingZeros
import Derived.Lib.Hide
namespace Go.Proofs.YthaimkdnddmokaaDoor.P
open Go.RowKit Go.Proofs.YthaimkdnddmokaaDoorW.PrintWords Go.Proofs.YthaimkdnddmokaaDoorW.PrintLast Go.Proofs.YthaimkdnddmokaaDoorW.PrintMore
set_option linter.unusedVariables false
set_option linter.unusedSimpArgs false
def bits_TrailingZeros64.f (a0 : Int) : Option Int := if 0 ≤ a0 then (if a0 < 18446744073709551616 then some (Lib.ctz 64 a0.toNat) else none) else none
theorem tz_key (x a : Nat) (hx : x < 18446744073709551616) (hx0 : x ≠ 0) (hlow : x &&& (18446744073709551616 - x) = a) :
    IntKind.u64.wrap (bits BinOp.and IntKind.u64 (x : Int) (IntKind.u64.wrap (-(x : Int))) * 285870213051353865) / 288230376151711744 = ((a * 285870213051353865 % 18446744073709551616 / 288230376151711744 : Nat) : Int) := by
  have e1 : IntKind.u64.wrap (-(x : Int)) = ((18446744073709551616 - x : Nat) : Int) := by rw [IntKind.wrap_u64]; omega
  rw [e1, bits_and_u64_nat x _ hx (by omega), hlow, IntKind.wrap_u64]
  omega
set_option maxHeartbeats 1000000 in
theorem tz_core (x k idx : Nat) (w : World) (hx0 : ((x : Int) == 0) = false)
    (key : IntKind.u64.wrap (bits BinOp.and IntKind.u64 (x : Int) (IntKind.u64.wrap (-(x : Int))) * 285870213051353865) / 288230376151711744 = (idx : Int))
    (hi : idx < 64) (hk : k < 64) (hcell : w.cell? ⟨3, idx, none⟩ = some (.int .u8 k)) :
    Calls Tryd.prog 72 #[.int .u64 x] w fun e w' => e = .returned (.int .i64 k) ∧ Drawn0 w w' := by
  go_enter Tryd.func72, Tryd.ntmps72
  go_wp2_with (simp only [key])
  go_ret
  exact ⟨rfl, Drawn0.refl _⟩
theorem tz_zero (w : World) :
    Calls Tryd.prog 72 #[.int .u64 0] w fun e w' => e = .returned (.int .i64 64) ∧ Drawn0 w w' := by
  go_enter Tryd.func72, Tryd.ntmps72
  go_wp2
  go_ret
  exact ⟨rfl, Drawn0.refl _⟩
theorem bits_TrailingZeros64.calls (a0 : Int) (r : Int) (w : World) (hT : Tabs w) (h : bits_TrailingZeros64.f a0 = some r) :
    Calls Tryd.prog 72 #[.int .u64 a0] w fun e w' => e = .returned (.int .i64 r) ∧ Drawn0 w w' := by
  unfold bits_TrailingZeros64.f at h
  by_cases h0 : 0 ≤ a0
  case neg => rw [if_neg h0] at h; cases h
  by_cases h1 : a0 < 18446744073709551616
  case neg => rw [if_pos h0, if_neg h1] at h; cases h
  rw [if_pos h0, if_pos h1] at h
  obtain rfl := Option.some.inj h
  obtain ⟨x, rfl⟩ := Int.eq_ofNat_of_zero_le h0
  have hx : x < 18446744073709551616 := by omega
  rw [Int.toNat_natCast]
  by_cases hx0 : x = 0
  · subst hx0
    exact tz_zero w
  · obtain ⟨hlow, hk⟩ := Lib.lowest_bit 64 x hx0 hx
    obtain ⟨hi, htab⟩ := Lib.deBruijn64_at _ hk
    have hcell := hT.deb _ hi
    rw [htab] at hcell
    exact tz_core x _ _ w (by simp; omega) (tz_key x _ hx hx0 hlow) hi hk hcell
end Go.Proofs.YthaimkdnddmokaaDoor.P
namespace Go.Proofs.YthaimkdnddmokaaDoor.P
open Go.RowKit Go.Proofs.YthaimkdnddmokaaDoorW.PrintWords Go.Proofs.YthaimkdnddmokaaDoorW.PrintLast Go.Proofs.YthaimkdnddmokaaDoorW.PrintMore
set_option linter.unusedVariables false
set_option linter.unusedSimpArgs false
/-- the digits of a number, f of them at the most -/
def decF : Nat → Nat → List UInt8
  | 0, _ => []
  | f + 1, n => if n < 10 then [UInt8.ofNat (48 + n)] else decF f (n / 10) ++ [UInt8.ofNat (48 + n % 10)]
def decOf (n : Int) : ByteArray := if n < 0 then ⟨#[63]⟩ else if 2147483647 < n then ⟨#[63]⟩ else ⟨(decF 10 n.toNat).toArray⟩
def text_Decimal.f (a0 : Int) : Option ByteArray := some (decOf a0)
def decInts (ds : List UInt8) : List Int := ds.map fun d => (d.toNat : Int)
/-- j: how many places are free; m: what is left; ds: the digits that stand -/
def DecRel (w : World) (n : Nat) (t0 t4 : Value) (w' : World) : Prop := ∃ (j m : Nat) (cs : Array Value) (ds : List UInt8), t0 = .int .i64 m ∧ t4 = .int .i64 ((j : Int) + 1) ∧ j ≤ 9 ∧ m < 10 ^ (j + 1) ∧ m ≤ 2147483647 ∧
   decF 10 n = decF (j + 1) m ++ ds ∧ ds.length + j = 9 ∧ (∀ i, i < ds.length → cs[j + 1 + i]? = some (.int .u8 ((decInts ds).getD i 0))) ∧ w'.heap[w.heap.size]? = some (.cells cs 78 (0, 0)) ∧ cs.size = 10 ∧ Below w.heap.size w w'
theorem dec_str (ds : List UInt8) : strOfNums (decInts ds) = ⟨ds.toArray⟩ := by
  unfold strOfNums decInts
  rw [List.map_map]
  congr 2
  conv => rhs; rw [← List.map_id ds]
  apply List.map_congr_left
  intro x _
  simp
set_option maxRecDepth 100000 in
theorem dec_slice (b j : Nat) (hj : j ≤ 9) (W : World) : (Instr.sliceAt 78 (.pointer (some ⟨b, 0, none⟩)) (some (.int .i64 (j : Int))) none none).run Tryd.prog W = .ok (.slice (some ⟨b, j, none⟩) (10 - j) (10 - j)) W := by
  have hal : Tryd.prog.arrayLen 78 = 10 := by kernel_rfl
  rw [run_sliceAt_array_l W 78 ⟨b, 0, none⟩ (by kernel_rfl) .i64 (j : Int) (by omega) (by rw [hal]; omega), hal, show Tryd.prog.elem 78 = 5 by kernel_rfl]
  have hs : (sizeOf 5).run Tryd.prog W = .ok 1 W := by rfl
  rw [hs]
  simp only [Result.andThen, slicedAt, Int.toNat_natCast, Nat.mul_one, add_plain]
  rw [if_neg (by omega)]
theorem dec_new (w : World) (o : Obj) : (w.alloc o).heap[w.heap.size]? = some o := by
  show (w.heap.push o)[w.heap.size]? = some o
  simp
set_option maxHeartbeats 1000000 in
theorem dec_in (n : Nat) (h1 : n ≤ 2147483647) (w : World) :
   Calls Tryd.prog 38 #[.int .i64 n] w fun e w' => e = .returned (.string ⟨(decF 10 n).toArray⟩) ∧ Below w.heap.size w w' := by
  have hd1 : decide ((n : Int) < 0) = false := by simp
  have hd2 : decide (2147483647 < (n : Int)) = false := by simp; omega
  have hd3 : decide (2147483647 < n) = false := by simp; omega
  go_enter Tryd.func38, Tryd.ntmps38
  go_wp2
  go_loopw [0, 4] (fun t0 t4 w' => DecRel w n t0 t4 w') (fun t0 t4 w' => (intOf t4).toNat)
  case atStart => exact ⟨9, n, #[.int .u8 0, .int .u8 0, .int .u8 0, .int .u8 0, .int .u8 0, .int .u8 0, .int .u8 0, .int .u8 0, .int .u8 0, .int .u8 0], [], rfl, rfl, by omega, by omega, h1, by simp, rfl, fun i h => absurd h (by simp), dec_new _ _, rfl, below_alloc (Below.refl _ _) _⟩
  case round =>
    obtain ⟨j, m, cs, ds, rfl, rfl, hj, hm, hmm, hdec, hds, hcells, hbl, hcs, hB⟩ := hrel
    have p1 : (j : Int) < 10 := by omega
    have p2 : (m : Int) ≤ 2147483647 := by omega
    have hlt := hB.size
    have hwr : w.heap.size < wr.heap.size := blk_lt hbl
    obtain ⟨old, hold⟩ : ∃ v, cs[j]? = some v := ⟨cs[j]'(by omega), by simp⟩
    have hcj : wr.cell? ⟨w.heap.size, j, none⟩ = some old := by rw [blk_cell hbl]; exact hold
    have hfj : wr.frozen? ⟨w.heap.size, j, none⟩ = false := blk_frozen hbl j
    have hmod : (48 : Int) + (m : Int) % 10 = ((UInt8.ofNat (48 + m % 10)).toNat : Int) := by
      rw [UInt8.toNat_ofNat']; omega
    have HD := Lib.hid hdec
    have HC := Lib.hid hcells
    have HB := Lib.hid hbl
    have HS := Lib.hid hcs
    have HL := Lib.hid hds
    have HM := Lib.hid hmod
    clear hdec hcells hbl hcs hds hold hmod
    have hq : (m : Int) / 10 = ((m / 10 : Nat) : Int) := by omega
    have HQ := Lib.hid hq
    by_cases hz : m < 10
    · have hz1 : ((m : Int) / 10 == 0) = true := by simp; omega
      have hconv : ∀ c, (convert 22 9 (.slice (some ⟨w.heap.size, j, none⟩) (10 - j) c)).run Tryd.prog (wr.setCell ⟨w.heap.size, j, none⟩ (.int .u8 (48 + (m : Int) % 10))) = .ok (.string ⟨(decF 10 n).toArray⟩) (wr.setCell ⟨w.heap.size, j, none⟩ (.int .u8 (48 + (m : Int) % 10))) := by
        intro c
        have he : decF 10 n = UInt8.ofNat (48 + m % 10) :: ds := by
          rw [HD.out]; simp only [decF]; rw [if_pos hz, Nat.mod_eq_of_lt hz]; rfl
        have hL := HL.out
        have hlen : (decInts (decF 10 n)).length = 10 - j := by rw [he]; simp [decInts]; omega
        rw [run_convert_bytes_arg (w := wr.setCell ⟨w.heap.size, j, none⟩ (.int .u8 (48 + (m : Int) % 10))) 22 5 Tryd.underlying22 Tryd.underlying5 w.heap.size j (10 - j) c (decInts (decF 10 n)) hlen ?_ 9 Tryd.underlying9, dec_str]
        intro i hi
        rw [blk_cell (blk_set HB.out j _), he]
        by_cases h0 : i = 0
        · subst h0
          rw [Nat.add_zero, Array.getElem?_setIfInBounds]
          rw [if_pos rfl, if_pos (by have := HS.out; omega), HM.out]
          rfl
        · obtain ⟨i, rfl⟩ : ∃ z, i = z + 1 := ⟨i - 1, by omega⟩
          rw [Array.getElem?_setIfInBounds, if_neg (by omega)]
          have := HC.out i (by omega)
          rw [show j + (i + 1) = j + 1 + i by omega, this]
          simp [decInts]
      have hsl := dec_slice w.heap.size j hj
      clear hq
      go_wp2
      go_ret
      exact ⟨rfl, below_set hB (Nat.le_refl _)⟩
    · have hz1 : ((m : Int) / 10 == 0) = false := by simp; omega
      clear hq
      go_wp2
      go_roundw
      case rel =>
        have hj1 : 1 ≤ j := by
          rcases j with _ | j
          · simp at hm; omega
          · omega
        obtain ⟨j, rfl⟩ : ∃ z, j = z + 1 := ⟨j - 1, by omega⟩
        have hL := HL.out
        refine ⟨j, m / 10, _, UInt8.ofNat (48 + m % 10) :: ds, by rw [HQ.out], by go_num, by omega, ?_, by omega, ?_, by simp; omega, ?_, blk_set HB.out _ _, by simp; exact HS.out, below_set hB (Nat.le_refl _)⟩
        · have : m < 10 ^ (j + 1) * 10 := by rw [← Nat.pow_succ]; exact hm
          omega
        · rw [HD.out]
          conv => lhs; rw [decF]
          rw [if_neg hz, List.append_assoc]
          rfl
        · intro i hi
          rw [Array.getElem?_setIfInBounds]
          by_cases h0 : i = 0
          · subst h0
            rw [if_pos (by omega), if_pos (by have := HS.out; omega), HM.out]
            rfl
          · obtain ⟨i, rfl⟩ : ∃ z, i = z + 1 := ⟨i - 1, by omega⟩
            rw [if_neg (by omega)]
            have := HC.out i (by simp at hi; omega)
            rw [show j + 1 + (i + 1) = j + 1 + 1 + i by omega, this]
            simp [decInts]
      case measure => simp [intOf]
set_option maxHeartbeats 1000000 in
theorem dec_out (n : Int) (h : n < 0 ∨ 2147483647 < n) (w : World) :
   Calls Tryd.prog 38 #[.int .i64 n] w fun e w' => e = .returned (.string ⟨#[63]⟩) ∧ Below w.heap.size w w' := by
  by_cases h0 : n < 0
  · have hd1 : decide (n < 0) = true := by simpa using h0
    go_enter Tryd.func38, Tryd.ntmps38
    go_wp2
    go_ret
    exact ⟨rfl, Below.refl _ _⟩
  · have hd1 : decide (n < 0) = false := by simpa using h0
    have hd2 : decide (2147483647 < n) = true := by simp; omega
    go_enter Tryd.func38, Tryd.ntmps38
    go_wp2
    go_ret
    exact ⟨rfl, Below.refl _ _⟩
theorem text_Decimal.calls (a0 : Int) (r : ByteArray) (w : World) (h : text_Decimal.f a0 = some r) :
    Calls Tryd.prog 38 #[.int .i64 a0] w fun e w' => e = .returned (.string r) ∧ Below w.heap.size w w' := by
  simp only [text_Decimal.f, Option.some.injEq] at h
  subst h
  unfold decOf
  by_cases h0 : a0 < 0
  · rw [if_pos h0]; exact dec_out a0 (.inl h0) w
  · rw [if_neg h0]
    by_cases h1 : 2147483647 < a0
    · rw [if_pos h1]; exact dec_out a0 (.inr h1) w
    · rw [if_neg h1]
      obtain ⟨n, rfl⟩ := Int.eq_ofNat_of_zero_le (show 0 ≤ a0 by omega)
      exact dec_in n (by omega) w
end Go.Proofs.YthaimkdnddmokaaDoor.P

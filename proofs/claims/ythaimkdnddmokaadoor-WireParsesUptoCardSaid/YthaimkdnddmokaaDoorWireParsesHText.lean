/- text.Decimal's contract, by hand (its digits stand in an array); condition: none. -/
import Derived.Test.YthaimkdnddmokaaDoorWireParsesGHTabs
import Derived.Lib.Hide
namespace Go.Proofs.YthaimkdnddmokaaDoor.P
open Go.RowKit Go.Proofs.YthaimkdnddmokaaDoorW.PrintWords Go.Proofs.YthaimkdnddmokaaDoorW.PrintLast Go.Proofs.YthaimkdnddmokaaDoorW.PrintMore
set_option linter.unusedVariables false
set_option linter.unusedSimpArgs false
/-- the digits of a number, f of them at the most -/
def decF : Nat → Nat → List UInt8
  | 0, _ => []
  | f + 1, n => if n < 10 then [UInt8.ofNat (48 + n)] else decF f (n / 10) ++ [UInt8.ofNat (48 + n % 10)]
def decOf (n : Int) : ByteArray := if n < 0 then ⟨#[63]⟩ else if 2147483647 < n then ⟨#[63]⟩ else ⟨(decF 10 n.toNat).toArray⟩
def text_Decimal.f (a0 : Int) : Option ByteArray := some (decOf a0)
def decInts (ds : List UInt8) : List Int := ds.map fun d => (d.toNat : Int)
/-- j: how many places are free; m: what is left; ds: the digits that stand -/
def DecRel (w : World) (n : Nat) (t0 t4 : Value) (w' : World) : Prop := ∃ (j m : Nat) (cs : Array Value) (ds : List UInt8), t0 = .int .i64 m ∧ t4 = .int .i64 ((j : Int) + 1) ∧ j ≤ 9 ∧ m < 10 ^ (j + 1) ∧ m ≤ 2147483647 ∧
   decF 10 n = decF (j + 1) m ++ ds ∧ ds.length + j = 9 ∧ (∀ i, i < ds.length → cs[j + 1 + i]? = some (.int .u8 ((decInts ds).getD i 0))) ∧ w'.heap[w.heap.size]? = some (.cells cs 78 (0, 0)) ∧ cs.size = 10 ∧ Below w.heap.size w w'
theorem dec_str (ds : List UInt8) : strOfNums (decInts ds) = ⟨ds.toArray⟩ := by
  unfold strOfNums decInts
  rw [List.map_map]
  congr 2
  conv => rhs; rw [← List.map_id ds]
  apply List.map_congr_left
  intro x _
  simp
set_option maxRecDepth 100000 in
theorem dec_slice (b j : Nat) (hj : j ≤ 9) (W : World) : (Instr.sliceAt 78 (.pointer (some ⟨b, 0, none⟩)) (some (.int .i64 (j : Int))) none none).run Tryd.prog W = .ok (.slice (some ⟨b, j, none⟩) (10 - j) (10 - j)) W := by
  have hal : Tryd.prog.arrayLen 78 = 10 := by kernel_rfl
  rw [run_sliceAt_array_l W 78 ⟨b, 0, none⟩ (by kernel_rfl) .i64 (j : Int) (by omega) (by rw [hal]; omega), hal, show Tryd.prog.elem 78 = 5 by kernel_rfl]
  have hs : (sizeOf 5).run Tryd.prog W = .ok 1 W := by rfl
  rw [hs]
  simp only [Result.andThen, slicedAt, Int.toNat_natCast, Nat.mul_one, add_plain]
  rw [if_neg (by omega)]
theorem dec_new (w : World) (o : Obj) : (w.alloc o).heap[w.heap.size]? = some o := by
  show (w.heap.push o)[w.heap.size]? = some o
  simp
set_option maxHeartbeats 1000000 in
theorem dec_in (n : Nat) (h1 : n ≤ 2147483647) (w : World) :
   Calls Tryd.prog 38 #[.int .i64 n] w fun e w' => e = .returned (.string ⟨(decF 10 n).toArray⟩) ∧ Below w.heap.size w w' := by
  have hd1 : decide ((n : Int) < 0) = false := by simp
  have hd2 : decide (2147483647 < (n : Int)) = false := by simp; omega
  have hd3 : decide (2147483647 < n) = false := by simp; omega
  go_enter Tryd.func38, Tryd.ntmps38
  go_wp2
  go_loopw [0, 4] (fun t0 t4 w' => DecRel w n t0 t4 w') (fun t0 t4 w' => (intOf t4).toNat)
  case atStart => exact ⟨9, n, #[.int .u8 0, .int .u8 0, .int .u8 0, .int .u8 0, .int .u8 0, .int .u8 0, .int .u8 0, .int .u8 0, .int .u8 0, .int .u8 0], [], rfl, rfl, by omega, by omega, h1, by simp, rfl, fun i h => absurd h (by simp), dec_new _ _, rfl, below_alloc (Below.refl _ _) _⟩
  case round =>
    obtain ⟨j, m, cs, ds, rfl, rfl, hj, hm, hmm, hdec, hds, hcells, hbl, hcs, hB⟩ := hrel
    have p1 : (j : Int) < 10 := by omega
    have p2 : (m : Int) ≤ 2147483647 := by omega
    have hlt := hB.size
    have hwr : w.heap.size < wr.heap.size := blk_lt hbl
    obtain ⟨old, hold⟩ : ∃ v, cs[j]? = some v := ⟨cs[j]'(by omega), by simp⟩
    have hcj : wr.cell? ⟨w.heap.size, j, none⟩ = some old := by rw [blk_cell hbl]; exact hold
    have hfj : wr.frozen? ⟨w.heap.size, j, none⟩ = false := blk_frozen hbl j
    have hmod : (48 : Int) + (m : Int) % 10 = ((UInt8.ofNat (48 + m % 10)).toNat : Int) := by
      rw [UInt8.toNat_ofNat']; omega
    have HD := Lib.hid hdec
    have HC := Lib.hid hcells
    have HB := Lib.hid hbl
    have HS := Lib.hid hcs
    have HL := Lib.hid hds
    have HM := Lib.hid hmod
    clear hdec hcells hbl hcs hds hold hmod
    have hq : (m : Int) / 10 = ((m / 10 : Nat) : Int) := by omega
    have HQ := Lib.hid hq
    by_cases hz : m < 10
    · have hz1 : ((m : Int) / 10 == 0) = true := by simp; omega
      have hconv : ∀ c, (convert 22 9 (.slice (some ⟨w.heap.size, j, none⟩) (10 - j) c)).run Tryd.prog (wr.setCell ⟨w.heap.size, j, none⟩ (.int .u8 (48 + (m : Int) % 10))) = .ok (.string ⟨(decF 10 n).toArray⟩) (wr.setCell ⟨w.heap.size, j, none⟩ (.int .u8 (48 + (m : Int) % 10))) := by
        intro c
        have he : decF 10 n = UInt8.ofNat (48 + m % 10) :: ds := by
          rw [HD.out]; simp only [decF]; rw [if_pos hz, Nat.mod_eq_of_lt hz]; rfl
        have hL := HL.out
        have hlen : (decInts (decF 10 n)).length = 10 - j := by rw [he]; simp [decInts]; omega
        rw [run_convert_bytes_arg (w := wr.setCell ⟨w.heap.size, j, none⟩ (.int .u8 (48 + (m : Int) % 10))) 22 5 Tryd.underlying22 Tryd.underlying5 w.heap.size j (10 - j) c (decInts (decF 10 n)) hlen ?_ 9 Tryd.underlying9, dec_str]
        intro i hi
        rw [blk_cell (blk_set HB.out j _), he]
        by_cases h0 : i = 0
        · subst h0
          rw [Nat.add_zero, Array.getElem?_setIfInBounds]
          rw [if_pos rfl, if_pos (by have := HS.out; omega), HM.out]
          rfl
        · obtain ⟨i, rfl⟩ : ∃ z, i = z + 1 := ⟨i - 1, by omega⟩
          rw [Array.getElem?_setIfInBounds, if_neg (by omega)]
          have := HC.out i (by omega)
          rw [show j + (i + 1) = j + 1 + i by omega, this]
          simp [decInts]
      have hsl := dec_slice w.heap.size j hj
      clear hq
      go_wp2
      go_ret
      exact ⟨rfl, below_set hB (Nat.le_refl _)⟩
    · have hz1 : ((m : Int) / 10 == 0) = false := by simp; omega
      clear hq
      go_wp2
      go_roundw
      case rel =>
        have hj1 : 1 ≤ j := by
          rcases j with _ | j
          · simp at hm; omega
          · omega
        obtain ⟨j, rfl⟩ : ∃ z, j = z + 1 := ⟨j - 1, by omega⟩
        have hL := HL.out
        refine ⟨j, m / 10, _, UInt8.ofNat (48 + m % 10) :: ds, by rw [HQ.out], by go_num, by omega, ?_, by omega, ?_, by simp; omega, ?_, blk_set HB.out _ _, by simp; exact HS.out, below_set hB (Nat.le_refl _)⟩
        · have : m < 10 ^ (j + 1) * 10 := by rw [← Nat.pow_succ]; exact hm
          omega
        · rw [HD.out]
          conv => lhs; rw [decF]
          rw [if_neg hz, List.append_assoc]
          rfl
        · intro i hi
          rw [Array.getElem?_setIfInBounds]
          by_cases h0 : i = 0
          · subst h0
            rw [if_pos (by omega), if_pos (by have := HS.out; omega), HM.out]
            rfl
          · obtain ⟨i, rfl⟩ : ∃ z, i = z + 1 := ⟨i - 1, by omega⟩
            rw [if_neg (by omega)]
            have := HC.out i (by simp at hi; omega)
            rw [show j + 1 + (i + 1) = j + 1 + 1 + i by omega, this]
            simp [decInts]
      case measure => simp [intOf]
set_option maxHeartbeats 1000000 in
theorem dec_out (n : Int) (h : n < 0 ∨ 2147483647 < n) (w : World) :
   Calls Tryd.prog 38 #[.int .i64 n] w fun e w' => e = .returned (.string ⟨#[63]⟩) ∧ Below w.heap.size w w' := by
  by_cases h0 : n < 0
  · have hd1 : decide (n < 0) = true := by simpa using h0
    go_enter Tryd.func38, Tryd.ntmps38
    go_wp2
    go_ret
    exact ⟨rfl, Below.refl _ _⟩
  · have hd1 : decide (n < 0) = false := by simpa using h0
    have hd2 : decide (2147483647 < n) = true := by simp; omega
    go_enter Tryd.func38, Tryd.ntmps38
    go_wp2
    go_ret
    exact ⟨rfl, Below.refl _ _⟩
theorem text_Decimal.calls (a0 : Int) (r : ByteArray) (w : World) (h : text_Decimal.f a0 = some r) :
    Calls Tryd.prog 38 #[.int .i64 a0] w fun e w' => e = .returned (.string r) ∧ Below w.heap.size w w' := by
  simp only [text_Decimal.f, Option.some.injEq] at h
  subst h
  unfold decOf
  by_cases h0 : a0 < 0
  · rw [if_pos h0]; exact dec_out a0 (.inl h0) w
  · rw [if_neg h0]
    by_cases h1 : 2147483647 < a0
    · rw [if_pos h1]; exact dec_out a0 (.inr h1) w
    · rw [if_neg h1]
      obtain ⟨n, rfl⟩ := Int.eq_ofNat_of_zero_le (show 0 ≤ a0 by omega)
      exact dec_in n (by omega) w
end Go.Proofs.YthaimkdnddmokaaDoor.P

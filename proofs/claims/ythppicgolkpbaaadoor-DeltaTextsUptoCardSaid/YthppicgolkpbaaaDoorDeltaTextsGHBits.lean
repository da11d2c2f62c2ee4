/- what this claim needs of the words and the printed functions; conditions: as each statement says -/
import Derived.Test.YthppicgolkpbaaaDoorDeltaTextsHStrings
import Derived.Test.YthppicgolkpbaaaDoorDeltaTextsPx0
import Derived.Lib.TrailingZeros
import Derived.Laws.Bits64b
import Derived.Lib.Hide
namespace Go.Proofs.YthppicgolkpbaaaDoor.P
open Go.RowKit Go.Proofs.YthppicgolkpbaaaDoorW.PrintWords Go.Proofs.YthppicgolkpbaaaDoorW.PrintLast Go.Proofs.YthppicgolkpbaaaDoorW.PrintMore
set_option linter.unusedVariables false
set_option linter.unusedSimpArgs false
/-- the first k pieces ahead of a byte c each, and what lies behind them whole -/
def splitNC (c : UInt8) (k : Nat) (l : List UInt8) : List (List UInt8) := Lib.splitK [c] 0 k l
def strings_SplitN.f (a0 a1 : ByteArray) (a2 : Int) : Option (List ByteArray) := if a1.size = 1 then (if 1 ≤ a2 ∧ a2 ≤ 4294967296 then (if a0.size < 4294967281 then some ((splitNC (a1.data.getD 0 0) (a2.toNat - 1) a0.data.toList).map baOf) else none) else none) else none
theorem own_pieces (W : World) (base : Nat) (t : TypeId) (xs : List ByteArray) (N : Nat) (hb : base ≤ W.heap.size) (hle : xs.length ≤ N) (hN : N ≤ maxLen) :
    (W.alloc (.cells (Lib.cellsOf xs N) t)).ownsRow base t 1 (.slice (some ⟨W.heap.size, 0, none⟩) xs.length N) xs.length (encs Value.string xs) := by
  refine ⟨by simp [encs], .inr ⟨W.heap.size, N, _, rfl, hb, heap_alloc_new W _, hle, hN, by rw [Lib.cellsOf_size hle, Nat.mul_one], ?_⟩⟩
  rw [Nat.mul_one, Lib.cellsOf, List.take_append_of_le_length (by simp), List.take_of_length_le (by simp)]
  rfl
theorem splitK_min (c : UInt8) (k : Nat) (s : ByteArray) : Lib.splitK [c] 0 (min (k + 1) (s.size + 1) - 1) s.data.toList = Lib.splitK [c] 0 k s.data.toList := by
  rcases Nat.lt_or_ge s.size k with h | h
  · have hc := count_le c s
    rw [show min (k + 1) (s.size + 1) - 1 = s.size by omega, splitK_one c s.size _ hc, splitK_one c k _ (by omega)]
  · rw [show min (k + 1) (s.size + 1) - 1 = k by omega]
set_option maxHeartbeats 1000000 in
theorem strings_SplitN.calls (a0 a1 : ByteArray) (a2 : Int) (r : List ByteArray) (w : World) (h : strings_SplitN.f a0 a1 a2 = some r) :
    Calls Tryd.prog 59 #[.string a0, .string a1, .int .i64 a2] w fun e w' => ∃ v0_ : Value, e = .returned v0_ ∧ Kd.R Kd.string 9 w' w.heap.size (fun _ => True) v0_ r ∧ Below w.heap.size w w' := by
  unfold strings_SplitN.f at h
  split at h
  case isFalse => cases h
  rename_i h1
  split at h
  case isFalse => cases h
  rename_i hn
  split at h
  case isFalse => cases h
  rename_i h2
  obtain rfl := Option.some.inj h
  clear h
  obtain ⟨k, rfl⟩ : ∃ k : Nat, a2 = ((k + 1 : Nat) : Int) := ⟨a2.toNat - 1, by omega⟩
  rw [show ((k + 1 : Nat) : Int).toNat - 1 = k by omega]
  generalize hc : a1.data.getD 0 0 = c
  have h1' := h1
  obtain rfl : a1 = ⟨#[c]⟩ := by rw [← hc]; exact one_sep a1 h1
  clear h1 h1' hc
  have hcount : Lib.countB a0 ⟨#[c]⟩ = a0.data.toList.count c := Lib.count_one c _
  have hN : ((min (k + 1) (a0.size + 1) : Nat) : Int) = min (if ((k + 1 : Nat) : Int) < 0 then (Lib.countB a0 ⟨#[c]⟩ : Int) + 1 else ((k + 1 : Nat) : Int)) ((a0.size : Int) + 1) := by rw [if_neg (by omega)]; omega
  have hI : ∀ (x : ByteArray) (cs : Array Value), x.size ≤ a0.size → Calls Tryd.prog 64 #[.string x, .string ⟨#[c]⟩] (w.alloc (.cells cs 9)) fun e w' => e = .returned (.int .i64 (Lib.indexB x ⟨#[c]⟩)) ∧ w' = w.alloc (.cells cs 9) := fun x cs _ =>
    (Any.strings_Index_one Tryd.lays143 x c _).mono fun e w' ⟨he, hw⟩ => ⟨by rw [he]; exact congrArg (fun z => Ending.returned (.int .i64 z)) (index_at_one _ _).symm, hw⟩
  have hC : Calls Tryd.prog 76 #[.string a0, .string ⟨#[c]⟩] w fun e w' => e = .returned (.int .i64 (Lib.countB a0 ⟨#[c]⟩)) ∧ w' = w :=
    (Any.strings_Count_one Tryd.lays138 a0 c w).mono fun e w' ⟨he, hw⟩ => ⟨by rw [he, hcount]; rfl, hw⟩
  have H := Any.strings_genSplit_core Tryd.lays221 (by kernel_rfl) a0 ⟨#[c]⟩ 0 ((k + 1 : Nat) : Int) (min (k + 1) (a0.size + 1)) w h2 (Nat.le_refl 1) (Nat.zero_le _) hI hC (by omega) (by omega) hN
  have hdat : Lib.splitB ⟨#[c]⟩ 0 (min (k + 1) (a0.size + 1) - 1) a0 = (splitNC c k a0.data.toList).map baOf := by
    have hd := Lib.splitB_data ⟨#[c]⟩ 0 (min (k + 1) (a0.size + 1) - 1) a0
    have hk : Lib.splitK (⟨#[c]⟩ : ByteArray).data.toList 0 (min (k + 1) (a0.size + 1) - 1) a0.data.toList = splitNC c k a0.data.toList := splitK_min c k a0
    rw [hk] at hd
    rw [← hd, List.map_map]
    conv => lhs; rw [← List.map_id (Lib.splitB ⟨#[c]⟩ 0 (min (k + 1) (a0.size + 1) - 1) a0)]
    exact List.map_congr_left fun x _ => (baOf_self x).symm
  have hlen := Lib.splitB_length_le ⟨#[c]⟩ 0 (min (k + 1) (a0.size + 1) - 1) a0
  rw [hdat] at H hlen
  generalize hxs : (splitNC c k a0.data.toList).map baOf = xs at H hlen ⊢
  have hNm : min (k + 1) (a0.size + 1) ≤ maxLen := by unfold maxLen; omega
  have hNl : xs.length ≤ min (k + 1) (a0.size + 1) := by omega
  generalize min (k + 1) (a0.size + 1) = N at H hlen hNm hNl
  have hown := own_pieces w w.heap.size 9 xs N (Nat.le_refl _) hNl hNm
  have H2 := Lib.hid H
  clear H hdat hcount hN hI hC hlen hNm hNl
  go_enter Tryd.func59, Tryd.ntmps59
  go_wp2_with (go_at_call 67; (refine (H2.out).mono ?_); rintro e w' ⟨rfl, rfl⟩)
  go_ret
  exact ⟨_, rfl, Kd.R_of_own hown (fun _ _ => trivial), below_alloc (Below.refl _ _) _⟩
end Go.Proofs.YthppicgolkpbaaaDoor.P
namespace Go.Proofs.YthppicgolkpbaaaDoor.P
open Go.RowKit Go.Proofs.YthppicgolkpbaaaDoorW.PrintWords Go.Proofs.YthppicgolkpbaaaDoorW.PrintLast Go.Proofs.YthppicgolkpbaaaDoorW.PrintMore
structure Tabs (w : World) : Prop where
  deb : ∀ j, j < 64 → w.cell? ⟨1, j, none⟩ = some (.int .u8 (Lib.deBruijn64tab.getD j 0))
theorem Tabs.below {w W : World} (h : Tabs w) (hb : Below w.heap.size w W) : Tabs W :=
  ⟨fun j hj => pw_cell_below hb (h.deb j hj)⟩
theorem Tabs.drawn {w W : World} (h : Tabs w) (hb : Drawn0 w W) : Tabs W := h.below hb.below
theorem cell_far6 {W : World} {g : Nat} {a : Addr} {v : Value} (h : a.block ≠ g) (hc : W.cell? a = some v) (u0 u1 u2 u3 u4 u5 : Value) :
    ((((((W.setCell ⟨g, 0, none⟩ u0).setCell ⟨g, 1, none⟩ u1).setCell ⟨g, 2, none⟩ u2).setCell ⟨g, 3, none⟩ u3).setCell ⟨g, 4, none⟩ u4).setCell ⟨g, 5, none⟩ u5).cell? a = some v :=
  (cell_far (p := ⟨g, 5, none⟩) h _).trans ((cell_far (p := ⟨g, 4, none⟩) h _).trans ((cell_far (p := ⟨g, 3, none⟩) h _).trans ((cell_far (p := ⟨g, 2, none⟩) h _).trans ((cell_far (p := ⟨g, 1, none⟩) h _).trans ((cell_far (p := ⟨g, 0, none⟩) h _).trans hc)))))
end Go.Proofs.YthppicgolkpbaaaDoor.P
namespace Go.Proofs.YthppicgolkpbaaaDoor.P
open Go.RowKit Go.Proofs.YthppicgolkpbaaaDoorW.PrintWords Go.Proofs.YthppicgolkpbaaaDoorW.PrintLast Go.Proofs.YthppicgolkpbaaaDoorW.PrintMore
set_option linter.unusedVariables false
set_option linter.unusedSimpArgs false
def bits_TrailingZeros64.f (a0 : Int) : Option Int := if 0 ≤ a0 then (if a0 < 18446744073709551616 then some (Lib.ctz 64 a0.toNat) else none) else none
theorem tz_key (x a : Nat) (hx : x < 18446744073709551616) (hx0 : x ≠ 0) (hlow : x &&& (18446744073709551616 - x) = a) :
    IntKind.u64.wrap (bits BinOp.and IntKind.u64 (x : Int) (IntKind.u64.wrap (-(x : Int))) * 285870213051353865) / 288230376151711744 = ((a * 285870213051353865 % 18446744073709551616 / 288230376151711744 : Nat) : Int) := by
  have e1 : IntKind.u64.wrap (-(x : Int)) = ((18446744073709551616 - x : Nat) : Int) := by rw [IntKind.wrap_u64]; omega
  rw [e1, bits_and_u64_nat x _ hx (by omega), hlow, IntKind.wrap_u64]
  omega
set_option maxHeartbeats 1000000 in
theorem tz_core (x k idx : Nat) (w : World) (hx0 : ((x : Int) == 0) = false)
    (key : IntKind.u64.wrap (bits BinOp.and IntKind.u64 (x : Int) (IntKind.u64.wrap (-(x : Int))) * 285870213051353865) / 288230376151711744 = (idx : Int))
    (hi : idx < 64) (hk : k < 64) (hcell : w.cell? ⟨1, idx, none⟩ = some (.int .u8 k)) :
    Calls Tryd.prog 74 #[.int .u64 x] w fun e w' => e = .returned (.int .i64 k) ∧ Drawn0 w w' := by
  go_enter Tryd.func74, Tryd.ntmps74
  go_wp2_with (simp only [key])
  go_ret
  exact ⟨rfl, Drawn0.refl _⟩
theorem tz_zero (w : World) :
    Calls Tryd.prog 74 #[.int .u64 0] w fun e w' => e = .returned (.int .i64 64) ∧ Drawn0 w w' := by
  go_enter Tryd.func74, Tryd.ntmps74
  go_wp2
  go_ret
  exact ⟨rfl, Drawn0.refl _⟩
theorem bits_TrailingZeros64.calls (a0 : Int) (r : Int) (w : World) (hT : Tabs w) (h : bits_TrailingZeros64.f a0 = some r) :
    Calls Tryd.prog 74 #[.int .u64 a0] w fun e w' => e = .returned (.int .i64 r) ∧ Drawn0 w w' := by
  unfold bits_TrailingZeros64.f at h
  by_cases h0 : 0 ≤ a0
  case neg => rw [if_neg h0] at h; cases h
  by_cases h1 : a0 < 18446744073709551616
  case neg => rw [if_pos h0, if_neg h1] at h; cases h
  rw [if_pos h0, if_pos h1] at h
  obtain rfl := Option.some.inj h
  obtain ⟨x, rfl⟩ := Int.eq_ofNat_of_zero_le h0
  have hx : x < 18446744073709551616 := by omega
  rw [Int.toNat_natCast]
  by_cases hx0 : x = 0
  · subst hx0
    exact tz_zero w
  · obtain ⟨hlow, hk⟩ := Lib.lowest_bit 64 x hx0 hx
    obtain ⟨hi, htab⟩ := Lib.deBruijn64_at _ hk
    have hcell := hT.deb _ hi
    rw [htab] at hcell
    exact tz_core x _ _ w (by simp; omega) (tz_key x _ hx hx0 hlow) hi hk hcell
end Go.Proofs.YthppicgolkpbaaaDoor.P

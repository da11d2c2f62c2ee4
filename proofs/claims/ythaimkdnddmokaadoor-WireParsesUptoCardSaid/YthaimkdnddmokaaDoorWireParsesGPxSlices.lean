/- what this claim needs of the words and the printed functions; conditions: as each statement says -/
import Derived.Test.YthaimkdnddmokaaDoorHShelfCut
import Derived.Test.YthaimkdnddmokaaDoorWireParsesGHTabs
import Derived.Test.YthaimkdnddmokaaDoorWireParsesHWirePlain
import Derived.Lib.IndexBytes
import Derived.Lib.Bytes
namespace Go.Proofs.YthaimkdnddmokaaDoor.P
open Go.RowKit Go.Shelf Go.Proofs.YthaimkdnddmokaaDoorW.PrintWords Go.Proofs.YthaimkdnddmokaaDoorW.PrintLast Go.Proofs.YthaimkdnddmokaaDoorW.PrintMore
set_option linter.unusedVariables false
set_option linter.unusedSimpArgs false
theorem bytes_Cut.line (p : Option Addr) (n c b2 o2 c2 : Nat) (xs : List Int) (w : World) (hx : xs.length = n) (h1 : Lib.BytesIn w p n xs) (hp : p = none → c = 0) (hcap : n ≤ c) (hn : n ≤ 4611686018427387904) (h2 : w.cell? ⟨b2, o2, none⟩ = some (.int .u8 10)) :
    Calls Tryd.prog 24 #[.slice p n c, .slice (some ⟨b2, o2, none⟩) 1 c2] w fun e w' => e = .returned (Lib.cutV p n c 1 (Lib.indexByte (Lib.bytesOf xs) 10)) ∧ ∃ q, w' = w.drewN q := by
  refine Any.bytes_Cut_of Tryd.laysT4 p (some ⟨b2, o2, none⟩) n c 1 c2 _ w hcap (Lib.indexByte_ge _ _) (fun h => ?_) hn ?_
  · have := Lib.index_room (Lib.bytesOf xs) [10] (by rw [Lib.index_one]; exact h)
    rw [Lib.index_one, Lib.bytesOf_length, hx] at this
    exact this
  · cases p with
    | none =>
      obtain rfl : c = 0 := hp rfl
      obtain rfl : n = 0 := by omega
      obtain rfl : xs = [] := List.eq_nil_of_length_eq_zero hx
      exact (Any.bytes_Index_one_nil (SlLaysT.n4.index Tryd.laysT4) b2 o2 c2 10 w h2).mono fun _ _ ⟨he, hw⟩ => ⟨he, 0, hw⟩
    | some a =>
      have hc : ∀ i, i < n → w.cell? (a.add i) = some (.int .u8 (xs.getD i 0)) := fun i hi => by
        obtain ⟨b, o, e, hc⟩ := h1.at (by omega)
        cases e
        rw [Go.WideShapes.add_plain]; exact hc i hi
      exact (Any.bytes_Index_one_at (SlLaysT.n4.index Tryd.laysT4) a n c b2 o2 c2 xs 10 w hx hc h2).mono fun _ _ ⟨he, hw⟩ => ⟨he, 0, hw⟩
end Go.Proofs.YthaimkdnddmokaaDoor.P
namespace Go.Proofs.YthaimkdnddmokaaDoor.P
open Go.RowKit Go.Proofs.YthaimkdnddmokaaDoorW.PrintWords Go.Proofs.YthaimkdnddmokaaDoorW.PrintLast Go.Proofs.YthaimkdnddmokaaDoorW.PrintMore
set_option linter.unusedVariables false
set_option linter.unusedSimpArgs false
set_option maxRecDepth 20000 in
theorem ten_of {b : Int} (h0 : 0 ≤ b) (h1 : b < 256) : (UInt8.ofNat b.toNat == (10 : UInt8)) = decide (b = 10) := by
  obtain ⟨n, rfl⟩ := Int.eq_ofNat_of_zero_le h0
  have : ∀ n : Nat, n < 256 → (UInt8.ofNat n == (10 : UInt8)) = decide ((n : Int) = 10) := by decide
  exact this n (by omega)
theorem cut_at : ∀ (l : List Int), (∀ z ∈ l, 0 ≤ z ∧ z < 256) → ∀ i : Int, Lib.indexByte (Lib.bytesOf l) 10 = i →
    (0 ≤ i → cutI l = (l.take i.toNat, l.drop (i.toNat + 1), true) ∧ i.toNat + 1 ≤ l.length) ∧ (i < 0 → cutI l = (l, [], false))
  | [], h, i, hi => by
    subst hi
    exact ⟨fun h => absurd h (by decide), fun _ => rfl⟩
  | b :: l, h, i, hi => by
    have hb := h b (by simp)
    have ih := cut_at l (fun z hz => h z (by simp [hz])) _ rfl
    have hge := Lib.indexByte_ge (Lib.bytesOf l) 10
    have e : Lib.indexByte (Lib.bytesOf (b :: l)) 10 = if decide (b = 10) = true then 0 else if Lib.indexByte (Lib.bytesOf l) 10 == -1 then -1 else Lib.indexByte (Lib.bytesOf l) 10 + 1 := by
      show Lib.indexByte (UInt8.ofNat b.toNat :: Lib.bytesOf l) 10 = _
      rw [Lib.indexByte, ten_of hb.1 hb.2]
    rw [e] at hi
    clear e
    by_cases hx : b = 10
    · rw [if_pos (by simp [hx])] at hi
      subst hi
      exact ⟨fun _ => ⟨by rw [cutI, if_pos hx]; rfl, by simp⟩, fun h => absurd h (by decide)⟩
    · rw [if_neg (by simp [hx])] at hi
      generalize Lib.indexByte (Lib.bytesOf l) 10 = k at *
      by_cases hk : k = -1
      · subst hk
        simp at hi
        subst hi
        exact ⟨fun h => absurd h (by decide), fun _ => by rw [cutI, if_neg hx, ih.2 (by decide)]⟩
      · rw [if_neg (by simp [hk])] at hi
        subst hi
        obtain ⟨n, rfl⟩ := Int.eq_ofNat_of_zero_le (show 0 ≤ k by omega)
        obtain ⟨h1, h2⟩ := ih.1 (by omega)
        have e1 : ((n : Int) + 1).toNat = n + 1 := by omega
        have e2 : (n : Int).toNat = n := by omega
        rw [e2] at h1 h2
        refine ⟨fun _ => ⟨?_, ?_⟩, fun h => absurd h (by omega)⟩
        · rw [cutI, if_neg hx, h1, e1]; rfl
        · rw [e1, List.length_cons]; omega
end Go.Proofs.YthaimkdnddmokaaDoor.P
namespace Go.Proofs.YthaimkdnddmokaaDoor.P
open Go.RowKit Go.Proofs.YthaimkdnddmokaaDoorW.PrintWords Go.Proofs.YthaimkdnddmokaaDoorW.PrintLast Go.Proofs.YthaimkdnddmokaaDoorW.PrintMore
attribute [local go_sem] max2_int min2_int max_two min_two max_three min_three max_four min_four   -- for this text's walks alone
set_option linter.unusedVariables false
set_option linter.unusedSimpArgs false
/-! ### slices_Index_string_string: function 33 -/
def slices_Index_string_string.l0 : Nat → List ByteArray → ByteArray → Int → Int → Option (Int)
  | 0, _, _, _, _ => none
  | k + 1, x0, x1, x7, x8 => if x8 < x7 then (if 0 ≤ x8 then (if x8 < (x0.length : Int) then (if x1.toList = (rdOf ByteArray.empty x0 x8).toList then (some x8) else (slices_Index_string_string.l0 k x0 x1 x7 (wrap64 (x8 + 1)))) else (none)) else (none)) else (some (-1))
def slices_Index_string_string.f (k : Nat) (l0 : List ByteArray) (a1 : ByteArray) : Option (Int) := slices_Index_string_string.l0 k l0 a1 (l0.length : Int) 0
set_option maxHeartbeats 8000000 in
set_option maxRecDepth 100000 in
theorem slices_Index_string_string.calls (k : Nat) (A0 : Option Addr) (c0 : Nat) (l0 : List ByteArray) (a1 : ByteArray) (r : Int) (w : World) (hr0 : Kd.C Kd.string w A0 l0.length l0) (hc0 : l0.length ≤ c0) (h : slices_Index_string_string.f k l0 a1 = some r) :
    Calls Tryd.prog 33 #[.slice A0 l0.length c0, .string a1] w fun e w' => e = .returned (.int .i64 r) ∧ Drawn0 w w' := by
  have HR0 := Aside0.mk hr0
  have HC0 := Aside0.mk hc0
  clear hr0 hc0
  have H : (slices_Index_string_string.l0 k l0 a1 (l0.length : Int) 0) = some r := h
  clear h
  have H' := Aside0.mk H
  clear H
  go_enter Tryd.func33, Tryd.ntmps33
  go_wp2
  go_loopg [8] k (fun kq v8 w' => ∃ (x8_1 : Int), v8 = .int .i64 x8_1 ∧ Aside0 (slices_Index_string_string.l0 kq l0 a1 (l0.length : Int) x8_1 = some r) ∧ Aside0 (kq ≤ k) ∧ Drawn0 w w')
  case atStart => exact ⟨(0), (by first | rfl | (simp; done) | (simp [*]; done)), H', ⟨Nat.le_refl _⟩, by repeat (first | exact Drawn0.refl _ | apply Drawn0.step)⟩
  case round =>
    clear H'
    try clear p2
    obtain ⟨x8_1, rfl, HA, HK1, ⟨m1, rfl⟩⟩ := hrel
    cases gk with
    | zero => exact absurd HA.out (by simp [slices_Index_string_string.l0])
    | succ k1 =>
      have H := HA.out
      clear HA
      simp only [slices_Index_string_string.l0] at H
      by_cases c3 : x8_1 < (l0.length : Int)
      · rw [if_pos c3] at H
        have c3b0 : decide (x8_1 < (l0.length : Int)) = true := decide_eq_true c3
        clear c3
        by_cases c4 : 0 ≤ x8_1
        · rw [if_pos c4] at H
          have c4b0 : decide (0 ≤ x8_1) = true := decide_eq_true c4
          clear c4
          by_cases c5 : x8_1 < (l0.length : Int)
          · rw [if_pos c5] at H
            have c5b0 : decide (x8_1 < (l0.length : Int)) = true := decide_eq_true c5
            clear c5
            by_cases c6 : a1.toList = (rdOf ByteArray.empty l0 x8_1).toList
            · rw [if_pos c6] at H
              have c6b0 : (a1.toList == (rdOf ByteArray.empty l0 x8_1).toList) = true := beq_iff_eq.mpr c6
              have c6b1 : (a1.toList != (rdOf ByteArray.empty l0 x8_1).toList) = false := bne_eq_false_iff_eq.mpr c6
              clear c6
              obtain rfl := Option.some.inj H
              have p110 : 0 ≤ (x8_1 : Int) := of_decide_eq_true (by first | (with_reducible assumption) | assumption)
              have q110 : x8_1 < (l0.length : Int) := of_decide_eq_true (by first | (with_reducible assumption) | assumption)
              obtain ⟨ad110, e110, hx110_0⟩ := Kd.at_string HR0.out x8_1 p110 q110
              cases e110
              replace p110 := eq_true p110
              replace q110 := eq_true q110
              go_wp2
              go_ret
              exact ⟨by first | rfl | (simp; done) | (simp [*]; done), by repeat (first | exact Drawn0.refl _ | apply Drawn0.step)⟩
            · rw [if_neg c6] at H
              have c6b0 : (a1.toList == (rdOf ByteArray.empty l0 x8_1).toList) = false := beq_eq_false_iff_ne.mpr c6
              have c6b1 : (a1.toList != (rdOf ByteArray.empty l0 x8_1).toList) = true := bne_iff_ne.mpr c6
              have H' := Aside0.mk H
              clear H
              have p110 : 0 ≤ (x8_1 : Int) := of_decide_eq_true (by first | (with_reducible assumption) | assumption)
              have q110 : x8_1 < (l0.length : Int) := of_decide_eq_true (by first | (with_reducible assumption) | assumption)
              obtain ⟨ad110, e110, hx110_0⟩ := Kd.at_string HR0.out x8_1 p110 q110
              cases e110
              replace p110 := eq_true p110
              replace q110 := eq_true q110
              go_wp2
              go_roundg k1
              case measure => have := HK1.out; omega
              case rel => exact ⟨(wrap64 (x8_1 + 1)), (by first | rfl | (simp; done) | (simp [*]; done)), H', ⟨by have := HK1.out; omega⟩, by repeat (first | exact Drawn0.refl _ | apply Drawn0.step)⟩
          · rw [if_neg c5] at H
            exact absurd H (by simp)
        · rw [if_neg c4] at H
          exact absurd H (by simp)
      · rw [if_neg c3] at H
        have c3b0 : decide (x8_1 < (l0.length : Int)) = false := decide_eq_false c3
        clear c3
        obtain rfl := Option.some.inj H
        go_wp2
        go_ret
        exact ⟨by first | rfl | (simp; done) | (simp [*]; done), by repeat (first | exact Drawn0.refl _ | apply Drawn0.step)⟩
end Go.Proofs.YthaimkdnddmokaaDoor.P

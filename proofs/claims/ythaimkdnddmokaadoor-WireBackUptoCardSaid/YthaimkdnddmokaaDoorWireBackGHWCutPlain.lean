/- what this claim needs of the words and the printed functions; conditions: as each statement says -/
import Derived.Test.YthaimkdnddmokaaDoorHShelfCut
import Derived.Test.YthaimkdnddmokaaDoorWireBackGHTabs
import Derived.Test.YthaimkdnddmokaaDoorWireBackHWirePlain
import Derived.Lib.IndexBytes
import Derived.Lib.Bytes
namespace Go.Proofs.YthaimkdnddmokaaDoor.P
open Go.RowKit Go.Shelf Go.Proofs.YthaimkdnddmokaaDoorW.PrintWords Go.Proofs.YthaimkdnddmokaaDoorW.PrintLast Go.Proofs.YthaimkdnddmokaaDoorW.PrintMore
set_option linter.unusedVariables false
set_option linter.unusedSimpArgs false
theorem bytes_Cut.line (p : Option Addr) (n c b2 o2 c2 : Nat) (xs : List Int) (w : World) (hx : xs.length = n) (h1 : Lib.BytesIn w p n xs) (hp : p = none → c = 0) (hcap : n ≤ c) (hn : n ≤ 4611686018427387904) (h2 : w.cell? ⟨b2, o2, none⟩ = some (.int .u8 10)) :
    Calls Tryd.prog 24 #[.slice p n c, .slice (some ⟨b2, o2, none⟩) 1 c2] w fun e w' => e = .returned (Lib.cutV p n c 1 (Lib.indexByte (Lib.bytesOf xs) 10)) ∧ ∃ q, w' = w.drewN q := by
  refine Any.bytes_Cut_of Tryd.laysT4 p (some ⟨b2, o2, none⟩) n c 1 c2 _ w hcap (Lib.indexByte_ge _ _) (fun h => ?_) hn ?_
  · have := Lib.index_room (Lib.bytesOf xs) [10] (by rw [Lib.index_one]; exact h)
    rw [Lib.index_one, Lib.bytesOf_length, hx] at this
    exact this
  · cases p with
    | none =>
      obtain rfl : c = 0 := hp rfl
      obtain rfl : n = 0 := by omega
      obtain rfl : xs = [] := List.eq_nil_of_length_eq_zero hx
      exact (Any.bytes_Index_one_nil (SlLaysT.n4.index Tryd.laysT4) b2 o2 c2 10 w h2).mono fun _ _ ⟨he, hw⟩ => ⟨he, 0, hw⟩
    | some a =>
      have hc : ∀ i, i < n → w.cell? (a.add i) = some (.int .u8 (xs.getD i 0)) := fun i hi => by
        obtain ⟨b, o, e, hc⟩ := h1.at (by omega)
        cases e
        rw [Go.WideShapes.add_plain]; exact hc i hi
      exact (Any.bytes_Index_one_at (SlLaysT.n4.index Tryd.laysT4) a n c b2 o2 c2 xs 10 w hx hc h2).mono fun _ _ ⟨he, hw⟩ => ⟨he, 0, hw⟩
end Go.Proofs.YthaimkdnddmokaaDoor.P
namespace Go.Proofs.YthaimkdnddmokaaDoor.P
open Go.RowKit Go.Proofs.YthaimkdnddmokaaDoorW.PrintWords Go.Proofs.YthaimkdnddmokaaDoorW.PrintLast Go.Proofs.YthaimkdnddmokaaDoorW.PrintMore
set_option linter.unusedVariables false
set_option linter.unusedSimpArgs false
set_option maxRecDepth 20000 in
theorem ten_of {b : Int} (h0 : 0 ≤ b) (h1 : b < 256) : (UInt8.ofNat b.toNat == (10 : UInt8)) = decide (b = 10) := by
  obtain ⟨n, rfl⟩ := Int.eq_ofNat_of_zero_le h0
  have : ∀ n : Nat, n < 256 → (UInt8.ofNat n == (10 : UInt8)) = decide ((n : Int) = 10) := by decide
  exact this n (by omega)
theorem cut_at : ∀ (l : List Int), (∀ z ∈ l, 0 ≤ z ∧ z < 256) → ∀ i : Int, Lib.indexByte (Lib.bytesOf l) 10 = i →
    (0 ≤ i → cutI l = (l.take i.toNat, l.drop (i.toNat + 1), true) ∧ i.toNat + 1 ≤ l.length) ∧ (i < 0 → cutI l = (l, [], false))
  | [], h, i, hi => by
    subst hi
    exact ⟨fun h => absurd h (by decide), fun _ => rfl⟩
  | b :: l, h, i, hi => by
    have hb := h b (by simp)
    have ih := cut_at l (fun z hz => h z (by simp [hz])) _ rfl
    have hge := Lib.indexByte_ge (Lib.bytesOf l) 10
    have e : Lib.indexByte (Lib.bytesOf (b :: l)) 10 = if decide (b = 10) = true then 0 else if Lib.indexByte (Lib.bytesOf l) 10 == -1 then -1 else Lib.indexByte (Lib.bytesOf l) 10 + 1 := by
      show Lib.indexByte (UInt8.ofNat b.toNat :: Lib.bytesOf l) 10 = _
      rw [Lib.indexByte, ten_of hb.1 hb.2]
    rw [e] at hi
    clear e
    by_cases hx : b = 10
    · rw [if_pos (by simp [hx])] at hi
      subst hi
      exact ⟨fun _ => ⟨by rw [cutI, if_pos hx]; rfl, by simp⟩, fun h => absurd h (by decide)⟩
    · rw [if_neg (by simp [hx])] at hi
      generalize Lib.indexByte (Lib.bytesOf l) 10 = k at *
      by_cases hk : k = -1
      · subst hk
        simp at hi
        subst hi
        exact ⟨fun h => absurd h (by decide), fun _ => by rw [cutI, if_neg hx, ih.2 (by decide)]⟩
      · rw [if_neg (by simp [hk])] at hi
        subst hi
        obtain ⟨n, rfl⟩ := Int.eq_ofNat_of_zero_le (show 0 ≤ k by omega)
        obtain ⟨h1, h2⟩ := ih.1 (by omega)
        have e1 : ((n : Int) + 1).toNat = n + 1 := by omega
        have e2 : (n : Int).toNat = n := by omega
        rw [e2] at h1 h2
        refine ⟨fun _ => ⟨?_, ?_⟩, fun h => absurd h (by omega)⟩
        · rw [cutI, if_neg hx, h1, e1]; rfl
        · rw [e1, List.length_cons]; omega
end Go.Proofs.YthaimkdnddmokaaDoor.P

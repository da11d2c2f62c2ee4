/- the pieces of an item's line, as the reference reads them; what it tells is printed as that line -/
import Derived.Test.YthppicgolkpbaaaDoorDeltaParsesGHBContains
import Derived.Test.YthppicgolkpbaaaDoorDeltaParsesGHDLines
import Derived.Test.YthppicgolkpbaaaDoorDeltaParsesGHLineLaws
namespace Go.Proofs.YthppicgolkpbaaaDoor.P
open Go.RowKit Go.Proofs.YthppicgolkpbaaaDoorW.PrintWords Go.Proofs.YthppicgolkpbaaaDoorW.PrintLast Go.Proofs.YthppicgolkpbaaaDoorW.PrintMore
set_option linter.unusedVariables false
set_option linter.unusedSimpArgs false
def noC (c : UInt8) (l : List UInt8) : Prop := ∀ b ∈ l, b ≠ c
theorem splitK_in (c : UInt8) (k : Nat) (xs ys : List UInt8) (h : noC c xs) : Lib.splitK [c] 0 (k + 1) (xs ++ c :: ys) = xs :: Lib.splitK [c] 0 k ys := by
 have hi : Lib.index (xs ++ c :: ys) [c] = (xs.length : Int) := by rw [index_at_one, indexByte_at c xs ys h]
 have hb : ((xs.length : Int) == -1) = false := beq_eq_false_iff_ne.2 (by omega)
 rw [Lib.splitK, hi, hb, if_neg (by decide), Int.toNat_natCast, Nat.add_zero, List.take_left]
 congr 1
 rw [← List.drop_drop, List.drop_left]
 rfl
theorem splitK_cases (c : UInt8) (k : Nat) (l : List UInt8) : Lib.splitK [c] 0 (k + 1) l = [l] ∨ ∃ xs ys, l = xs ++ c :: ys ∧ noC c xs ∧ Lib.splitK [c] 0 (k + 1) l = xs :: Lib.splitK [c] 0 k ys := by
 rcases Classical.em (c ∈ l) with h | h
 ·
  right
  obtain ⟨xs, ys, rfl, hn⟩ : ∃ xs ys, l = xs ++ c :: ys ∧ noC c xs := by
   induction l with
   | nil => cases h
   | cons b l ih =>
    by_cases e : b = c
    ·
     subst e; exact ⟨[], l, rfl, fun x hx => by cases hx⟩
    ·
     obtain ⟨xs, ys, h1, h2⟩ := ih (by rcases List.mem_cons.1 h with h | h; exact absurd h.symm e; exact h)
     refine ⟨b :: xs, ys, by rw [h1]; rfl, fun x hx => ?_⟩
     rcases List.mem_cons.1 hx with rfl | hx
     ·
      exact e
     ·
      exact h2 x hx
  exact ⟨xs, ys, rfl, hn, splitK_in c k xs ys hn⟩
 ·
  left
  have hi : Lib.index l [c] = -1 := by
   rw [index_at_one]
   rcases indexByte_cases c l with ⟨h1, _⟩ | ⟨i, h1, h2, _⟩
   ·
    exact h1
   ·
    exact absurd (indexByte_memb c l (by omega)) h
  rw [Lib.splitK, hi]
  rfl
theorem pieces5 (l : List UInt8) (h : ¬ (splitNC 32 4 l).length < 5) : ∃ a b c d e, l = a ++ 32 :: (b ++ 32 :: (c ++ 32 :: (d ++ 32 :: e))) ∧ noC 32 a ∧ noC 32 b ∧ noC 32 c ∧ noC 32 d ∧ splitNC 32 4 l = [a, b, c, d, e] := by
 unfold splitNC at h ⊢
 rcases splitK_cases 32 3 l with h1 | ⟨a, y1, rfl, ha, h1⟩
 ·
  rw [h1] at h; simp at h
 rcases splitK_cases 32 2 y1 with h2 | ⟨b, y2, rfl, hb, h2⟩
 ·
  rw [h1, h2] at h; simp at h
 rcases splitK_cases 32 1 y2 with h3 | ⟨c, y3, rfl, hc, h3⟩
 ·
  rw [h1, h2, h3] at h; simp at h
 rcases splitK_cases 32 0 y3 with h4 | ⟨d, y4, rfl, hd, h4⟩
 ·
  rw [h1, h2, h3, h4] at h; simp at h
 exact ⟨a, b, c, d, y4, rfl, ha, hb, hc, hd, by rw [h1, h2, h3, h4]; rfl⟩
theorem pieces_in (a b c d e : List UInt8) (ha : noC 32 a) (hb : noC 32 b) (hc : noC 32 c) (hd : noC 32 d) : splitNC 32 4 (a ++ 32 :: (b ++ 32 :: (c ++ 32 :: (d ++ 32 :: e)))) = [a, b, c, d, e] := by
 unfold splitNC
 rw [splitK_in 32 3 _ _ ha, splitK_in 32 2 _ _ hb, splitK_in 32 1 _ _ hc, splitK_in 32 0 _ _ hd]
 rfl
def kindOk (k : List UInt8) : Prop := k = [97] ∨ k = [97, 98] ∨ k = [108] ∨ k = [108, 98]
instance (k : List UInt8) : Decidable (kindOk k) := by unfold kindOk; exact inferInstance
def refItemOf (ws : List ByteArray) : S41 := ⟨(numOf (wdOf ws 1)).1, ⟨(labRead (wdOf ws 2)).1, (labRead (wdOf ws 2)).2.1⟩, (bt (wdOf ws 3) 0) == 97, ⟨wdOf ws 4, ((wdOf ws 3).size : Int) == 2⟩⟩
def refWs (ws : List ByteArray) : Option S41 :=
 if ws.length < 5 then none else if (wdOf ws 0).data.toList = [105, 116, 101, 109] ∧ kindOk (wdOf ws 3).data.toList then
  (if (numOf (wdOf ws 1)).2 = true ∧ (labRead (wdOf ws 2)).2.2 = true ∧ checkOf (refItemOf ws) = 0 then some (refItemOf ws) else none) else none
def refRes (s : ByteArray) : Option S41 := refWs (piecesOf s)
def catsFit (x : S41) : Prop := 0 ≤ x.f1.f1 ∧ x.f1.f1 < 18446744073709551616
def lineT (x : S41) : List UInt8 := [105, 116, 101, 109] ++ 32 :: (decL x.f0 ++ 32 :: (labL x.f1.f0 x.f1.f1.toNat ++ 32 :: (kindL x.f2 x.f3.f1 ++ 32 :: x.f3.f0.data.toList)))
theorem lineT_end (x : S41) : lineT x ++ [10] = lineL x := by unfold lineT lineL; simp
theorem wd_map (a b c d e : List UInt8) : wdOf ([a, b, c, d, e].map baOf) 0 = baOf a ∧ wdOf ([a, b, c, d, e].map baOf) 1 = baOf b ∧ wdOf ([a, b, c, d, e].map baOf) 2 = baOf c ∧ wdOf ([a, b, c, d, e].map baOf) 3 = baOf d ∧ wdOf ([a, b, c, d, e].map baOf) 4 = baOf e := ⟨rfl, rfl, rfl, rfl, rfl⟩
theorem kind_cases {k : List UInt8} (h : kindOk k) : beginsC (baOf k) 97 = ((bt (baOf k) 0) == 97) ∧ endsC (baOf k) 98 = (((baOf k).size : Int) == 2) ∧ k = kindL ((bt (baOf k) 0) == 97) (((baOf k).size : Int) == 2) := by
 rcases h with rfl | rfl | rfl | rfl <;> decide
theorem ref_sound (s : ByteArray) (x : S41) (h : refRes s = some x) : s.data.toList = lineT x ∧ takenRes s = (x.f0, x.f1.f0, x.f1.f1, x.f2, x.f3.f0, x.f3.f1, true) ∧ checkOf x = 0 ∧ catsFit x := by
 unfold refRes refWs at h
 by_cases h5 : (piecesOf s).length < 5
 ·
  rw [if_pos h5] at h; cases h
 rw [if_neg h5] at h
 by_cases hk : (wdOf (piecesOf s) 0).data.toList = [105, 116, 101, 109] ∧ kindOk (wdOf (piecesOf s) 3).data.toList
 case neg => rw [if_neg hk] at h; cases h
 rw [if_pos hk] at h
 by_cases hc : (numOf (wdOf (piecesOf s) 1)).2 = true ∧ (labRead (wdOf (piecesOf s) 2)).2.2 = true ∧ checkOf (refItemOf (piecesOf s)) = 0
 case neg => rw [if_neg hc] at h; cases h
 rw [if_pos hc] at h
 have hx := Option.some.inj h
 obtain ⟨a, b, c, d, e, hl, ha, hb, hcc, hd, hp⟩ := pieces5 s.data.toList (by unfold piecesOf at h5; rwa [List.length_map] at h5)
 have hps : piecesOf s = [a, b, c, d, e].map baOf := by unfold piecesOf; rw [hp]
 obtain ⟨w0, w1, w2, w3, w4⟩ := wd_map a b c d e
 rw [hps] at hk hc hx h5
 rw [w0, w3, baOf_data, baOf_data] at hk
 unfold refItemOf at hc hx
 rw [w1, w2, w3, w4] at hc hx
 obtain ⟨hi, hkd⟩ := hk
 obtain ⟨hn, hlr, hck⟩ := hc
 obtain ⟨k1, k2, k3⟩ := kind_cases hkd
 have hdec := dec_numOf (baOf b) (numOf (baOf b)).1 (num_pair _ hn)
 obtain ⟨Z, hZ, z0, z1, z2, hlab⟩ := labRead_sound (baOf c) (labRead (baOf c)).1 (labRead (baOf c)).2.1 (by rw [← hlr])
 have hck2 := hck
 rw [hx] at hck2
 refine ⟨?_, ?_, hck2, ?_⟩
 ·
  rw [hl, ← hx]
  unfold lineT
  simp only
  have e1 : decL (numOf (baOf b)).1 = b := by unfold decL; rw [hdec]; rfl
  have e2 : labL (labRead (baOf c)).1 (labRead (baOf c)).2.1.toNat = c := by
   rw [hZ, Int.toNat_natCast]
   have := congrArg (fun z => z.data.toList) hlab
   exact this.symm
  rw [e1, e2]
  have e3 : kindL ((bt (baOf d) 0) == 97) (((baOf d).size : Int) == 2) = d := k3.symm
  rw [e3, show a = [105, 116, 101, 109] from hi]
  rfl
 ·
  unfold takenRes
  rw [if_neg (by rw [hps]; exact h5), hps, w1, w2, w3, w4, ← hx, hn, hlr, k1, k2]
  rfl
 ·
  rw [← hx]
  unfold catsFit
  simp only
  omega
theorem dec_byte (n : Int) (b : UInt8) (h : b ∈ decL n) : b ≠ 32 ∧ b ≠ 10 := by
 unfold decL decOf at h
 split at h
 ·
  have h1 : b ∈ [(63 : UInt8)] := h
  rw [List.mem_singleton.1 h1]; decide
 ·
  split at h
  ·
   have h1 : b ∈ [(63 : UInt8)] := h
   rw [List.mem_singleton.1 h1]; decide
  ·
   have := decF_sep 10 _ b h
   constructor
   ·
    rintro rfl; have h3 : (32 : UInt8).toNat = 32 := rfl; omega
   ·
    rintro rfl; have h3 : (10 : UInt8).toNat = 10 := rfl; omega
theorem tail_byte : ∀ (cs : List Int) (g : UInt8), g ≠ 32 ∧ g ≠ 10 → ∀ b ∈ printTail g cs, b ≠ 32 ∧ b ≠ 10
 | [], g, hg, b, h => by cases h
 | c :: cs, g, hg, b, h => by
  rw [printTail] at h
  rcases List.mem_cons.1 h with rfl | h
  ·
   exact hg
  ·
   rcases List.mem_append.1 h with h | h
   ·
    exact dec_byte c b h
   ·
    exact tail_byte cs 44 (by decide) b h
theorem lab_byte (a : Int) (A : Nat) (b : UInt8) (h : b ∈ labL a A) : b ≠ 32 ∧ b ≠ 10 := by
 unfold labL at h
 rcases List.mem_append.1 h with h | h
 ·
  exact dec_byte a b h
 ·
  exact tail_byte _ 58 (by decide) b h
theorem kind_byte (p q : Bool) (b : UInt8) (h : b ∈ kindL p q) : b ≠ 32 ∧ b ≠ 10 := by
 cases p <;> cases q <;> revert b <;> decide
theorem check_zero {x : S41} (h : checkOf x = 0) : 0 ≤ x.f0 ∧ x.f0 ≤ 2147483647 ∧ 0 ≤ x.f1.f0 ∧ x.f1.f0 ≤ 15 ∧ hasNl x.f3.f0 = false ∧ x.f3.f0.size ≤ 200 := by
 unfold checkOf at h
 by_cases h0 : x.f0 < 0
 ·
  rw [if_pos h0] at h; cases h
 rw [if_neg h0] at h
 by_cases h1 : 2147483647 < x.f0
 ·
  rw [if_pos h1] at h; cases h
 rw [if_neg h1] at h
 by_cases h2 : (decide (0 ≤ x.f1.f0) && decide (x.f1.f0 ≤ 15)) = false
 ·
  rw [if_pos h2] at h; cases h
 rw [if_neg h2] at h
 by_cases h3 : hasNl x.f3.f0 = true
 ·
  rw [if_pos h3] at h; cases h
 rw [if_neg h3] at h
 by_cases h4 : 200 < x.f3.f0.size
 ·
  rw [if_pos h4] at h; cases h
 simp only [Bool.not_eq_false, Bool.and_eq_true, decide_eq_true_eq] at h2
 exact ⟨by omega, by omega, h2.1, h2.2, by simpa using h3, by omega⟩
theorem bt_kind (p q : Bool) : ((bt (baOf (kindL p q)) 0) == 97) = p ∧ (((baOf (kindL p q)).size : Int) == 2) = q ∧ kindOk (kindL p q) := by
 cases p <;> cases q <;> decide
theorem ref_complete (x : S41) (hx : catsFit x) (hc : checkOf x = 0) : refRes (baOf (lineT x)) = some x := by
 obtain ⟨c0, c1, c2, c3, c4, c5⟩ := check_zero hc
 have hp : piecesOf (baOf (lineT x)) = [[105, 116, 101, 109], decL x.f0, labL x.f1.f0 x.f1.f1.toNat, kindL x.f2 x.f3.f1, x.f3.f0.data.toList].map baOf := by
  unfold piecesOf lineT
  rw [baOf_data, pieces_in _ _ _ _ _ (by unfold noC; decide) (fun b h => (dec_byte _ b h).1) (fun b h => (lab_byte _ _ b h).1) (fun b h => (kind_byte _ _ b h).1)]
 obtain ⟨w0, w1, w2, w3, w4⟩ := wd_map [105, 116, 101, 109] (decL x.f0) (labL x.f1.f0 x.f1.f1.toNat) (kindL x.f2 x.f3.f1) x.f3.f0.data.toList
 obtain ⟨b1, b2, b3⟩ := bt_kind x.f2 x.f3.f1
 obtain ⟨X, hX⟩ := Int.eq_ofNat_of_zero_le hx.1
 have hX2 : X < 18446744073709551616 := by have := hx.2; omega
 have hl : labRead (baOf (labL x.f1.f0 x.f1.f1.toNat)) = (x.f1.f0, x.f1.f1, true) := by
  rw [hX, Int.toNat_natCast]
  exact labRead_lab x.f1.f0 X c2 c3 hX2
 have hn : numOf (baOf (decL x.f0)) = (x.f0, true) := num_decL x.f0 c0 c1
 have hi : refItemOf ([[105, 116, 101, 109], decL x.f0, labL x.f1.f0 x.f1.f1.toNat, kindL x.f2 x.f3.f1, x.f3.f0.data.toList].map baOf) = x := by
  unfold refItemOf
  rw [w1, w2, w3, w4, hl, hn, b1, b2, baOf_self]
 unfold refRes refWs
 rw [hp, if_neg (by simp), w0, w3, if_pos ⟨rfl, b3⟩, hi, w1, w2, hl, hn, if_pos ⟨rfl, rfl, hc⟩]
end Go.Proofs.YthppicgolkpbaaaDoor.P

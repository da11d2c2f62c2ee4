/- plain laws of a label's text: labRead of labOf is the label, and what labRead takes is a label's text -/
import Derived.Test.YthaimkdnddmokaaDoorWireParsesHLabelText
namespace Go.Proofs.YthaimkdnddmokaaDoor.P
open Go.RowKit Go.Proofs.YthaimkdnddmokaaDoorW.PrintWords Go.Proofs.YthaimkdnddmokaaDoorW.PrintLast Go.Proofs.YthaimkdnddmokaaDoorW.PrintMore
set_option linter.unusedVariables false
set_option linter.unusedSimpArgs false
theorem decF_sep : ∀ (f n : Nat) (b : UInt8), b ∈ decF f n → isSep b = false ∧ 48 ≤ b.toNat ∧ b.toNat ≤ 57
  | 0, n, b, h => by simp [decF] at h
  | f + 1, n, b, h => by
    have hdig : ∀ d : Nat, d < 10 → isSep (UInt8.ofNat (48 + d)) = false ∧ 48 ≤ (UInt8.ofNat (48 + d)).toNat ∧ (UInt8.ofNat (48 + d)).toNat ≤ 57 := by decide
    rw [decF] at h
    split at h
    · rename_i hn
      rw [List.mem_singleton.1 h]
      exact hdig n hn
    · rcases List.mem_append.1 h with h | h
      · exact decF_sep f (n / 10) b h
      · rw [List.mem_singleton.1 h]
        exact hdig _ (by omega)
theorem decL_sep (n : Int) (b : UInt8) (h : b ∈ decL n) : isSep b = false := by
  unfold decL decOf at h
  split at h
  · have h1 : b ∈ [(63 : UInt8)] := h
    rw [List.mem_singleton.1 h1]; decide
  · split at h
    · have h1 : b ∈ [(63 : UInt8)] := h
      rw [List.mem_singleton.1 h1]; decide
    · exact (decF_sep 10 _ b h).1
theorem refP_digits : ∀ (ds rest now : List UInt8) (lvl : Bool) (last a A : Int), (∀ b ∈ ds, isSep b = false) → refP (ds ++ rest) now lvl last a A = refP rest (now ++ ds) lvl last a A
  | [], rest, now, lvl, last, a, A, h => by simp
  | d :: ds, rest, now, lvl, last, a, A, h => by
    rw [List.cons_append, refP, if_neg (by rw [h d (by simp)]; decide), refP_digits ds rest _ lvl last a A (fun b hb => h b (by simp [hb])), List.append_assoc]
    rfl
theorem catsFrom_inv (X lo : Nat) (c : Int) (cs : List Int) (h : catsFrom X lo = c :: cs) : ∃ n : Nat, c = n ∧ lo ≤ n ∧ n < 64 ∧ X.testBit n = true ∧ (∀ j, lo ≤ j → j < n → X.testBit j = false) ∧ cs = catsFrom X (n + 1) := by
  by_cases hlo : lo < 64
  · obtain ⟨d, hd⟩ : ∃ d, lo + d = 64 := ⟨64 - lo, by omega⟩
    induction d generalizing lo with
    | zero => omega
    | succ d ih =>
      rw [catsFrom_next X lo hlo] at h
      cases hb : X.testBit lo with
      | true =>
        rw [hb, if_pos rfl] at h
        obtain ⟨h1, h2⟩ := List.cons.inj h
        exact ⟨lo, h1.symm, Nat.le_refl _, hlo, hb, fun j h1 h2 => by omega, h2.symm⟩
      | false =>
        rw [hb, if_neg (by decide)] at h
        by_cases h63 : lo + 1 < 64
        · obtain ⟨n, e1, e2, e3, e4, e5, e6⟩ := ih (lo + 1) h h63 (by omega)
          exact ⟨n, e1, by omega, e3, e4, fun j h1 h2 => by
            by_cases e : j = lo
            · subst e; exact hb
            · exact e5 j (by omega) h2, e6⟩
        · have e : lo + 1 = 64 := by omega
          rw [e, catsFrom_end] at h
          cases h
  · have : catsFrom X lo = [] := by unfold catsFrom; rw [show 64 - lo = 0 by omega]; rfl
    rw [this] at h; cases h
theorem catsFrom_skip (X lo n : Nat) (h1 : lo ≤ n) (h2 : n < 64) (h3 : X.testBit n = true) (h4 : ∀ j, lo ≤ j → j < n → X.testBit j = false) : catsFrom X lo = (n : Int) :: catsFrom X (n + 1) := by
  obtain ⟨d, rfl⟩ : ∃ d, n = lo + d := ⟨n - lo, by omega⟩
  induction d generalizing lo with
  | zero => rw [catsFrom_next X lo (by omega)]; simp only [Nat.add_zero] at h3 ⊢; rw [h3, if_pos rfl]
  | succ d ih =>
    rw [catsFrom_next X lo (by omega), h4 lo (by omega) (by omega), if_neg (by decide), show lo + (d + 1) = lo + 1 + d by omega]
    exact ih (lo + 1) (by omega) (by omega) (by rw [show lo + 1 + d = lo + (d + 1) by omega]; exact h3) (fun j h5 h6 => h4 j (by omega) (by omega))
theorem mod_add_bit (X lo n : Nat) (h1 : lo ≤ n) (h3 : X.testBit n = true) (h4 : ∀ j, lo ≤ j → j < n → X.testBit j = false) : X % 2 ^ (n + 1) = X % 2 ^ lo + 2 ^ n := by
  have hlt : X % 2 ^ lo < 2 ^ n := Nat.lt_of_lt_of_le (Nat.mod_lt _ (Nat.pow_pos (by omega))) (Nat.pow_le_pow_right (by omega) h1)
  rw [show X % 2 ^ lo + 2 ^ n = 2 ^ n * 1 + X % 2 ^ lo by omega]
  apply Nat.eq_of_testBit_eq
  intro j
  rw [Nat.testBit_mod_two_pow, Nat.testBit_two_pow_mul_add _ hlt, Nat.testBit_mod_two_pow]
  by_cases hj : j < n
  · rw [if_pos hj]
    by_cases hl : j < lo
    · simp [hl, show j < n + 1 by omega]
    · rw [h4 j (by omega) hj]; simp [hl]
  · rw [if_neg hj]
    by_cases e : j = n
    · subst e; simp [h3]
    · obtain ⟨s, rfl⟩ : ∃ s, j = n + 1 + s := ⟨j - (n + 1), by omega⟩
      rw [show n + 1 + s - n = s + 1 by omega, Nat.testBit_succ, decide_eq_false (show ¬ n + 1 + s < n + 1 by omega)]
      simp
theorem shl_bit (n : Nat) (h : n < 64) : shl .u64 1 (n : Int) = ((2 ^ n : Nat) : Int) := by
  have := shl_one (n : Int) (by omega) (by omega)
  rwa [Int.toNat_natCast] at this
theorem wrap_add_bit (A n : Nat) (h : n < 64) (hA : A < 2 ^ n) : IntKind.u64.wrap ((A : Int) + shl .u64 1 (n : Int)) = ((A + 2 ^ n : Nat) : Int) := by
  rw [shl_bit n h, IntKind.wrap_u64]
  have h1 : 2 ^ (n + 1) ≤ 18446744073709551616 := Nat.le_trans (Nat.pow_le_pow_right (by omega) (show n + 1 ≤ 64 by omega)) (by decide)
  rw [Nat.pow_succ] at h1
  generalize 2 ^ n = p at hA h1
  omega
theorem num_dec (c : Nat) (h : c < 64) (now : List UInt8) (hn : now = []) : numOf (baOf (now ++ decL (c : Int))) = ((c : Int), true) := by
  subst hn
  rw [List.nil_append, decL_dec]
  exact numOf_dec c (by omega)
theorem mod_lt_pow (X lo n : Nat) (h : lo ≤ n) : X % 2 ^ lo < 2 ^ n := Nat.lt_of_lt_of_le (Nat.mod_lt _ (Nat.pow_pos (by omega))) (Nat.pow_le_pow_right (by omega) h)
/-- reading on behind a sign: the label's further categories -/
theorem refP_cats (X : Nat) (hX : X < 18446744073709551616) (a : Int) : ∀ (cs : List Int) (lo : Nat) (c : Int), catsFrom X lo = c :: cs → refP (decL c ++ printTail 44 cs) [] false ((lo : Int) - 1) a ((X % 2 ^ lo : Nat) : Int) = (a, (X : Int), true)
  | cs, lo, c, h => by
    obtain ⟨n, rfl, h1, h2, h3, h4, h5⟩ := catsFrom_inv X lo c cs h
    rw [refP_digits _ _ _ _ _ _ _ (decL_sep _)]
    have hm := mod_add_bit X lo n h1 h3 h4
    have hst : refNum ([] ++ decL (n : Int)) false ((lo : Int) - 1) a ((X % 2 ^ lo : Nat) : Int) = some ((n : Int), a, ((X % 2 ^ (n + 1) : Nat) : Int)) := by
      unfold refNum
      rw [num_dec n h2 [] rfl, if_pos rfl]
      unfold refStep
      rw [if_neg (by decide), if_neg (by omega), if_neg (by omega), wrap_add_bit _ n h2 (mod_lt_pow X lo n h1), hm]
    cases cs with
    | nil =>
      simp only [printTail, refP]
      rw [hst]
      have hz : X % 2 ^ (n + 1) = X := by
        apply Nat.eq_of_testBit_eq
        intro j
        rw [Nat.testBit_mod_two_pow]
        by_cases hj : j < n + 1
        · simp [hj]
        · rw [decide_eq_false hj, Bool.false_and]
          by_cases hj2 : j < 64
          · cases hb : X.testBit j with
            | false => rfl
            | true =>
              exfalso
              have hm2 : ((j : Nat) : Int) ∈ catsFrom X (n + 1) := by
                unfold catsFrom
                exact List.mem_map.2 ⟨j, List.mem_filter.2 ⟨List.mem_range'_1.2 ⟨by omega, by omega⟩, hb⟩, rfl⟩
              rw [← h5] at hm2
              cases hm2
          · exact (Nat.testBit_lt_two_pow (Nat.lt_of_lt_of_le (show X < 2 ^ 64 by omega) (Nat.pow_le_pow_right (by omega) (by omega)))).symm
      rw [hz]
    | cons c2 cs2 =>
      rw [printTail, refP, if_pos (by decide), if_pos (by decide), hst]
      dsimp only
      have := refP_cats X hX a cs2 (n + 1) c2 h5.symm
      rwa [show (((n + 1 : Nat) : Int) - 1) = (n : Int) by omega] at this
/-- the text of a label is read as the label -/
theorem labRead_lab (a : Int) (X : Nat) (h0 : 0 ≤ a) (h1 : a ≤ 15) (hX : X < 18446744073709551616) : labRead (labOf a X) = (a, (X : Int), true) := by
  unfold labRead labOf labL
  rw [baOf_data, refP_digits _ _ _ _ _ _ _ (decL_sep _)]
  obtain ⟨n, rfl⟩ := Int.eq_ofNat_of_zero_le h0
  have hst : refNum ([] ++ decL (n : Int)) true (-1) 0 0 = some (-1, (n : Int), 0) := by
    unfold refNum
    rw [num_dec n (by omega) [] rfl, if_pos rfl]
    unfold refStep
    rw [if_pos rfl, if_neg (by omega)]
  cases hc : catsFrom X 0 with
  | nil =>
    simp only [printTail, refP]
    rw [hst]
    have hz : X = 0 := by
      apply Nat.eq_of_testBit_eq
      intro j
      rw [Nat.zero_testBit]
      by_cases hj2 : j < 64
      · cases hb : X.testBit j with
        | false => rfl
        | true =>
          exfalso
          have hm2 : ((j : Nat) : Int) ∈ catsFrom X 0 := by
            unfold catsFrom
            exact List.mem_map.2 ⟨j, List.mem_filter.2 ⟨List.mem_range'_1.2 ⟨by omega, by omega⟩, hb⟩, rfl⟩
          rw [hc] at hm2
          cases hm2
      · exact Nat.testBit_lt_two_pow (Nat.lt_of_lt_of_le (show X < 2 ^ 64 by omega) (Nat.pow_le_pow_right (by omega) (by omega)))
    rw [hz]; rfl
  | cons c cs =>
    rw [printTail, refP, if_pos (by decide), if_pos (by decide), hst]
    dsimp only
    have := refP_cats X hX n cs 0 c hc
    rw [Nat.pow_zero, Nat.mod_one] at this
    exact this
theorem refNum_inv (now : List UInt8) (lvl : Bool) (last a A : Int) (x : Int × Int × Int) (h : refNum now lvl last a A = some x) : ∃ n : Nat, decL (n : Int) = now ∧ n ≤ 2147483647 ∧ refStep lvl last a A (n : Int) = some x := by
  unfold refNum at h
  split at h
  · rename_i h2
    have hp := num_pair _ h2
    obtain ⟨h0, h1⟩ := numOf_nonneg _ _ hp
    have hd := dec_numOf _ _ hp
    obtain ⟨n, hn⟩ := Int.eq_ofNat_of_zero_le h0
    rw [hn] at hd h h1
    exact ⟨n, by unfold decL; rw [hd]; rfl, by omega, h⟩
  · cases h
theorem testBit_top (A n : Nat) (h : A < 2 ^ n) (j : Nat) (hj : n ≤ j) : A.testBit j = false := Nat.testBit_lt_two_pow (Nat.lt_of_lt_of_le h (Nat.pow_le_pow_right (by omega) hj))
theorem bits_of_mod (X A lo n : Nat) (h1 : lo ≤ n) (hA : A < 2 ^ lo) (h : X % 2 ^ (n + 1) = A + 2 ^ n) : X.testBit n = true ∧ (∀ j, lo ≤ j → j < n → X.testBit j = false) ∧ X % 2 ^ lo = A := by
  have hAn : A < 2 ^ n := Nat.lt_of_lt_of_le hA (Nat.pow_le_pow_right (by omega) h1)
  have hb : ∀ j, j < n + 1 → X.testBit j = (2 ^ n * 1 + A).testBit j := by
    intro j hj
    have := congrArg (fun x => x.testBit j) h
    simp only [Nat.testBit_mod_two_pow, decide_eq_true hj, Bool.true_and] at this
    rw [this]; congr 1; omega
  refine ⟨?_, fun j h2 h3 => ?_, ?_⟩
  · rw [hb n (by omega), Nat.testBit_two_pow_mul_add _ hAn, if_neg (by omega)]; simp
  · rw [hb j (by omega), Nat.testBit_two_pow_mul_add _ hAn, if_pos h3]; exact testBit_top A lo hA j h2
  · apply Nat.eq_of_testBit_eq
    intro j
    rw [Nat.testBit_mod_two_pow]
    by_cases hj : j < lo
    · rw [decide_eq_true hj, Bool.true_and, hb j (by omega), Nat.testBit_two_pow_mul_add _ hAn, if_pos (by omega)]
    · rw [decide_eq_false hj, Bool.false_and, testBit_top A lo hA j (by omega)]
theorem refP_sound_cats (a : Int) : ∀ (l now : List UInt8) (lo A : Nat) (x X : Int), A < 2 ^ lo → refP l now false ((lo : Int) - 1) a (A : Int) = (x, X, true) →
    ∃ Z : Nat, X = Z ∧ x = a ∧ Z < 18446744073709551616 ∧ Z % 2 ^ lo = A ∧ ∃ c cs, catsFrom Z lo = c :: cs ∧ now ++ l = decL c ++ printTail 44 cs
  | [], now, lo, A, x, X, hA, h => by
    rw [refP] at h
    cases hr : refNum now false ((lo : Int) - 1) a (A : Int) with
    | none => rw [hr] at h; cases h
    | some y =>
      rw [hr] at h
      obtain ⟨n, hd, hn, hs⟩ := refNum_inv _ _ _ _ _ _ hr
      unfold refStep at hs
      rw [if_neg (by decide)] at hs
      by_cases h63 : (n : Int) > 63
      · rw [if_pos h63] at hs; cases hs
      rw [if_neg h63] at hs
      by_cases hlo : (n : Int) ≤ (lo : Int) - 1
      · rw [if_pos hlo] at hs; cases hs
      rw [if_neg hlo] at hs
      have hAn : A < 2 ^ n := Nat.lt_of_lt_of_le hA (Nat.pow_le_pow_right (by omega) (by omega))
      rw [wrap_add_bit A n (by omega) hAn] at hs
      obtain rfl := Option.some.inj hs
      simp only [Prod.mk.injEq] at h
      have hZ : A + 2 ^ n < 2 ^ (n + 1) := by rw [Nat.pow_succ]; omega
      obtain ⟨b1, b2, b3⟩ := bits_of_mod (A + 2 ^ n) A lo n (by omega) hA (Nat.mod_eq_of_lt hZ)
      refine ⟨A + 2 ^ n, h.2.1.symm, h.1.symm, Nat.lt_of_lt_of_le hZ (Nat.le_trans (Nat.pow_le_pow_right (by omega) (show n + 1 ≤ 64 by omega)) (by decide)), b3, (n : Int), catsFrom (A + 2 ^ n) (n + 1), catsFrom_skip _ lo n (by omega) (by omega) b1 b2, ?_⟩
      have he : catsFrom (A + 2 ^ n) (n + 1) = [] := by
        rw [catsFrom_congr (A + 2 ^ n) 0 (n + 1) (fun j hj => by rw [Nat.zero_testBit]; exact testBit_top _ _ hZ j hj), catsFrom_zero]
      rw [he, hd]; simp [printTail]
  | b :: t, now, lo, A, x, X, hA, h => by
    rw [refP] at h
    cases hb : isSep b with
    | false =>
      rw [hb, if_neg (by decide)] at h
      obtain ⟨Z, h1, h2, h3, h4, c, cs, h5, h6⟩ := refP_sound_cats a t (now ++ [b]) lo A x X hA h
      exact ⟨Z, h1, h2, h3, h4, c, cs, h5, by rw [← h6]; simp⟩
    | true =>
      rw [hb, if_pos rfl] at h
      by_cases h58 : (b == 58) = false
      · rw [if_pos h58] at h
        have hb44 : b = 44 := by
          unfold isSep at hb
          rw [h58, Bool.false_or] at hb
          exact eq_of_beq hb
        cases hr : refNum now false ((lo : Int) - 1) a (A : Int) with
        | none => rw [hr] at h; cases h
        | some y =>
          rw [hr] at h
          obtain ⟨n, hd, hn, hs⟩ := refNum_inv _ _ _ _ _ _ hr
          unfold refStep at hs
          rw [if_neg (by decide)] at hs
          by_cases h63 : (n : Int) > 63
          · rw [if_pos h63] at hs; cases hs
          rw [if_neg h63] at hs
          by_cases hlo : (n : Int) ≤ (lo : Int) - 1
          · rw [if_pos hlo] at hs; cases hs
          rw [if_neg hlo] at hs
          have hAn : A < 2 ^ n := Nat.lt_of_lt_of_le hA (Nat.pow_le_pow_right (by omega) (by omega))
          rw [wrap_add_bit A n (by omega) hAn] at hs
          obtain rfl := Option.some.inj hs
          dsimp only at h
          have hZ : A + 2 ^ n < 2 ^ (n + 1) := by rw [Nat.pow_succ]; omega
          rw [show (n : Int) = ((n + 1 : Nat) : Int) - 1 by omega] at h
          obtain ⟨Z, h1, h2, h3, h4, c, cs, h5, h6⟩ := refP_sound_cats a t [] (n + 1) (A + 2 ^ n) x X hZ h
          obtain ⟨b1, b2, b3⟩ := bits_of_mod Z A lo n (by omega) hA h4
          refine ⟨Z, h1, h2, h3, b3, (n : Int), catsFrom Z (n + 1), catsFrom_skip Z lo n (by omega) (by omega) b1 b2, ?_⟩
          rw [h5, hd, hb44, printTail, ← h6]
          simp
      · rw [if_neg h58] at h; cases h
theorem refP_sound : ∀ (l now : List UInt8) (x X : Int), refP l now true (-1) 0 0 = (x, X, true) → ∃ Z : Nat, X = Z ∧ 0 ≤ x ∧ x ≤ 15 ∧ Z < 18446744073709551616 ∧ now ++ l = labL x Z
  | [], now, x, X, h => by
    rw [refP] at h
    cases hr : refNum now true (-1) 0 0 with
    | none => rw [hr] at h; cases h
    | some y =>
      rw [hr] at h
      obtain ⟨n, hd, hn, hs⟩ := refNum_inv _ _ _ _ _ _ hr
      unfold refStep at hs
      rw [if_pos rfl] at hs
      by_cases h15 : (n : Int) > 15
      · rw [if_pos h15] at hs; cases hs
      rw [if_neg h15] at hs
      obtain rfl := Option.some.inj hs
      simp only [Prod.mk.injEq] at h
      obtain ⟨rfl, rfl, _⟩ := h
      exact ⟨0, rfl, by omega, by omega, by omega, by unfold labL; rw [catsFrom_zero, hd]; simp [printTail]⟩
  | b :: t, now, x, X, h => by
    rw [refP] at h
    cases hb : isSep b with
    | false =>
      rw [hb, if_neg (by decide)] at h
      obtain ⟨Z, h1, h2, h3, h4, h6⟩ := refP_sound t (now ++ [b]) x X h
      exact ⟨Z, h1, h2, h3, h4, by rw [← h6]; simp⟩
    | true =>
      rw [hb, if_pos rfl] at h
      by_cases h58 : (b == 58) = true
      · rw [if_pos h58] at h
        cases hr : refNum now true (-1) 0 0 with
        | none => rw [hr] at h; cases h
        | some y =>
          rw [hr] at h
          obtain ⟨n, hd, hn, hs⟩ := refNum_inv _ _ _ _ _ _ hr
          unfold refStep at hs
          rw [if_pos rfl] at hs
          by_cases h15 : (n : Int) > 15
          · rw [if_pos h15] at hs; cases hs
          rw [if_neg h15] at hs
          obtain rfl := Option.some.inj hs
          dsimp only at h
          obtain ⟨Z, h1, h2, h3, h4, c, cs, h5, h6⟩ := refP_sound_cats (n : Int) t [] 0 0 x X (by decide) h
          refine ⟨Z, h1, by omega, by omega, h3, ?_⟩
          unfold labL
          rw [h5, h2, hd, eq_of_beq h58, printTail, ← h6]
          simp
      · rw [if_neg h58] at h; cases h
theorem labRead_sound (s : ByteArray) (x X : Int) (h : labRead s = (x, X, true)) : ∃ Z : Nat, X = Z ∧ 0 ≤ x ∧ x ≤ 15 ∧ Z < 18446744073709551616 ∧ s = labOf x Z := by
  obtain ⟨Z, h1, h2, h3, h4, h5⟩ := refP_sound _ _ _ _ h
  exact ⟨Z, h1, h2, h3, h4, ba_eq (by unfold labOf; rw [baOf_data, ← h5]; rfl)⟩
theorem refP_false : ∀ (l now : List UInt8) (lvl : Bool) (last a A : Int), (refP l now lvl last a A).2.2 = false → refP l now lvl last a A = (0, 0, false)
  | [], now, lvl, last, a, A, h => by
    rw [refP] at h ⊢
    cases hr : refNum now lvl last a A with
    | none => rfl
    | some y => rw [hr] at h; cases h
  | b :: t, now, lvl, last, a, A, h => by
    rw [refP] at h ⊢
    cases hb : isSep b with
    | false => rw [hb, if_neg (by decide)] at h; rw [if_neg (by decide)]; exact refP_false t _ _ _ _ _ h
    | true =>
      rw [hb, if_pos rfl] at h
      rw [if_pos rfl]
      by_cases h58 : (b == 58) = lvl
      · rw [if_pos h58] at h ⊢
        cases hr : refNum now lvl last a A with
        | none => rfl
        | some y => rw [hr] at h; exact refP_false t _ _ _ _ _ h
      · rw [if_neg h58]
theorem labRead_false (s : ByteArray) (h : (labRead s).2.2 = false) : labRead s = (0, 0, false) := refP_false _ _ _ _ _ _ h
/-! ### the program's Parse -/
theorem indexByte_memb (c : UInt8) (l : List UInt8) (h : 0 ≤ Lib.indexByte l c) : c ∈ l := by
  obtain ⟨i, hi⟩ := Int.eq_ofNat_of_zero_le h
  exact List.mem_of_getElem? (Lib.indexByte_some hi).1
theorem cutC_out (c : UInt8) (l : List UInt8) (h : ∀ b ∈ l, b ≠ c) : cutC c l = (l, [], false) := by
  rcases indexByte_cases c l with ⟨h1, _⟩ | ⟨i, h1, h2, _⟩
  · unfold cutC; rw [if_pos h1]
  · exfalso
    exact h c (indexByte_memb c l (by omega)) rfl
theorem indexByte_at (c : UInt8) : ∀ (xs ys : List UInt8), (∀ b ∈ xs, b ≠ c) → Lib.indexByte (xs ++ c :: ys) c = (xs.length : Int)
  | [], ys, h => by simp [Lib.indexByte]
  | x :: xs, ys, h => by
    have ih := indexByte_at c xs ys (fun b hb => h b (by simp [hb]))
    have hx : (x == c) = false := by simpa using h x (by simp)
    rw [List.cons_append, Lib.indexByte, hx]
    have h1 : (Lib.indexByte (xs ++ c :: ys) c == -1) = false := by rw [ih]; simp
    simp [h1, ih]
theorem cutC_in (c : UInt8) (xs ys : List UInt8) (h : ∀ b ∈ xs, b ≠ c) : cutC c (xs ++ c :: ys) = (xs, ys, true) := by
  unfold cutC
  rw [indexByte_at c xs ys h, if_neg (by omega), Int.toNat_natCast, List.take_left, ← List.drop_drop, List.drop_left]
  rfl
theorem splitC_out (c : UInt8) : ∀ (xs : List UInt8), (∀ b ∈ xs, b ≠ c) → splitC c xs = [xs]
  | [], h => rfl
  | x :: xs, h => by rw [splitC, if_neg (h x (by simp)), splitC_out c xs (fun b hb => h b (by simp [hb]))]
theorem splitC_in (c : UInt8) : ∀ (xs ys : List UInt8), (∀ b ∈ xs, b ≠ c) → splitC c (xs ++ c :: ys) = xs :: splitC c ys
  | [], ys, h => by simp [splitC]
  | x :: xs, ys, h => by rw [List.cons_append, splitC, if_neg (h x (by simp)), splitC_in c xs ys (fun b hb => h b (by simp [hb]))]
theorem decL_ne (n : Int) (c : UInt8) (hc : isSep c = true) (b : UInt8) (h : b ∈ decL n) : b ≠ c := by
  rintro rfl
  rw [decL_sep n b h] at hc
  cases hc
theorem split_tail : ∀ (cs : List Int) (c : Int), splitC 44 (decL c ++ printTail 44 cs) = (c :: cs).map decL
  | [], c => by rw [printTail, List.append_nil, splitC_out 44 _ (decL_ne c 44 (by decide))]; rfl
  | d :: cs, c => by rw [printTail, splitC_in 44 _ _ (decL_ne c 44 (by decide)), split_tail cs d]; rfl
theorem ofN_cats (A : Nat) (hA : A < 18446744073709551616) : ∀ (d i : Nat), i + d = 64 → ofN (catsFrom A i) (A % 2 ^ i) = some A
  | 0, i, h => by
    obtain rfl : i = 64 := by omega
    rw [catsFrom_end, ofN, Nat.mod_eq_of_lt (by omega)]
  | d + 1, i, h => by
    rw [catsFrom_next A i (by omega)]
    have ih := ofN_cats A hA d (i + 1) (by omega)
    cases hb : A.testBit i with
    | true =>
      have hm := mod_add_bit A i i (Nat.le_refl _) hb (fun j h1 h2 => by omega)
      have hn : (A % 2 ^ i).testBit i = false := by rw [Nat.testBit_mod_two_pow]; simp
      rw [if_pos rfl, ofN, if_pos ⟨by omega, by omega⟩, Int.toNat_natCast, or_new _ _ hn, ← hm]
      exact ih
    | false =>
      have hm : A % 2 ^ i = A % 2 ^ (i + 1) := by
        apply Nat.eq_of_testBit_eq
        intro j
        rw [Nat.testBit_mod_two_pow, Nat.testBit_mod_two_pow]
        by_cases e : j = i
        · subst e; rw [hb]; simp
        · congr 1; rw [Bool.eq_iff_iff]; simp; omega
      rw [if_neg (by decide), hm]
      exact ih
theorem cats_small (X : Nat) (c : Int) (h : c ∈ catsFrom X 0) : 0 ≤ c ∧ c ≤ 63 := by
  unfold catsFrom at h
  obtain ⟨j, h1, rfl⟩ := List.mem_map.1 h
  have := (List.mem_range'_1.1 (List.mem_filter.1 h1).1)
  omega
theorem num_decL (c : Int) (h0 : 0 ≤ c) (h1 : c ≤ 2147483647) : numOf (baOf (decL c)) = (c, true) := by
  obtain ⟨n, rfl⟩ := Int.eq_ofNat_of_zero_le h0
  rw [decL_dec]
  exact numOf_dec n (by omega)
theorem catsOf_dec : ∀ (cs : List Int), (∀ c ∈ cs, 0 ≤ c ∧ c ≤ 63) → catsOf ((cs.map decL).map baOf) = cs ∧ fineOf ((cs.map decL).map baOf) = true
  | [], h => ⟨rfl, rfl⟩
  | c :: cs, h => by
    obtain ⟨h1, h2⟩ := catsOf_dec cs (fun x hx => h x (by simp [hx]))
    have hc := h c (by simp)
    have hn := num_decL c hc.1 (by omega)
    unfold catsOf fineOf at *
    simp only [List.map_cons, List.all_cons, hn, h1, h2, Bool.and_self, and_self]
theorem dec_one_zero : decL 0 = [48] := by decide
theorem ofN_lt : ∀ (l : List Int) (A B : Nat), A < 18446744073709551616 → ofN l A = some B → B < 18446744073709551616
  | [], A, B, hA, h => by rw [ofN] at h; cases h; exact hA
  | c :: l, A, B, hA, h => by
    rw [ofN] at h
    split at h
    · rename_i hc
      exact ofN_lt l _ B (or_lt A _ hA (two_pow_lt c hc.1 hc.2)) h
    · cases h
/-- what label.Parse comes to, its two functions put in -/
def parseFin (s : ByteArray) : Int × Int × Bool :=
  if parseFine s = true then (match (ofAll (numOf (parseHead s)).1 (catsOf (parseWs s))) with
    | (a, A, e) => if e = 0 then (if labOf a A.toNat = s then (a, A, true) else (0, 0, false)) else (0, 0, false)) else (0, 0, false)
theorem labOf_zero : labOf 0 0 = ⟨#[48]⟩ := by
  unfold labOf labL
  rw [catsFrom_zero, dec_one_zero]; rfl
theorem parse_ws_le (s : ByteArray) : (parseWs s).length ≤ s.size + 1 := by
  unfold parseWs
  split
  · rw [List.length_map]
    have h1 := splitC_length 44 (cutC 58 s.data.toList).2.1
    have h2 : (cutC 58 s.data.toList).2.1.length ≤ s.size := by
      unfold cutC
      split
      · simp
      · simp [data_length]
    omega
  · simp
theorem parse_fin (s : ByteArray) (hs : s.size < 4294967281) : label_Parse.f s = some (parseFin s) := by
  unfold label_Parse.f
  have hw := parse_ws_le s
  rw [if_pos hs, text_Of_tells _ _ (by rw [catsOf_length]; omega) _ (by rw [catsOf_length]; omega)]
  simp only [Option.bind_some]
  unfold parseFin parseEnd
  cases hf : parseFine s with
  | false => rfl
  | true =>
    rw [if_neg (by decide), if_pos rfl]
    unfold ofAll
    by_cases ha : 0 ≤ (numOf (parseHead s)).1 ∧ (numOf (parseHead s)).1 ≤ 15
    · rw [if_pos ha]
      generalize (numOf (parseHead s)).1 = a at ha
      cases ho : ofN (catsOf (parseWs s)) 0 with
      | none => rfl
      | some A =>
        have hA := ofN_lt _ 0 A (by decide) ho
        simp only [ofEnd, if_true, Int.toNat_natCast]
        show (if a = 0 ∧ (A : Int) = 0 then (if s = ⟨#[48]⟩ then some ((0 : Int), (0 : Int), true) else some (0, 0, false)) else (label_Print.f 66 a (A : Int)).bind fun p => if p = s then some (a, (A : Int), true) else some (0, 0, false)) = some (if labOf a A = s then (a, (A : Int), true) else (0, 0, false))
        by_cases hz : a = 0 ∧ (A : Int) = 0
        · rw [if_pos hz]
          obtain ⟨rfl, h2⟩ := hz
          have h3 : A = 0 := by omega
          subst h3
          rw [labOf_zero]
          by_cases e : s = ⟨#[48]⟩
          · rw [if_pos e, if_pos e.symm]; rfl
          · rw [if_neg e, if_neg (fun h => e h.symm)]
        · rw [if_neg hz, text_Print_tells a A 66 hA (by omega)]
          simp only [Option.bind_some]
          split <;> rfl
    · rw [if_neg ha]; rfl
theorem parse_lab (a : Int) (X : Nat) (h0 : 0 ≤ a) (h1 : a ≤ 15) (hX : X < 18446744073709551616) : parseFin (labOf a X) = (a, (X : Int), true) := by
  have hcut : cutC 58 (labL a X) = (decL a, (labL a X).drop ((decL a).length + 1), !(catsFrom X 0).isEmpty) := by
    unfold labL
    cases hc : catsFrom X 0 with
    | nil =>
      rw [printTail, List.append_nil, cutC_out 58 _ (decL_ne a 58 (by decide))]
      simp
    | cons c cs =>
      rw [printTail, cutC_in 58 _ _ (decL_ne a 58 (by decide)), ← List.drop_drop, List.drop_left]
      rfl
  have hd : (labOf a X).data.toList = labL a X := rfl
  have hhead : parseHead (labOf a X) = baOf (decL a) := by unfold parseHead; rw [hd, hcut]
  have hws : parseWs (labOf a X) = ((catsFrom X 0).map decL).map baOf := by
    unfold parseWs
    rw [hd, hcut]
    cases hc : catsFrom X 0 with
    | nil => rfl
    | cons c cs =>
      simp only [List.isEmpty_cons, Bool.not_false, if_true]
      unfold labL
      rw [hc, printTail, ← List.drop_drop, List.drop_left, List.drop_one, List.tail_cons, split_tail]
  obtain ⟨hc1, hc2⟩ := catsOf_dec (catsFrom X 0) (cats_small X)
  have hn := num_decL a h0 (by omega)
  have ho : ofN (catsFrom X 0) 0 = some X := by
    have := ofN_cats X hX 64 0 (by omega)
    rwa [Nat.pow_zero, Nat.mod_one] at this
  unfold parseFin
  have hfine : parseFine (labOf a X) = true := by unfold parseFine; rw [hhead, hws, hn, hc2]; rfl
  rw [if_pos hfine, hhead, hws, hc1, hn]
  unfold ofAll
  rw [if_pos ⟨h0, h1⟩, ho]
  simp only [ofEnd, if_true, Int.toNat_natCast]
theorem parse_sound (s : ByteArray) (a A : Int) (h : parseFin s = (a, A, true)) : ∃ X : Nat, A = X ∧ 0 ≤ a ∧ a ≤ 15 ∧ X < 18446744073709551616 ∧ s = labOf a X := by
  unfold parseFin at h
  split at h
  · unfold ofAll at h
    by_cases ha : 0 ≤ (numOf (parseHead s)).1 ∧ (numOf (parseHead s)).1 ≤ 15
    · rw [if_pos ha] at h
      cases ho : ofN (catsOf (parseWs s)) 0 with
      | none => rw [ho] at h; simp [ofEnd] at h
      | some B =>
        have hB := ofN_lt _ 0 B (by decide) ho
        rw [ho] at h
        simp only [ofEnd, if_true, Int.toNat_natCast] at h
        replace h : (if labOf (numOf (parseHead s)).1 B = s then ((numOf (parseHead s)).1, (B : Int), true) else ((0 : Int), (0 : Int), false)) = (a, A, true) := h
        by_cases hl : labOf (numOf (parseHead s)).1 B = s
        · rw [if_pos hl] at h
          simp only [Prod.mk.injEq] at h
          obtain ⟨rfl, rfl, _⟩ := h
          exact ⟨B, rfl, ha.1, ha.2, hB, hl.symm⟩
        · rw [if_neg hl] at h; simp at h
    · rw [if_neg ha] at h; simp at h
  · simp at h
theorem parse_false (s : ByteArray) (h : (parseFin s).2.2 = false) : parseFin s = (0, 0, false) := by
  unfold parseFin at h ⊢
  split
  · rename_i hf
    rw [if_pos hf] at h
    generalize ofAll (numOf (parseHead s)).1 (catsOf (parseWs s)) = x at h
    obtain ⟨a, A, e⟩ := x
    dsimp only at h ⊢
    split
    · rename_i he
      rw [if_pos he] at h
      split
      · rename_i hl
        rw [if_pos hl] at h
        cases h
      · rfl
    · rfl
  · rfl
theorem parse_read (s : ByteArray) : parseFin s = labRead s := by
  cases h : (parseFin s).2.2 with
  | true =>
    obtain ⟨X, hA, h0, h1, hX, hs⟩ := parse_sound s (parseFin s).1 (parseFin s).2.1 (by rw [← h])
    rw [hs, parse_lab _ X h0 h1 hX, labRead_lab _ X h0 h1 hX]
  | false =>
    cases h2 : (labRead s).2.2 with
    | true =>
      obtain ⟨X, hA, h0, h1, hX, hs⟩ := labRead_sound s (labRead s).1 (labRead s).2.1 (by rw [← h2])
      rw [hs, parse_lab _ X h0 h1 hX] at h
      cases h
    | false => rw [parse_false s h, labRead_false s h2]
theorem label_Parse_tells (s : ByteArray) (hs : s.size < 4294967281) : label_Parse.f s = some (labRead s) := by rw [parse_fin s hs, parse_read]
end Go.Proofs.YthaimkdnddmokaaDoor.P

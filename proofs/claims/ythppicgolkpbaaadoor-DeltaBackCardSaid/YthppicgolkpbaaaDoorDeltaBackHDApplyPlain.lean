/- the list that a delta makes: the program and the reference tell applyGo; Apply of Make is the older list -/
import Derived.Test.YthppicgolkpbaaaDoorDeltaBackHDDeltaLaws
import Derived.Test.YthppicgolkpbaaaDoorDeltaBackPxJalousieref15
namespace Go.Proofs.YthppicgolkpbaaaDoor.P
open Go.RowKit Go.Proofs.YthppicgolkpbaaaDoorW.PrintWords Go.Proofs.YthppicgolkpbaaaDoorW.PrintLast Go.Proofs.YthppicgolkpbaaaDoorW.PrintMore
set_option linter.unusedVariables false
set_option linter.unusedSimpArgs false
def applyGo (N : List S41) : List S27 → List S41 → List S41 × Int
  | [], acc => (acc, 0)
  | p :: ps, acc => if wrongOf p.f0 p.f1 p.f2.length = 0 then (if 0 < p.f1 then (if (N.length : Int) < p.f1 ∨ (N.length : Int) - p.f1 < p.f0 then ([], 2) else applyGo N ps (acc ++ (N.take (p.f0 + p.f1).toNat).drop p.f0.toNat)) else applyGo N ps (acc ++ p.f2)) else ([], wrongOf p.f0 p.f1 p.f2.length)
def costOf (n : Nat) (d : List S27) : Nat := (d.map fun p => n + p.f2.length).sum
theorem cost_cons (n : Nat) (p : S27) (d : List S27) : costOf n (p :: d) = n + p.f2.length + costOf n d := by simp [costOf]
theorem wrong_good {a n : Int} {l : Nat} (h : wrongOf a n l = 0) : 0 ≤ a ∧ 0 ≤ n ∧ (0 < n → l = 0) ∧ (n = 0 → a = 0) := by
  unfold wrongOf at h
  by_cases h1 : (n = 0 ∧ l = 0) ∨ (¬ n = 0 ∧ ¬ l = 0)
  · rw [if_pos h1] at h; cases h
  · rw [if_neg h1] at h
    by_cases h2 : a < 0
    · rw [if_pos h2] at h; cases h
    · rw [if_neg h2] at h
      by_cases h3 : n < 0
      · rw [if_pos h3] at h; cases h
      · rw [if_neg h3] at h
        by_cases h4 : ¬ l = 0 ∧ ¬ a = 0
        · rw [if_pos h4] at h; cases h
        · omega
theorem cut_len (N : List S41) (a b : Nat) : ((N.take (a + b)).drop a).length ≤ N.length := by
  rw [List.length_drop, List.length_take]; omega
theorem apply_go (N : List S41) (hN : N.length ≤ 4000000000000) (d : List S27) (hd : d.length ≤ 4000000000000) : ∀ (n i : Nat) (acc : List S41), d.length - i = n → i ≤ d.length → acc.length + costOf N.length (d.drop i) < 2513169434916 →
    Ev (fun k => delta_Apply.l0 k N acc d (d.length : Int) (i : Int)) (applyGo N (d.drop i) acc)
  | 0, i, acc, hn, hi, hc => by
    obtain rfl : i = d.length := by omega
    rw [List.drop_length]
    refine Ev.step (f := fun _ => some (acc, 0)) (fun k => ?_) (Ev.now _)
    simp only [delta_Apply.l0]
    rw [if_neg (by omega)]
  | n + 1, i, acc, hn, hi, hc => by
    have h1 : i < d.length := by omega
    have hdr := part_drop d i h1
    rw [hdr] at hc ⊢
    rw [cost_cons] at hc
    generalize hp : rd_T27 d (i : Int) = p at hc hdr
    have head : ∀ r, Ev (fun k => (if wrongOf p.f0 p.f1 p.f2.length = 0 then (if p.f1 > 0 then (if p.f1 > (N.length : Int) then (some (([] : List S41), (2 : Int))) else (if p.f0 > (wrap64 ((N.length : Int) - p.f1)) then (some (([] : List S41), 2)) else (if 0 ≤ p.f0 then (if p.f0 ≤ (wrap64 (p.f0 + p.f1)) then (if (wrap64 (p.f0 + p.f1)) ≤ (N.length : Int) then ((some ((N.take ((wrap64 (p.f0 + p.f1)) : Int).toNat).drop (p.f0 : Int).toNat : List S41)).bind fun y109 => (if acc.length + y109.length < 2513169434916 then (delta_Apply.l0 k N (acc ++ y109) d (d.length : Int) ((i + 1 : Nat) : Int)) else (none))) else (none)) else (none)) else (none)))) else (if acc.length + p.f2.length < 2513169434916 then (delta_Apply.l0 k N (acc ++ p.f2) d (d.length : Int) ((i + 1 : Nat) : Int)) else (none))) else (some (([] : List S41), wrongOf p.f0 p.f1 p.f2.length)))) r → Ev (fun k => delta_Apply.l0 k N acc d (d.length : Int) (i : Int)) r := by
      intro r h
      refine Ev.step (fun k => ?_) h
      simp only [delta_Apply.l0]
      rw [if_pos (by omega), if_pos (by omega), if_pos (by omega), hp, wrap_at (by omega)]
      rfl
    refine head _ ?_
    rw [applyGo]
    by_cases hw : wrongOf p.f0 p.f1 p.f2.length = 0
    · rw [if_pos hw]
      have hg := wrong_good hw
      by_cases h0 : 0 < p.f1
      · rw [if_pos h0]
        by_cases h2 : (N.length : Int) < p.f1
        · rw [if_pos (.inl h2)]
          exact Ev.congr (fun k => by rw [if_pos hw, if_pos h0, if_pos h2]) (Ev.now _)
        · have hwr : wrap64 ((N.length : Int) - p.f1) = (N.length : Int) - p.f1 := by unfold wrap64; omega
          by_cases h3 : (N.length : Int) - p.f1 < p.f0
          · rw [if_pos (.inr h3)]
            exact Ev.congr (fun k => by rw [if_pos hw, if_pos h0, if_neg h2, hwr, if_pos h3]) (Ev.now _)
          · rw [if_neg (by omega)]
            have hwr2 : wrap64 (p.f0 + p.f1) = p.f0 + p.f1 := by unfold wrap64; omega
            have e1 : (p.f0 + p.f1).toNat = p.f0.toNat + p.f1.toNat := by omega
            have hl := cut_len N p.f0.toNat p.f1.toNat
            rw [← e1] at hl
            have ih := apply_go N hN d hd n (i + 1) (acc ++ (N.take (p.f0 + p.f1).toNat).drop p.f0.toNat) (by omega) (by omega) (by rw [List.length_append]; omega)
            refine Ev.congr (fun k => ?_) ih
            rw [if_pos hw, if_pos h0, if_neg h2, hwr, if_neg h3, if_pos (by omega), hwr2, if_pos (by omega), if_pos (by omega)]
            simp only [Option.bind_some]
            rw [if_pos (by omega)]
      · rw [if_neg h0]
        have ih := apply_go N hN d hd n (i + 1) (acc ++ p.f2) (by omega) (by omega) (by rw [List.length_append]; omega)
        refine Ev.congr (fun k => ?_) ih
        rw [if_pos hw, if_neg (by omega), if_pos (by omega)]
    · rw [if_neg hw]
      exact Ev.congr (fun k => by rw [if_neg hw]) (Ev.now _)
theorem apply_tells (N : List S41) (hN : N.length ≤ 4000000000000) (d : List S27) (hd : d.length ≤ 4000000000000) (hc : costOf N.length d < 2513169434916) : Ev (fun k => delta_Apply.f k N d) (applyGo N d []) := by
  have := apply_go N hN d hd _ 0 [] rfl (Nat.zero_le _) (by simpa using hc)
  rw [List.drop_zero] at this
  exact this
/-! ### the reference -/
theorem cut_snoc (N : List S41) (a b : Nat) (h : a + b < N.length) : (N.take (a + (b + 1))).drop a = (N.take (a + b)).drop a ++ [rd_T41 N ((a + b : Nat) : Int)] := by
  rw [← Nat.add_assoc, List.take_add_one, it_at N (a + b) h, List.drop_append_of_le_length (by rw [List.length_take]; omega)]
  rfl
/-! ### Apply of Make is the older list -/
def partGood (N : List S41) (p : S27) : Prop := (∃ a f : Nat, p.f0 = (a : Int) ∧ p.f1 = (f : Int) ∧ 0 < f ∧ a + f ≤ N.length ∧ p.f2 = []) ∨ (p.f0 = 0 ∧ p.f1 = 0 ∧ ¬ p.f2 = [])
def partOut (N : List S41) (p : S27) : List S41 := if 0 < p.f1 then (N.take (p.f0 + p.f1).toNat).drop p.f0.toNat else p.f2
def outOf (N : List S41) (d : List S27) : List S41 := (d.map (partOut N)).flatten
theorem out_snoc (N : List S41) (qs : List S27) (q : S27) : outOf N (qs ++ [q]) = outOf N qs ++ partOut N q := by simp [outOf]
theorem apply_good (N : List S41) : ∀ (d : List S27) (acc : List S41), (∀ p ∈ d, partGood N p) → applyGo N d acc = (acc ++ outOf N d, 0)
  | [], acc, _ => by simp [applyGo, outOf]
  | p :: d, acc, h => by
    rw [applyGo]
    have ih := fun acc => apply_good N d acc (fun q hq => h q (by simp [hq]))
    have ho : outOf N (p :: d) = partOut N p ++ outOf N d := by simp [outOf]
    rcases h p (by simp) with ⟨a, f, h0, h1, hf, haf, h2⟩ | ⟨h0, h1, h2⟩
    · have hw : wrongOf p.f0 p.f1 p.f2.length = 0 := by
        rw [h0, h1, h2]
        unfold wrongOf
        rw [if_neg (by simp; omega), if_neg (by omega), if_neg (by omega), if_neg (by simp)]
      rw [if_pos hw, if_pos (by omega), if_neg (by omega), ih, ho]
      unfold partOut
      rw [if_pos (by omega), List.append_assoc]
    · have hl : ¬ p.f2.length = 0 := fun e => h2 (List.eq_nil_of_length_eq_zero e)
      have hw : wrongOf p.f0 p.f1 p.f2.length = 0 := by
        rw [h0, h1]
        unfold wrongOf
        rw [if_neg (by omega), if_neg (by omega), if_neg (by omega), if_neg (by omega)]
      rw [if_pos hw, if_neg (by omega), ih, ho]
      unfold partOut
      rw [if_neg (by omega), List.append_assoc]
def backInv (N : List S41) (i : Nat) (s : Int) (ps : List S27) : Prop := (∀ p ∈ ps, partGood N p) ∧ (s = 1 → ∃ qs q, ps = qs ++ [q] ∧ 0 < q.f1 ∧ q.f0 + q.f1 = (i : Int) ∧ q.f2 = []) ∧ (s = 3 → ∃ qs q, ps = qs ++ [q] ∧ q.f0 = 0 ∧ q.f1 = 0 ∧ ¬ q.f2 = [])
theorem back_keep {N : List S41} {i : Nat} {s : Int} {ps : List S27} (h : backInv N i s ps) (hi : i < N.length) : backInv N (i + 1) 1 (keepP ps s (i : Int)) ∧ outOf N (keepP ps s (i : Int)) = outOf N ps ++ [rd_T41 N (i : Int)] := by
  by_cases e : s = 1
  · subst e
    obtain ⟨qs, q, rfl, hq1, hq0, hq2⟩ := h.2.1 rfl
    have hg := h.1 q (by simp)
    obtain ⟨a, f, h0, h1, hf, haf, h2⟩ | ⟨_, h1, _⟩ := hg
    case inr => omega
    have haf2 : a + f = i := by omega
    rw [keepP_snoc]
    refine ⟨⟨fun p hp => ?_, fun _ => ⟨qs, _, rfl, by show 0 < q.f1 + 1; omega, by show q.f0 + (q.f1 + 1) = _; omega, hq2⟩, (fun e => by cases e)⟩, ?_⟩
    · rcases List.mem_append.1 hp with hp | hp
      · exact h.1 p (by simp [hp])
      · rw [List.mem_singleton.1 hp]
        exact .inl ⟨a, f + 1, h0, by show q.f1 + 1 = _; omega, by omega, by omega, hq2⟩
    · rw [out_snoc, out_snoc, List.append_assoc]
      congr 1
      unfold partOut
      rw [if_pos (show 0 < q.f1 + 1 by omega), if_pos (show 0 < q.f1 by omega)]
      have e1 : (q.f0 + (q.f1 + 1)).toNat = a + (f + 1) := by omega
      have e2 : (q.f0 + q.f1).toNat = a + f := by omega
      have e3 : q.f0.toNat = a := by omega
      show (N.take (q.f0 + (q.f1 + 1)).toNat).drop q.f0.toNat = _
      rw [e1, e2, e3, cut_snoc N a f (by omega), haf2]
  · unfold keepP
    rw [if_neg e]
    refine ⟨⟨fun p hp => ?_, fun _ => ⟨ps, _, rfl, by show (0 : Int) < 1; omega, rfl, rfl⟩, (fun e => by cases e)⟩, ?_⟩
    · rcases List.mem_append.1 hp with hp | hp
      · exact h.1 p hp
      · rw [List.mem_singleton.1 hp]
        exact .inl ⟨i, 1, rfl, rfl, by omega, by omega, rfl⟩
    · rw [out_snoc]
      congr 1
      unfold partOut
      rw [if_pos (show (0 : Int) < 1 by omega)]
      show (N.take ((i : Int) + 1).toNat).drop (i : Int).toNat = _
      have e1 : ((i : Int) + 1).toNat = i + (0 + 1) := by omega
      rw [e1, Int.toNat_natCast, cut_snoc N i 0 (by omega), Nat.add_zero, List.drop_eq_nil_of_le (by rw [List.length_take]; omega)]
      rfl
theorem back_in {N : List S41} {i : Nat} {s : Int} {ps : List S27} {x : S41} (h : backInv N i s ps) : backInv N i 3 (inP ps s x) ∧ outOf N (inP ps s x) = outOf N ps ++ [x] := by
  by_cases e : s = 3
  · subst e
    obtain ⟨qs, q, rfl, hq0, hq1, hq2⟩ := h.2.2 rfl
    rw [inP_snoc]
    refine ⟨⟨fun p hp => ?_, (fun e => by cases e), fun _ => ⟨qs, _, rfl, hq0, hq1, by simp⟩⟩, ?_⟩
    · rcases List.mem_append.1 hp with hp | hp
      · exact h.1 p (by simp [hp])
      · rw [List.mem_singleton.1 hp]
        exact .inr ⟨hq0, hq1, by simp⟩
    · rw [out_snoc, out_snoc, List.append_assoc]
      congr 1
      unfold partOut
      rw [if_neg (show ¬ 0 < q.f1 by omega), if_neg (show ¬ 0 < q.f1 by omega)]
  · unfold inP
    rw [if_neg e]
    refine ⟨⟨fun p hp => ?_, (fun e => by cases e), fun _ => ⟨ps, _, rfl, rfl, rfl, by simp⟩⟩, ?_⟩
    · rcases List.mem_append.1 hp with hp | hp
      · exact h.1 p hp
      · rw [List.mem_singleton.1 hp]
        exact .inr ⟨rfl, rfl, by simp⟩
    · rw [out_snoc]
      rfl
theorem back_out {N : List S41} {i i' : Nat} {s : Int} {ps : List S27} (h : backInv N i s ps) : backInv N i' 2 ps := ⟨h.1, (fun e => by cases e), (fun e => by cases e)⟩
theorem back_go (N O : List S41) : ∀ (k i j : Nat) (s : Int) (ps : List S27), i ≤ N.length → j ≤ O.length → (N.length - i) + (O.length - j) ≤ k → backInv N i s ps →
    (∀ p ∈ mkGo k (i : Int) (N.drop i) (O.drop j) s ps, partGood N p) ∧ outOf N (mkGo k (i : Int) (N.drop i) (O.drop j) s ps) = outOf N ps ++ O.drop j
  | 0, i, j, s, ps, hi, hj, hk, hb => by
    obtain rfl : j = O.length := by omega
    rw [mkGo, List.drop_length, List.append_nil]
    exact ⟨hb.1, rfl⟩
  | k + 1, i, j, s, ps, hi, hj, hk, hb => by
    by_cases hj2 : j < O.length
    · have hdj := it_drop O j hj2
      by_cases hi2 : i < N.length
      · have hdi := it_drop N i hi2
        rw [hdi, hdj, mkGo, ← hdi, ← hdj]
        by_cases he : eqIt (rd_T41 N (i : Int)) (rd_T41 O (j : Int)) = true
        · rw [if_pos he]
          have hkp := back_keep hb hi2
          have ih := back_go N O k (i + 1) (j + 1) 1 (keepP ps s (i : Int)) (by omega) (by omega) (by omega) hkp.1
          refine ⟨ih.1, ih.2.trans ?_⟩
          rw [hkp.2, hdj, ← (eqIt_iff _ _).1 he, List.append_assoc]
          rfl
        · rw [if_neg he]
          by_cases hc : cntIt (N.drop i) (rd_T41 O (j : Int)) = 0
          · rw [if_pos hc]
            have hin := back_in (x := rd_T41 O (j : Int)) hb
            have ih := back_go N O k i (j + 1) 3 _ hi (by omega) (by omega) hin.1
            refine ⟨ih.1, ih.2.trans ?_⟩
            rw [hin.2, hdj, List.append_assoc]
            rfl
          · rw [if_neg hc]
            exact back_go N O k (i + 1) j 2 ps (by omega) hj (by omega) (back_out hb)
      · obtain rfl : i = N.length := by omega
        have hin := back_in (x := rd_T41 O (j : Int)) hb
        have ih := back_go N O k N.length (j + 1) 3 _ (Nat.le_refl _) (by omega) (by omega) hin.1
        rw [List.drop_length] at ih ⊢
        rw [hdj, mkGo]
        refine ⟨ih.1, ih.2.trans ?_⟩
        rw [hin.2, List.append_assoc]
        rfl
    · obtain rfl : j = O.length := by omega
      by_cases hi2 : i < N.length
      · have ih := back_go N O k (i + 1) O.length 2 ps (by omega) (Nat.le_refl _) (by omega) (back_out hb)
        rw [List.drop_length] at ih ⊢
        rw [it_drop N i hi2, mkGo]
        exact ih
      · obtain rfl : i = N.length := by omega
        rw [List.drop_length, List.drop_length, mkGo, List.append_nil]
        exact ⟨hb.1, rfl⟩
theorem apply_make (N O : List S41) : applyGo N (makeOf N O) [] = (O, 0) := by
  have h := back_go N O (N.length + O.length) 0 0 0 [] (Nat.zero_le _) (Nat.zero_le _) (by omega) ⟨(fun p hp => by cases hp), (fun e => by cases e), (fun e => by cases e)⟩
  have h1 : mkGo (N.length + O.length) ((0 : Nat) : Int) (N.drop 0) (O.drop 0) 0 [] = makeOf N O := rfl
  rw [h1] at h
  rw [apply_good N _ _ h.1, h.2]
  simp [outOf]
theorem make_cost (N O : List S41) (hN : N.length ≤ 400000) (hO : O.length ≤ 400000) : costOf N.length (makeOf N O) < 2513169434916 := by
  have hf := make_fit N O
  have ho := make_own_le N O
  have : ∀ d : List S27, costOf N.length d = N.length * d.length + ownOf d := by
    intro d
    induction d with
    | nil => simp [costOf, ownOf]
    | cons p d ih =>
      rw [cost_cons, ih]
      have : ownOf (p :: d) = p.f2.length + ownOf d := by simp [ownOf]
      rw [this, List.length_cons, Nat.mul_succ]
      omega
  rw [this]
  have h1 : N.length * (makeOf N O).length ≤ 400000 * 800000 := Nat.mul_le_mul hN (by have := hf.1; omega)
  omega
end Go.Proofs.YthppicgolkpbaaaDoor.P

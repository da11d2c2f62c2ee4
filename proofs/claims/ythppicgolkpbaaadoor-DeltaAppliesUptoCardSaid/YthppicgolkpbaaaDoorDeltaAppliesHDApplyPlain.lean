/- the list that a delta makes: the program and the reference tell applyGo; Apply of Make is the older list -/
import Derived.Test.YthppicgolkpbaaaDoorDeltaAppliesHDDeltaLaws
import Derived.Test.YthppicgolkpbaaaDoorDeltaAppliesPxJalousieref15
namespace Go.Proofs.YthppicgolkpbaaaDoor.P
open Go.RowKit Go.Proofs.YthppicgolkpbaaaDoorW.PrintWords Go.Proofs.YthppicgolkpbaaaDoorW.PrintLast Go.Proofs.YthppicgolkpbaaaDoorW.PrintMore
set_option linter.unusedVariables false
set_option linter.unusedSimpArgs false
def applyGo (N : List S41) : List S27 → List S41 → List S41 × Int
  | [], acc => (acc, 0)
  | p :: ps, acc => if wrongOf p.f0 p.f1 p.f2.length = 0 then (if 0 < p.f1 then (if (N.length : Int) < p.f1 ∨ (N.length : Int) - p.f1 < p.f0 then ([], 2) else applyGo N ps (acc ++ (N.take (p.f0 + p.f1).toNat).drop p.f0.toNat)) else applyGo N ps (acc ++ p.f2)) else ([], wrongOf p.f0 p.f1 p.f2.length)
def costOf (n : Nat) (d : List S27) : Nat := (d.map fun p => n + p.f2.length).sum
theorem cost_cons (n : Nat) (p : S27) (d : List S27) : costOf n (p :: d) = n + p.f2.length + costOf n d := by simp [costOf]
theorem wrong_good {a n : Int} {l : Nat} (h : wrongOf a n l = 0) : 0 ≤ a ∧ 0 ≤ n ∧ (0 < n → l = 0) ∧ (n = 0 → a = 0) := by
  unfold wrongOf at h
  by_cases h1 : (n = 0 ∧ l = 0) ∨ (¬ n = 0 ∧ ¬ l = 0)
  · rw [if_pos h1] at h; cases h
  · rw [if_neg h1] at h
    by_cases h2 : a < 0
    · rw [if_pos h2] at h; cases h
    · rw [if_neg h2] at h
      by_cases h3 : n < 0
      · rw [if_pos h3] at h; cases h
      · rw [if_neg h3] at h
        by_cases h4 : ¬ l = 0 ∧ ¬ a = 0
        · rw [if_pos h4] at h; cases h
        · omega
theorem cut_len (N : List S41) (a b : Nat) : ((N.take (a + b)).drop a).length ≤ N.length := by
  rw [List.length_drop, List.length_take]; omega
theorem apply_go (N : List S41) (hN : N.length ≤ 4000000000000) (d : List S27) (hd : d.length ≤ 4000000000000) : ∀ (n i : Nat) (acc : List S41), d.length - i = n → i ≤ d.length → acc.length + costOf N.length (d.drop i) < 2513169434916 →
    Ev (fun k => delta_Apply.l0 k N acc d (d.length : Int) (i : Int)) (applyGo N (d.drop i) acc)
  | 0, i, acc, hn, hi, hc => by
    obtain rfl : i = d.length := by omega
    rw [List.drop_length]
    refine Ev.step (f := fun _ => some (acc, 0)) (fun k => ?_) (Ev.now _)
    simp only [delta_Apply.l0]
    rw [if_neg (by omega)]
  | n + 1, i, acc, hn, hi, hc => by
    have h1 : i < d.length := by omega
    have hdr := part_drop d i h1
    rw [hdr] at hc ⊢
    rw [cost_cons] at hc
    generalize hp : rd_T27 d (i : Int) = p at hc hdr
    have head : ∀ r, Ev (fun k => (if wrongOf p.f0 p.f1 p.f2.length = 0 then (if p.f1 > 0 then (if p.f1 > (N.length : Int) then (some (([] : List S41), (2 : Int))) else (if p.f0 > (wrap64 ((N.length : Int) - p.f1)) then (some (([] : List S41), 2)) else (if 0 ≤ p.f0 then (if p.f0 ≤ (wrap64 (p.f0 + p.f1)) then (if (wrap64 (p.f0 + p.f1)) ≤ (N.length : Int) then ((some ((N.take ((wrap64 (p.f0 + p.f1)) : Int).toNat).drop (p.f0 : Int).toNat : List S41)).bind fun y109 => (if acc.length + y109.length < 2513169434916 then (delta_Apply.l0 k N (acc ++ y109) d (d.length : Int) ((i + 1 : Nat) : Int)) else (none))) else (none)) else (none)) else (none)))) else (if acc.length + p.f2.length < 2513169434916 then (delta_Apply.l0 k N (acc ++ p.f2) d (d.length : Int) ((i + 1 : Nat) : Int)) else (none))) else (some (([] : List S41), wrongOf p.f0 p.f1 p.f2.length)))) r → Ev (fun k => delta_Apply.l0 k N acc d (d.length : Int) (i : Int)) r := by
      intro r h
      refine Ev.step (fun k => ?_) h
      simp only [delta_Apply.l0]
      rw [if_pos (by omega), if_pos (by omega), if_pos (by omega), hp, wrap_at (by omega)]
      rfl
    refine head _ ?_
    rw [applyGo]
    by_cases hw : wrongOf p.f0 p.f1 p.f2.length = 0
    · rw [if_pos hw]
      have hg := wrong_good hw
      by_cases h0 : 0 < p.f1
      · rw [if_pos h0]
        by_cases h2 : (N.length : Int) < p.f1
        · rw [if_pos (.inl h2)]
          exact Ev.congr (fun k => by rw [if_pos hw, if_pos h0, if_pos h2]) (Ev.now _)
        · have hwr : wrap64 ((N.length : Int) - p.f1) = (N.length : Int) - p.f1 := by unfold wrap64; omega
          by_cases h3 : (N.length : Int) - p.f1 < p.f0
          · rw [if_pos (.inr h3)]
            exact Ev.congr (fun k => by rw [if_pos hw, if_pos h0, if_neg h2, hwr, if_pos h3]) (Ev.now _)
          · rw [if_neg (by omega)]
            have hwr2 : wrap64 (p.f0 + p.f1) = p.f0 + p.f1 := by unfold wrap64; omega
            have e1 : (p.f0 + p.f1).toNat = p.f0.toNat + p.f1.toNat := by omega
            have hl := cut_len N p.f0.toNat p.f1.toNat
            rw [← e1] at hl
            have ih := apply_go N hN d hd n (i + 1) (acc ++ (N.take (p.f0 + p.f1).toNat).drop p.f0.toNat) (by omega) (by omega) (by rw [List.length_append]; omega)
            refine Ev.congr (fun k => ?_) ih
            rw [if_pos hw, if_pos h0, if_neg h2, hwr, if_neg h3, if_pos (by omega), hwr2, if_pos (by omega), if_pos (by omega)]
            simp only [Option.bind_some]
            rw [if_pos (by omega)]
      · rw [if_neg h0]
        have ih := apply_go N hN d hd n (i + 1) (acc ++ p.f2) (by omega) (by omega) (by rw [List.length_append]; omega)
        refine Ev.congr (fun k => ?_) ih
        rw [if_pos hw, if_neg (by omega), if_pos (by omega)]
    · rw [if_neg hw]
      exact Ev.congr (fun k => by rw [if_neg hw]) (Ev.now _)
theorem apply_tells (N : List S41) (hN : N.length ≤ 4000000000000) (d : List S27) (hd : d.length ≤ 4000000000000) (hc : costOf N.length d < 2513169434916) : Ev (fun k => delta_Apply.f k N d) (applyGo N d []) := by
  have := apply_go N hN d hd _ 0 [] rfl (Nat.zero_le _) (by simpa using hc)
  rw [List.drop_zero] at this
  exact this
/-! ### the reference -/
theorem ref_wrong (p : S27) : Ev (fun k => jalousieref15_wrong.f k p.f0 p.f1 p.f2) (wrongOf p.f0 p.f1 p.f2.length) := by
  refine ⟨1, fun k hk => ?_⟩
  obtain ⟨k, rfl⟩ : ∃ m, k = m + 1 := ⟨k - 1, by omega⟩
  unfold jalousieref15_wrong.f wrongOf
  simp only [jalousieref15_wrong.j0]
  by_cases h1 : p.f1 = 0
  · rw [if_pos h1]
    by_cases h2 : p.f2.length = 0
    · have : ((p.f2.length : Int) == 0) = true := by simp; exact List.eq_nil_of_length_eq_zero h2
      rw [this, if_pos rfl, if_pos (.inl ⟨h1, h2⟩)]
    · have : ((p.f2.length : Int) == 0) = false := by simp; intro h; rw [h] at h2; simp at h2
      rw [this, if_neg (by decide), if_neg (show ¬ ((p.f1 = 0 ∧ p.f2.length = 0) ∨ (¬ p.f1 = 0 ∧ ¬ p.f2.length = 0)) by omega)]
      by_cases h3 : p.f0 < 0
      · rw [if_pos h3, if_pos h3]
      · rw [if_neg h3, if_neg h3, if_neg (show ¬ p.f1 < 0 by omega), if_neg (show ¬ p.f1 < 0 by omega), if_pos (show (p.f2.length : Int) > 0 by omega)]
        by_cases h4 : p.f0 = 0
        · rw [if_pos h4, if_neg (by omega)]
        · rw [if_neg h4, if_pos ⟨h2, h4⟩]
  · rw [if_neg h1]
    by_cases h2 : p.f2.length = 0
    · rw [if_neg (by omega), if_neg (by decide), if_neg (show ¬ ((p.f1 = 0 ∧ p.f2.length = 0) ∨ (¬ p.f1 = 0 ∧ ¬ p.f2.length = 0)) by omega)]
      by_cases h3 : p.f0 < 0
      · rw [if_pos h3, if_pos h3]
      · rw [if_neg h3, if_neg h3]
        by_cases h5 : p.f1 < 0
        · rw [if_pos h5, if_pos h5]
        · rw [if_neg h5, if_neg h5, if_neg (by omega), if_neg (by omega)]
    · rw [if_pos (by omega), if_pos trivial, if_pos (.inr ⟨h1, h2⟩)]
theorem cut_snoc (N : List S41) (a b : Nat) (h : a + b < N.length) : (N.take (a + (b + 1))).drop a = (N.take (a + b)).drop a ++ [rd_T41 N ((a + b : Nat) : Int)] := by
  rw [← Nat.add_assoc, List.take_add_one, it_at N (a + b) h, List.drop_append_of_le_length (by rw [List.length_take]; omega)]
  rfl
set_option maxHeartbeats 1000000 in
theorem ref_copy (N : List S41) (hN : N.length ≤ 1000000000000) (d : List S27) (i : Nat) (p : S27) (a f : Nat) (ha : p.f0 = (a : Int)) (hf : p.f1 = (f : Int)) (haf : a + f ≤ N.length) (acc : List S41) (hc : acc.length + N.length + p.f2.length < 2513169434916) (hi : i ≤ 1000000000000) {r : List S41 × Int}
    (h : Ev (fun k => jalousieref15_Apply.l0 k N d (acc ++ (N.take (a + f)).drop a ++ p.f2) ((i + 1 : Nat) : Int)) r) : ∀ (n b : Nat), f - b = n → b ≤ f → Ev (fun k => jalousieref15_Apply.l1 k N d (acc ++ (N.take (a + b)).drop a) (i : Int) (b : Int) p.f0 p.f1 p.f2) r
  | 0, b, hn, hb => by
    obtain rfl : b = f := by omega
    have hl := cut_len N a b
    refine Ev.step (fun k => ?_) h
    simp only [jalousieref15_Apply.l1]
    rw [if_neg (by omega), if_pos (by rw [List.length_append]; omega), wrap_at (by omega)]
  | n + 1, b, hn, hb => by
    have hl := cut_len N a b
    have ih := ref_copy N hN d i p a f ha hf haf acc hc hi h n (b + 1) (by omega) (by omega)
    refine Ev.step (fun k => ?_) ih
    simp only [jalousieref15_Apply.l1]
    have e : wrap64 (p.f0 + (b : Int)) = ((a + b : Nat) : Int) := by rw [ha]; unfold wrap64; omega
    rw [if_pos (by omega), e, if_pos (by omega), if_pos (by omega), if_pos (by rw [List.length_append]; omega), wrap_at (by omega), cut_snoc N a b (by omega), List.append_assoc]
theorem ref_apply_go (N : List S41) (hN : N.length ≤ 1000000000000) (d : List S27) (hd : d.length ≤ 1000000000000) : ∀ (n i : Nat) (acc : List S41), d.length - i = n → i ≤ d.length → acc.length + costOf N.length (d.drop i) < 2513169434916 →
    Ev (fun k => jalousieref15_Apply.l0 k N d acc (i : Int)) (applyGo N (d.drop i) acc)
  | 0, i, acc, hn, hi, hc => by
    obtain rfl : i = d.length := by omega
    rw [List.drop_length]
    refine Ev.step (f := fun _ => some (acc, 0)) (fun k => ?_) (Ev.now _)
    simp only [jalousieref15_Apply.l0]
    rw [if_neg (by omega)]
  | n + 1, i, acc, hn, hi, hc => by
    have h1 : i < d.length := by omega
    have hdr := part_drop d i h1
    rw [hdr] at hc ⊢
    rw [cost_cons] at hc
    generalize hp : rd_T27 d (i : Int) = p at hc hdr
    have head : ∀ r, Ev (fun k => (if wrongOf p.f0 p.f1 p.f2.length = 0 then (if p.f1 > (N.length : Int) then (jalousieref15_Apply.j1 k N d acc (i : Int) true p.f0 p.f1 p.f2) else (jalousieref15_Apply.j1 k N d acc (i : Int) (decide (p.f0 > (wrap64 ((N.length : Int) - p.f1)))) p.f0 p.f1 p.f2)) else (some (([] : List S41), wrongOf p.f0 p.f1 p.f2.length)))) r → Ev (fun k => jalousieref15_Apply.l0 k N d acc (i : Int)) r := by
      intro r h
      refine Ev.step (f := fun k => (jalousieref15_wrong.f k p.f0 p.f1 p.f2).bind fun t231 => (if t231 = 0 then (if p.f1 > (N.length : Int) then (jalousieref15_Apply.j1 k N d acc (i : Int) true p.f0 p.f1 p.f2) else (jalousieref15_Apply.j1 k N d acc (i : Int) (decide (p.f0 > (wrap64 ((N.length : Int) - p.f1)))) p.f0 p.f1 p.f2)) else (some (([] : List S41), t231)))) (fun k => ?_) (Ev.bind (ref_wrong p) h)
      simp only [jalousieref15_Apply.l0]
      rw [if_pos (by omega), if_pos (by omega), hp]
    refine head _ ?_
    rw [applyGo]
    by_cases hw : wrongOf p.f0 p.f1 p.f2.length = 0
    · rw [if_pos hw]
      have hg := wrong_good hw
      by_cases h2 : (N.length : Int) < p.f1
      · rw [if_pos (show 0 < p.f1 by omega), if_pos (.inl h2)]
        refine Ev.congr (f := fun k => jalousieref15_Apply.j1 k N d acc (i : Int) true p.f0 p.f1 p.f2) (fun k => by rw [if_pos hw, if_pos h2]) ?_
        refine Ev.step (f := fun _ => some ([], 2)) (fun k => ?_) (Ev.now _)
        simp only [jalousieref15_Apply.j1]
        rw [if_pos trivial]
      · have hwr : wrap64 ((N.length : Int) - p.f1) = (N.length : Int) - p.f1 := by unfold wrap64; omega
        refine Ev.congr (f := fun k => jalousieref15_Apply.j1 k N d acc (i : Int) (decide (p.f0 > (N.length : Int) - p.f1)) p.f0 p.f1 p.f2) (fun k => by rw [if_pos hw, if_neg h2, hwr]) ?_
        by_cases h3 : (N.length : Int) - p.f1 < p.f0
        · have hd3 : decide (p.f0 > (N.length : Int) - p.f1) = true := decide_eq_true h3
          rw [hd3]
          have h30 : (if 0 < p.f1 then (if (N.length : Int) < p.f1 ∨ (N.length : Int) - p.f1 < p.f0 then ([], 2) else applyGo N (d.drop (i + 1)) (acc ++ (N.take (p.f0 + p.f1).toNat).drop p.f0.toNat)) else applyGo N (d.drop (i + 1)) (acc ++ p.f2)) = ([], 2) := by
            by_cases h0 : 0 < p.f1
            · rw [if_pos h0, if_pos (.inr h3)]
            · omega
          rw [h30]
          refine Ev.step (f := fun _ => some ([], 2)) (fun k => ?_) (Ev.now _)
          simp only [jalousieref15_Apply.j1]
          rw [if_pos trivial]
        · have hd3 : decide (p.f0 > (N.length : Int) - p.f1) = false := decide_eq_false h3
          rw [hd3]
          obtain ⟨a, ha⟩ := Int.eq_ofNat_of_zero_le hg.1
          obtain ⟨f, hf⟩ := Int.eq_ofNat_of_zero_le hg.2.1
          have hl := cut_len N a f
          have e1 : (p.f0 + p.f1).toNat = a + f := by omega
          have e2 : p.f0.toNat = a := by omega
          have key : Ev (fun k => jalousieref15_Apply.l0 k N d (acc ++ (N.take (a + f)).drop a ++ p.f2) ((i + 1 : Nat) : Int)) (if 0 < p.f1 then (if (N.length : Int) < p.f1 ∨ (N.length : Int) - p.f1 < p.f0 then ([], 2) else applyGo N (d.drop (i + 1)) (acc ++ (N.take (p.f0 + p.f1).toNat).drop p.f0.toNat)) else applyGo N (d.drop (i + 1)) (acc ++ p.f2)) := by
            by_cases h0 : 0 < p.f1
            · rw [if_pos h0, if_neg (by omega), e1, e2]
              have hn2 : p.f2 = [] := List.eq_nil_of_length_eq_zero (hg.2.2.1 h0)
              rw [hn2, List.append_nil]
              exact ref_apply_go N hN d hd n (i + 1) _ (by omega) (by omega) (by rw [List.length_append]; omega)
            · rw [if_neg h0]
              have hf0 : f = 0 := by omega
              have hcut : (N.take (a + f)).drop a = [] := by rw [hf0, Nat.add_zero, List.drop_eq_nil_of_le (by rw [List.length_take]; omega)]
              rw [hcut, List.append_nil]
              exact ref_apply_go N hN d hd n (i + 1) _ (by omega) (by omega) (by rw [List.length_append]; omega)
          have hcp := ref_copy N hN d i p a f ha hf (by omega) acc (by omega) (by omega) key _ 0 rfl (Nat.zero_le _)
          have hcut0 : (N.take (a + 0)).drop a = [] := by rw [Nat.add_zero, List.drop_eq_nil_of_le (by rw [List.length_take]; omega)]
          rw [hcut0, List.append_nil] at hcp
          refine Ev.step (fun k => ?_) hcp
          simp only [jalousieref15_Apply.j1]
          rw [if_neg (by decide)]
          rfl
    · rw [if_neg hw]
      exact Ev.congr (fun k => by rw [if_neg hw]) (Ev.now _)
theorem ref_apply_tells (N : List S41) (hN : N.length ≤ 1000000000000) (d : List S27) (hd : d.length ≤ 1000000000000) (hc : costOf N.length d < 2513169434916) : Ev (fun k => jalousieref15_Apply.f k N d) (applyGo N d []) := by
  have := ref_apply_go N hN d hd _ 0 [] rfl (Nat.zero_le _) (by simpa using hc)
  rw [List.drop_zero] at this
  exact this
/-! ### Apply of Make is the older list -/
end Go.Proofs.YthppicgolkpbaaaDoor.P

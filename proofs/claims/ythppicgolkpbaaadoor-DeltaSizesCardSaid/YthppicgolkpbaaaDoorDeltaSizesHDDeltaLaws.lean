/- what a delta is good for: plain lists -/
import Derived.Test.YthppicgolkpbaaaDoorDeltaSizesHDMakePlain
namespace Go.Proofs.YthppicgolkpbaaaDoor.P
open Go.RowKit Go.Proofs.YthppicgolkpbaaaDoorW.PrintWords Go.Proofs.YthppicgolkpbaaaDoorW.PrintLast Go.Proofs.YthppicgolkpbaaaDoorW.PrintMore
set_option linter.unusedVariables false
set_option linter.unusedSimpArgs false
theorem part_at (l : List S27) (i : Nat) (h : i < l.length) : l[i]? = some (rd_T27 l (i : Int)) := by
  unfold rd_T27
  rw [Int.toNat_natCast, List.getD_eq_getElem?_getD, List.getElem?_eq_getElem h]
  rfl
theorem part_drop (l : List S27) (i : Nat) (h : i < l.length) : l.drop i = rd_T27 l (i : Int) :: l.drop (i + 1) := by
  rw [List.drop_eq_getElem_cons h]
  have := part_at l i h
  rw [List.getElem?_eq_getElem h] at this
  rw [Option.some.inj this]
/-! ### the same twice -/
theorem fields_self (x : S41) : ((!((x.f0) == (x.f0)) || ((!((x.f1.f0) == (x.f1.f0)) || (!((x.f1.f1) == (x.f1.f1)))) || (!((x.f2) == (x.f2)) || ((!(((x.f3.f0).toList) == ((x.f3.f0).toList)) || (!((x.f3.f1) == (x.f3.f1)))))))) = true) = False := by simp
theorem same_items (d : List S27) (hd : d.length ≤ 4000000000000) (i : Nat) (hi : i < d.length) (hl : (rd_T27 d (i : Int)).f2.length ≤ 4000000000000) {r : Bool} (h : Ev (fun k => jalousieref15_Same.l0 k d d ((i + 1 : Nat) : Int)) r) : ∀ (n j : Nat), (rd_T27 d (i : Int)).f2.length - j = n → j ≤ (rd_T27 d (i : Int)).f2.length → Ev (fun k => jalousieref15_Same.l1 k d d (i : Int) (j : Int)) r
  | 0, j, hn, hj => by
    refine Ev.step (fun k => ?_) h
    simp only [jalousieref15_Same.l1]
    rw [if_pos (by omega), if_pos (by omega), if_neg (by omega), wrap_at (by omega)]
  | n + 1, j, hn, hj => by
    refine Ev.step (fun k => ?_) (same_items d hd i hi hl h n (j + 1) (by omega) (by omega))
    simp only [jalousieref15_Same.l1]
    rw [if_pos (by omega), if_pos (by omega), if_pos (by omega), if_pos (by omega), if_pos (by omega), if_pos (by omega), if_neg (by rw [fields_self]; exact fun h => h), wrap_at (by omega)]
theorem same_parts (d : List S27) (hd : d.length ≤ 4000000000000) (hl : ∀ p ∈ d, p.f2.length ≤ 4000000000000) : ∀ (n i : Nat), d.length - i = n → i ≤ d.length → Ev (fun k => jalousieref15_Same.l0 k d d (i : Int)) true
  | 0, i, hn, hi => by
    refine Ev.step (f := fun _ => some true) (fun k => ?_) (Ev.now _)
    simp only [jalousieref15_Same.l0]
    rw [if_neg (by omega)]
  | n + 1, i, hn, hi => by
    have h1 : i < d.length := by omega
    have hm := hl _ (List.mem_of_getElem? (part_at d i h1))
    have := same_items d hd i h1 hm (same_parts d hd hl n (i + 1) (by omega) (by omega)) _ 0 rfl (Nat.zero_le _)
    refine Ev.step (f := fun k => jalousieref15_Same.j1 k d d (i : Int) false) (fun k => ?_) (Ev.step (fun k => ?_) this)
    · simp only [jalousieref15_Same.l0]
      rw [if_pos (by omega), if_pos (by omega), if_pos (by omega), if_pos trivial, if_pos trivial]
      congr 1
      simp
    · simp only [jalousieref15_Same.j1]
      rw [if_neg (by decide)]
      rfl
theorem parts_same (d : List S27) (hd : d.length ≤ 4000000000000) (hl : ∀ p ∈ d, p.f2.length ≤ 4000000000000) : Ev (fun k => jalousieref15_Same.f k d d) true := by
  refine Ev.congr (fun k => ?_) (same_parts d hd hl _ 0 rfl (Nat.zero_le _))
  unfold jalousieref15_Same.f
  rw [if_pos rfl]
  rfl
/-! ### how many items of its own -/
def ownOf (d : List S27) : Nat := (d.map fun p => p.f2.length).sum
theorem size_go (d : List S27) (hd : d.length ≤ 4000000000000) : ∀ (n i a : Nat), d.length - i = n → i ≤ d.length → a + ownOf (d.drop i) ≤ 4000000000000 → Ev (fun k => delta_Size.l0 k (a : Int) d (d.length : Int) (i : Int)) ((a + ownOf (d.drop i) : Nat) : Int)
  | 0, i, a, hn, hi, ha => by
    obtain rfl : i = d.length := by omega
    rw [List.drop_length]
    refine Ev.step (f := fun _ => some ((a + ownOf [] : Nat) : Int)) (fun k => ?_) (Ev.now _)
    simp only [delta_Size.l0]
    rw [if_neg (by omega)]
    simp [ownOf]
  | n + 1, i, a, hn, hi, ha => by
    have h1 : i < d.length := by omega
    have hdr := part_drop d i h1
    have ho : ownOf (d.drop i) = (rd_T27 d (i : Int)).f2.length + ownOf (d.drop (i + 1)) := by rw [hdr]; simp [ownOf]
    rw [ho] at ha ⊢
    have ih := size_go d hd n (i + 1) (a + (rd_T27 d (i : Int)).f2.length) (by omega) (by omega) (by omega)
    rw [Nat.add_assoc] at ih
    refine Ev.step (fun k => ?_) ih
    simp only [delta_Size.l0]
    rw [if_pos (by omega), if_pos (by omega), if_pos (by omega), wrap_at (by omega)]
    have : wrap64 ((a : Int) + ((rd_T27 d (i : Int)).f2.length : Int)) = ((a + (rd_T27 d (i : Int)).f2.length : Nat) : Int) := by unfold wrap64; omega
    rw [this]
theorem size_tells (d : List S27) (hd : d.length ≤ 4000000000000) (ho : ownOf d ≤ 4000000000000) : Ev (fun k => delta_Size.f k d) (ownOf d : Int) := by
  have := size_go d hd _ 0 0 rfl (Nat.zero_le _) (by simpa using ho)
  rw [List.drop_zero, Nat.zero_add] at this
  exact this
theorem own_snoc (qs : List S27) (q : S27) : ownOf (qs ++ [q]) = ownOf qs + q.f2.length := by simp [ownOf]
theorem own_keep {ps : List S27} {s i : Int} (hs : lastFit s ps) : ownOf (keepP ps s i) = ownOf ps := by
  by_cases e : s = 1
  · subst e
    obtain ⟨qs, q, rfl⟩ := parts_last (hs (.inl rfl))
    rw [keepP_snoc, own_snoc, own_snoc]
  · unfold keepP
    rw [if_neg e, own_snoc]
    rfl
theorem own_in {ps : List S27} {s : Int} {x : S41} (hs : lastFit s ps) : ownOf (inP ps s x) = ownOf ps + 1 := by
  by_cases e : s = 3
  · subst e
    obtain ⟨qs, q, rfl⟩ := parts_last (hs (.inr rfl))
    rw [inP_snoc, own_snoc, own_snoc]
    simp only [List.length_append, List.length_cons, List.length_nil]
    omega
  · unfold inP
    rw [if_neg e, own_snoc]
    rfl
theorem last_keep {ps : List S27} {s i : Int} (hs : lastFit s ps) : lastFit 1 (keepP ps s i) := by
  intro _
  by_cases e : s = 1
  · subst e
    obtain ⟨qs, q, rfl⟩ := parts_last (hs (.inl rfl))
    rw [keepP_snoc]; simp
  · unfold keepP
    rw [if_neg e]; simp
theorem last_in {ps : List S27} {s : Int} {x : S41} (hs : lastFit s ps) : lastFit 3 (inP ps s x) := by
  intro _
  by_cases e : s = 3
  · subst e
    obtain ⟨qs, q, rfl⟩ := parts_last (hs (.inr rfl))
    rw [inP_snoc]; simp
  · unfold inP
    rw [if_neg e]; simp
theorem last_out (ps : List S27) : lastFit 2 ps := by
  rintro (e | e) <;> cases e
theorem own_le_go : ∀ (k : Nat) (i : Int) (ns os : List S41) (s : Int) (ps : List S27), lastFit s ps → ownOf (mkGo k i ns os s ps) ≤ ownOf ps + os.length
  | 0, i, ns, os, s, ps, hs => by simp [mkGo]
  | k + 1, i, [], [], s, ps, hs => by simp [mkGo]
  | k + 1, i, [], y :: os, s, ps, hs => by
    rw [mkGo]
    have := own_le_go k i [] os 3 (inP ps s y) (last_in hs)
    rw [own_in hs] at this
    simp only [List.length_cons]
    omega
  | k + 1, i, x :: ns, [], s, ps, hs => by
    rw [mkGo]
    exact own_le_go k (i + 1) ns [] 2 ps (last_out ps)
  | k + 1, i, x :: ns, y :: os, s, ps, hs => by
    rw [mkGo]
    simp only [List.length_cons]
    split
    · have := own_le_go k (i + 1) ns os 1 (keepP ps s i) (last_keep hs)
      rw [own_keep hs] at this
      omega
    · split
      · have := own_le_go k i (x :: ns) os 3 (inP ps s y) (last_in hs)
        rw [own_in hs] at this
        omega
      · have := own_le_go k (i + 1) ns (y :: os) 2 ps (last_out ps)
        simp only [List.length_cons] at this
        omega
theorem own_front : ∀ (k m : Nat) (i : Int) (ns : List S41) (s : Int) (ps : List S27), lastFit s ps → ownOf (mkGo k i ns (ns.take m) s ps) = ownOf ps
  | 0, m, i, ns, s, ps, hs => by simp [mkGo]
  | k + 1, m, i, [], s, ps, hs => by simp [mkGo]
  | k + 1, 0, i, x :: ns, s, ps, hs => by
    rw [List.take_zero, mkGo]
    have := own_front k 0 (i + 1) ns 2 ps (last_out ps)
    rwa [List.take_zero] at this
  | k + 1, m + 1, i, x :: ns, s, ps, hs => by
    rw [List.take_succ_cons, mkGo, if_pos ((eqIt_iff x x).2 rfl)]
    rw [own_front k m (i + 1) ns 1 (keepP ps s i) (last_keep hs), own_keep hs]
theorem own_none : ∀ (k : Nat) (i : Int) (os : List S41) (s : Int) (ps : List S27), lastFit s ps → os.length ≤ k → ownOf (mkGo k i [] os s ps) = ownOf ps + os.length
  | 0, i, os, s, ps, hs, hk => by
    obtain rfl : os = [] := List.eq_nil_of_length_eq_zero (by omega)
    simp [mkGo]
  | k + 1, i, [], s, ps, hs, hk => by simp [mkGo]
  | k + 1, i, y :: os, s, ps, hs, hk => by
    rw [mkGo]
    simp only [List.length_cons] at hk ⊢
    rw [own_none k i os 3 (inP ps s y) (last_in hs) (by omega), own_in hs]
    omega
theorem first_fit : lastFit 0 ([] : List S27) := by
  rintro (e | e) <;> cases e
theorem make_own_le (N O : List S41) : ownOf (makeOf N O) ≤ O.length := by
  have := own_le_go (N.length + O.length) 0 N O 0 [] first_fit
  simpa [ownOf, makeOf] using this
theorem make_own_front (N : List S41) (m : Nat) : ownOf (makeOf N (N.take m)) = 0 := own_front (N.length + (N.take m).length) m 0 N 0 [] first_fit
theorem make_own_none (O : List S41) : ownOf (makeOf [] O) = O.length := by
  have := own_none (([] : List S41).length + O.length) 0 O 0 [] first_fit (by simp)
  simpa [ownOf, makeOf] using this
/-! ### the sizes of a delta -/
theorem fit_go : ∀ (k : Nat) (i : Int) (ns os : List S41) (s : Int) (ps : List S27) (n : Nat), partsFit ps n → lastFit s ps → partsFit (mkGo k i ns os s ps) (n + k)
  | 0, i, ns, os, s, ps, n, hp, hs => by simpa [mkGo] using hp
  | k + 1, i, [], [], s, ps, n, hp, hs => by
    rw [mkGo]
    exact ⟨by have := hp.1; omega, fun p h => by have := hp.2 p h; omega⟩
  | k + 1, i, [], y :: os, s, ps, n, hp, hs => by
    rw [mkGo]
    have := fit_go k i [] os 3 (inP ps s y) (n + 1) (inP_fit hp hs).1 (last_in hs)
    rwa [Nat.add_assoc, Nat.add_comm 1 k] at this
  | k + 1, i, x :: ns, [], s, ps, n, hp, hs => by
    rw [mkGo]
    have := fit_go k (i + 1) ns [] 2 ps n hp (last_out ps)
    exact ⟨by have := this.1; omega, fun p h => by have := this.2 p h; omega⟩
  | k + 1, i, x :: ns, y :: os, s, ps, n, hp, hs => by
    rw [mkGo]
    split
    · have := fit_go k (i + 1) ns os 1 (keepP ps s i) (n + 1) (keepP_fit hp hs).1 (last_keep hs)
      rwa [Nat.add_assoc, Nat.add_comm 1 k] at this
    · split
      · have := fit_go k i (x :: ns) os 3 (inP ps s y) (n + 1) (inP_fit hp hs).1 (last_in hs)
        rwa [Nat.add_assoc, Nat.add_comm 1 k] at this
      · have := fit_go k (i + 1) ns (y :: os) 2 ps n hp (last_out ps)
        exact ⟨by have := this.1; omega, fun p h => by have := this.2 p h; omega⟩
theorem make_fit (N O : List S41) : partsFit (makeOf N O) (N.length + O.length) := by
  have := fit_go (N.length + O.length) 0 N O 0 [] 0 ⟨Nat.zero_le _, fun p h => by cases h⟩ first_fit
  rwa [Nat.zero_add] at this
end Go.Proofs.YthppicgolkpbaaaDoor.P

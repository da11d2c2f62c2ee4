/- the reference's delta is the program's; what it is good for; plain lists -/
import Derived.Test.YthppicgolkpbaaaDoorDeltaSizesHDMakeGo
import Derived.Test.YthppicgolkpbaaaDoorDeltaSizesHDWrong
import Derived.Test.YthppicgolkpbaaaDoorDeltaSizesPxJalousieref15b
import Derived.Test.YthppicgolkpbaaaDoorDeltaSizesPxJalousieref15
import Derived.Test.YthppicgolkpbaaaDoorDeltaSizesPx0
import Derived.Test.YthppicgolkpbaaaDoorDeltaSizesPxEq37
import Derived.Test.YthppicgolkpbaaaDoorDeltaSizesGHTabs
import Derived.Test.YthppicgolkpbaaaDoorDeltaSizesPxDelta
namespace Go.Proofs.YthppicgolkpbaaaDoor.P
open Go.RowKit Go.Proofs.YthppicgolkpbaaaDoorW.PrintWords Go.Proofs.YthppicgolkpbaaaDoorW.PrintLast Go.Proofs.YthppicgolkpbaaaDoorW.PrintMore
set_option linter.unusedVariables false
set_option linter.unusedSimpArgs false
theorem wrap_at {i : Nat} (h : i ≤ 4000000000000) : wrap64 ((i : Int) + 1) = ((i + 1 : Nat) : Int) := by
  unfold wrap64
  omega
theorem among_ev (l : List S41) (y : S41) (hl : l.length ≤ 1000000) : ∀ (d i : Nat), l.length - i = d → i ≤ l.length → Ev (fun k => jalousieref15_among.l0 k l (i : Int) y.f0 y.f1.f0 y.f1.f1 y.f2 y.f3.f0 y.f3.f1) ((l.drop i).any fun z => eqIt z y)
  | 0, i, hd, hi => by
    obtain rfl : i = l.length := by omega
    rw [List.drop_length]
    exact Ev.step (f := fun _ => some false) (fun k => by simp only [jalousieref15_among.l0]; rw [if_neg (by omega)]) (Ev.now false)
  | d + 1, i, hd, hi => by
    have h1 : i < l.length := by omega
    rw [it_drop l i h1]
    by_cases he : eqIt (rd_T41 l (i : Int)) y = true
    · rw [List.any_cons, he]
      refine Ev.step (f := fun _ => some true) (fun k => ?_) (Ev.now _)
      simp only [jalousieref15_among.l0]
      rw [if_pos (by omega), if_pos (by omega)]
      unfold eqIt at he
      rw [if_pos he]
    · have hf : eqIt (rd_T41 l (i : Int)) y = false := by simpa using he
      rw [List.any_cons, hf, Bool.false_or]
      refine Ev.step (fun k => ?_) (among_ev l y hl d (i + 1) (by omega) (by omega))
      simp only [jalousieref15_among.l0]
      rw [if_pos (by omega), if_pos (by omega)]
      unfold eqIt at he
      rw [if_neg he, wrap_at (by omega)]
theorem any_cnt (l : List S41) (y : S41) : (l.any fun z => eqIt z y) = true ↔ ¬ cntIt l y = 0 := by
  unfold cntIt
  induction l with
  | nil => simp
  | cons x l ih =>
    rw [List.any_cons, Bool.or_eq_true, ih, List.filter_cons, eqIt_comm x y]
    cases eqIt y x with
    | true => simp; omega
    | false => simp
def lstOf (s : Int) : Int := if s = 1 then 1 else if s = 3 then 2 else 0
def partInv (s : Int) (ps : List S27) (n : Nat) : Prop := partsFit ps n ∧ (s = 1 → ∃ qs q, ps = qs ++ [q] ∧ q.f2 = []) ∧ (s = 3 → ∃ qs q, ps = qs ++ [q] ∧ q.f0 = 0 ∧ q.f1 = 0)
theorem partInv.last {s : Int} {ps : List S27} {n : Nat} (h : partInv s ps n) : lastFit s ps := by
  rintro (e | e)
  · obtain ⟨qs, q, rfl, _⟩ := h.2.1 e; simp
  · obtain ⟨qs, q, rfl, _⟩ := h.2.2 e; simp
theorem keepP_inv {s i : Int} {ps : List S27} {n : Nat} (h : partInv s ps n) : partInv 1 (keepP ps s i) (n + 1) := by
  refine ⟨(keepP_fit h.1 h.last).1, fun _ => ?_, (fun e => by cases e)⟩
  by_cases e : s = 1
  · subst e
    obtain ⟨qs, q, rfl, hq⟩ := h.2.1 rfl
    exact ⟨qs, _, keepP_snoc qs q i, hq⟩
  · exact ⟨ps, _, by unfold keepP; rw [if_neg e], rfl⟩
theorem inP_inv {s : Int} {ps : List S27} {n : Nat} {x : S41} (h : partInv s ps n) : partInv 3 (inP ps s x) (n + 1) := by
  refine ⟨(inP_fit h.1 h.last).1, (fun e => by cases e), fun _ => ?_⟩
  by_cases e : s = 3
  · subst e
    obtain ⟨qs, q, rfl, h0, h1⟩ := h.2.2 rfl
    exact ⟨qs, _, inP_snoc qs q x, h0, h1⟩
  · exact ⟨ps, _, by unfold inP; rw [if_neg e], rfl, rfl⟩
theorem out_inv {s : Int} {ps : List S27} {n : Nat} (h : partInv s ps n) : partInv 2 ps (n + 1) :=
  ⟨⟨by have := h.1.1; omega, fun p hp => by have := h.1.2 p hp; omega⟩, (fun e => by cases e), (fun e => by cases e)⟩
theorem rdP_last (qs : List S27) (q : S27) : rd_T27 (qs ++ [q]) (qs.length : Int) = q := by
  unfold rd_T27
  simp [List.getD_eq_getElem?_getD]
theorem len_last (qs : List S27) (q : S27) (h : qs.length ≤ 4000000000000) : wrap64 (((qs ++ [q]).length : Int) - 1) = (qs.length : Int) := by
  rw [List.length_append]
  unfold wrap64
  simp only [List.length_cons, List.length_nil]
  omega
theorem item_eta (x : S41) : (⟨x.f0, (⟨x.f1.f0, x.f1.f1⟩ : S37), x.f2, (⟨x.f3.f0, x.f3.f1⟩ : S39)⟩ : S41) = x := rfl
theorem j3_in (N O : List S41) (hN : N.length ≤ 400000) (hO : O.length ≤ 400000) (i j : Nat) (s : Int) (ps : List S27) (hj : j < O.length) (hp : partInv s ps (i + j)) (k : Nat) (hi : i ≤ N.length := by omega) :
    jalousieref15_Make.j3 (k + 1) N O ps (i : Int) (j : Int) (lstOf s) (!false) = jalousieref15_Make.l0 k N O (inP ps s (rd_T41 O (j : Int))) (i : Int) ((j + 1 : Nat) : Int) (lstOf 3) := by
  simp only [jalousieref15_Make.j3]
  rw [if_pos (by decide)]
  by_cases hs : s = 3
  · subst hs
    obtain ⟨qs, q, rfl, h0, h1⟩ := hp.2.2 rfl
    have hl := hp.1.1
    have hq1 := hp.1.2 q (by simp)
    rw [List.length_append] at hl
    rw [if_pos (show lstOf 3 = 2 from rfl), len_last qs q (by omega), if_pos (by omega), if_pos (by simp; omega), rdP_last, inP_snoc, wrap_at (by omega)]
    simp only [Option.bind_some, List.nil_append, item_eta]
    rw [if_pos (by simp; omega), if_pos (by omega), if_pos (by omega), if_pos (by simp; omega)]
    have hset : (qs ++ [q]).set ((qs.length : Int)).toNat (⟨0, 0, q.f2 ++ [rd_T41 O (j : Int)]⟩ : S27) = qs ++ [⟨q.f0, q.f1, q.f2 ++ [rd_T41 O (j : Int)]⟩] := by
      rw [Int.toNat_natCast, List.set_append_right _ _ (Nat.le_refl _), h0, h1]
      simp
    rw [hset]
    rfl
  · have hls : ¬ lstOf s = 2 := by
      unfold lstOf
      by_cases e : s = 1
      · rw [if_pos e]; decide
      · rw [if_neg e, if_neg hs]; decide
    rw [if_neg hls, if_pos (by omega), if_pos (by omega)]
    simp only [Option.bind_some, item_eta]
    rw [if_pos (by have := hp.1.1; simp; omega), wrap_at (by omega)]
    unfold inP
    rw [if_neg hs]
    rfl
set_option maxHeartbeats 1000000 in
theorem ref_make (N O : List S41) (hN : N.length ≤ 400000) (hO : O.length ≤ 400000) : ∀ (d i j : Nat) (s : Int) (ps : List S27), i ≤ N.length → j ≤ O.length → (N.length - i) + (O.length - j) ≤ d → partInv s ps (i + j) →
    Ev (fun k => jalousieref15_Make.l0 k N O ps (i : Int) (j : Int) (lstOf s)) (mkGo d (i : Int) (N.drop i) (O.drop j) s ps)
  | 0, i, j, s, ps, hi, hj, hd, hp => by
    obtain rfl : i = N.length := by omega
    obtain rfl : j = O.length := by omega
    refine Ev.step (f := fun k => jalousieref15_Make.j1 k N O ps (N.length : Int) (O.length : Int) (lstOf s) false) (fun k => ?_) (Ev.step (f := fun _ => some ps) (fun k => ?_) ?_)
    · simp only [jalousieref15_Make.l0]
      rw [if_neg (by omega)]
      congr 1
      simp
    · simp only [jalousieref15_Make.j1]
      rw [if_neg (by decide)]
    · simp only [mkGo]
      exact Ev.now ps
  | d + 1, i, j, s, ps, hi, hj, hd, hp => by
    by_cases hi2 : i < N.length
    · have hdi := it_drop N i hi2
      by_cases hj2 : j < O.length
      · have hdj := it_drop O j hj2
        rw [hdi, hdj, mkGo, ← hdi, ← hdj]
        have head : ∀ r, Ev (fun k => jalousieref15_Make.j2 k N O ps (i : Int) (j : Int) (lstOf s) (eqIt (rd_T41 N (i : Int)) (rd_T41 O (j : Int)))) r → Ev (fun k => jalousieref15_Make.l0 k N O ps (i : Int) (j : Int) (lstOf s)) r := by
          intro r h
          refine Ev.step (f := fun k => jalousieref15_Make.j1 k N O ps (i : Int) (j : Int) (lstOf s) true) (fun k => ?_) (Ev.step (fun k => ?_) h)
          · simp only [jalousieref15_Make.l0]
            rw [if_pos (by omega)]
          · simp only [jalousieref15_Make.j1]
            rw [if_pos trivial, if_pos (by omega), if_pos (by omega), if_pos (by omega), if_pos (by omega)]
            rfl
        refine head _ ?_
        by_cases he : eqIt (rd_T41 N (i : Int)) (rd_T41 O (j : Int)) = true
        · rw [if_pos he, he]
          have ih := ref_make N O hN hO d (i + 1) (j + 1) 1 (keepP ps s (i : Int)) (by omega) (by omega) (by omega) (by have := keepP_inv (i := (i : Int)) hp; exact ⟨⟨by have := this.1.1; omega, fun p hp => by have := this.1.2 p hp; omega⟩, this.2⟩)
          refine Ev.step (fun k => ?_) ih
          simp only [jalousieref15_Make.j2]
          rw [if_pos trivial]
          by_cases hs : s = 1
          · subst hs
            obtain ⟨qs, q, rfl, hq⟩ := hp.2.1 rfl
            have hl := hp.1.1
            have hq1 := hp.1.2 q (by simp)
            rw [List.length_append] at hl
            rw [if_pos (show lstOf 1 = 1 from rfl), len_last qs q (by omega), if_pos (by omega), if_pos (by simp; omega), rdP_last, keepP_snoc, wrap_at (by omega), wrap_at (by omega)]
            have hset : (qs ++ [q]).set ((qs.length : Int)).toNat (⟨q.f0, wrap64 (q.f1 + 1), []⟩ : S27) = qs ++ [⟨q.f0, q.f1 + 1, q.f2⟩] := by
              rw [Int.toNat_natCast, List.set_append_right _ _ (Nat.le_refl _), hq]
              have : wrap64 (q.f1 + 1) = q.f1 + 1 := by unfold wrap64; omega
              simp [this]
            rw [hset]
            rfl
          · have hls : ¬ lstOf s = 1 := by unfold lstOf; rw [if_neg hs]; split <;> decide
            rw [if_neg hls]
            simp only [Option.bind_some]
            rw [if_pos (by have := hp.1.1; simp; omega), wrap_at (by omega), wrap_at (by omega)]
            unfold keepP
            rw [if_neg hs]
            rfl
        · have hef : eqIt (rd_T41 N (i : Int)) (rd_T41 O (j : Int)) = false := by simpa using he
          rw [if_neg he, hef]
          have ham : Ev (fun k => jalousieref15_among.f k (N.drop i) (rd_T41 O (j : Int)).f0 (rd_T41 O (j : Int)).f1.f0 (rd_T41 O (j : Int)).f1.f1 (rd_T41 O (j : Int)).f2 (rd_T41 O (j : Int)).f3.f0 (rd_T41 O (j : Int)).f3.f1) ((N.drop i).any fun z => eqIt z (rd_T41 O (j : Int))) := by
            have := among_ev (N.drop i) (rd_T41 O (j : Int)) (by rw [List.length_drop]; omega) _ 0 rfl (Nat.zero_le _)
            exact this
          refine Ev.step (f := fun k => (jalousieref15_among.f k (N.drop i) (rd_T41 O (j : Int)).f0 (rd_T41 O (j : Int)).f1.f0 (rd_T41 O (j : Int)).f1.f1 (rd_T41 O (j : Int)).f2 (rd_T41 O (j : Int)).f3.f0 (rd_T41 O (j : Int)).f3.f1).bind fun t207 => jalousieref15_Make.j3 k N O ps (i : Int) (j : Int) (lstOf s) (!t207)) (fun k => ?_) (Ev.bind ham ?_)
          · simp only [jalousieref15_Make.j2]
            rw [if_neg (by decide), if_pos (by omega), if_pos (by omega), if_pos (by omega), if_pos (by omega)]
            rfl
          · by_cases hc : cntIt (N.drop i) (rd_T41 O (j : Int)) = 0
            · have ha : ((N.drop i).any fun z => eqIt z (rd_T41 O (j : Int))) = false := by
                cases h : ((N.drop i).any fun z => eqIt z (rd_T41 O (j : Int))) with
                | false => rfl
                | true => exact absurd hc ((any_cnt _ _).1 h)
              rw [if_pos hc, ha]
              have ih := ref_make N O hN hO d i (j + 1) 3 (inP ps s (rd_T41 O (j : Int))) (by omega) (by omega) (by omega) (inP_inv hp)
              refine Ev.step (fun k => ?_) ih
              exact j3_in N O hN hO i j s ps hj2 hp k
            · have ha : ((N.drop i).any fun z => eqIt z (rd_T41 O (j : Int))) = true := (any_cnt _ _).2 hc
              rw [if_neg hc, ha]
              have ih := ref_make N O hN hO d (i + 1) j 2 ps (by omega) hj (by omega) (by have := out_inv hp; exact ⟨⟨by have := this.1.1; omega, fun p hp => by have := this.1.2 p hp; omega⟩, this.2⟩)
              refine Ev.step (fun k => ?_) ih
              simp only [jalousieref15_Make.j3]
              rw [if_neg (by decide), wrap_at (by omega)]
              rfl
      · obtain rfl : j = O.length := by omega
        rw [hdi, List.drop_length, mkGo]
        have ih := ref_make N O hN hO d (i + 1) O.length 2 ps (by omega) (Nat.le_refl _) (by omega) (by have := out_inv hp; exact ⟨⟨by have := this.1.1; omega, fun p hp => by have := this.1.2 p hp; omega⟩, this.2⟩)
        rw [List.drop_length] at ih
        refine Ev.step (f := fun k => jalousieref15_Make.j1 k N O ps (i : Int) (O.length : Int) (lstOf s) true) (fun k => ?_) (Ev.step (f := fun k => jalousieref15_Make.j2 k N O ps (i : Int) (O.length : Int) (lstOf s) false) (fun k => ?_) (Ev.step (f := fun k => jalousieref15_Make.j3 k N O ps (i : Int) (O.length : Int) (lstOf s) false) (fun k => ?_) (Ev.step (fun k => ?_) ih)))
        · simp only [jalousieref15_Make.l0]
          rw [if_pos (by omega)]
        · simp only [jalousieref15_Make.j1]
          rw [if_pos trivial, if_pos (by omega), if_neg (by omega)]
        · simp only [jalousieref15_Make.j2]
          rw [if_neg (by decide), if_neg (by omega)]
        · simp only [jalousieref15_Make.j3]
          rw [if_neg (by decide), wrap_at (by omega)]
          rfl
    · obtain rfl : i = N.length := by omega
      by_cases hj2 : j < O.length
      · have hdj := it_drop O j hj2
        rw [hdj, List.drop_length, mkGo]
        have ih := ref_make N O hN hO d N.length (j + 1) 3 (inP ps s (rd_T41 O (j : Int))) (Nat.le_refl _) (by omega) (by omega) (inP_inv hp)
        rw [List.drop_length] at ih
        have ham : Ev (fun k => jalousieref15_among.f k (N.drop N.length) (rd_T41 O (j : Int)).f0 (rd_T41 O (j : Int)).f1.f0 (rd_T41 O (j : Int)).f1.f1 (rd_T41 O (j : Int)).f2 (rd_T41 O (j : Int)).f3.f0 (rd_T41 O (j : Int)).f3.f1) false := by
          have := among_ev (N.drop N.length) (rd_T41 O (j : Int)) (by rw [List.length_drop]; omega) _ 0 rfl (Nat.zero_le _)
          rw [List.drop_zero, List.drop_length] at this
          rw [List.drop_length]
          exact this
        refine Ev.step (f := fun k => jalousieref15_Make.j1 k N O ps (N.length : Int) (j : Int) (lstOf s) true) (fun k => ?_) (Ev.step (f := fun k => jalousieref15_Make.j2 k N O ps (N.length : Int) (j : Int) (lstOf s) false) (fun k => ?_) (Ev.step (f := fun k => (jalousieref15_among.f k (N.drop N.length) (rd_T41 O (j : Int)).f0 (rd_T41 O (j : Int)).f1.f0 (rd_T41 O (j : Int)).f1.f1 (rd_T41 O (j : Int)).f2 (rd_T41 O (j : Int)).f3.f0 (rd_T41 O (j : Int)).f3.f1).bind fun t207 => jalousieref15_Make.j3 k N O ps (N.length : Int) (j : Int) (lstOf s) (!t207)) (fun k => ?_) (Ev.bind ham (Ev.step (fun k => ?_) ih))))
        · simp only [jalousieref15_Make.l0]
          rw [if_neg (by omega)]
          congr 1
          simp; omega
        · simp only [jalousieref15_Make.j1]
          rw [if_pos trivial, if_neg (by omega)]
        · simp only [jalousieref15_Make.j2]
          rw [if_neg (by decide), if_pos (by omega), if_pos (by omega), if_pos (by omega), if_pos (by omega)]
          rfl
        · exact j3_in N O hN hO N.length j s ps hj2 hp k
      · obtain rfl : j = O.length := by omega
        refine Ev.step (f := fun k => jalousieref15_Make.j1 k N O ps (N.length : Int) (O.length : Int) (lstOf s) false) (fun k => ?_) (Ev.step (f := fun _ => some ps) (fun k => ?_) ?_)
        · simp only [jalousieref15_Make.l0]
          rw [if_neg (by omega)]
          congr 1
          simp
        · simp only [jalousieref15_Make.j1]
          rw [if_neg (by decide)]
        · rw [List.drop_length, List.drop_length]
          simp only [mkGo]
          exact Ev.now ps
end Go.Proofs.YthppicgolkpbaaaDoor.P

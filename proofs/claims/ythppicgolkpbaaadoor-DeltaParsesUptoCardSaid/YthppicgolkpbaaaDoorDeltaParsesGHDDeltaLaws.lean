/- what this claim needs of the words and the printed functions; conditions: as each statement says -/
import Derived.Test.YthppicgolkpbaaaDoorDeltaParsesGHDMakeGo
import Derived.Test.YthppicgolkpbaaaDoorDeltaParsesGHDWrong
import Derived.Test.YthppicgolkpbaaaDoorDeltaParsesPx0
import Derived.Test.YthppicgolkpbaaaDoorDeltaParsesPxEq37
import Derived.Test.YthppicgolkpbaaaDoorDeltaParsesPxJalousieref15
import Derived.Test.YthppicgolkpbaaaDoorDeltaParsesGHText
import Derived.Test.YthppicgolkpbaaaDoorDeltaParsesPxDelta
namespace Go.Proofs.YthppicgolkpbaaaDoor.P
open Go.RowKit Go.Proofs.YthppicgolkpbaaaDoorW.PrintWords Go.Proofs.YthppicgolkpbaaaDoorW.PrintLast Go.Proofs.YthppicgolkpbaaaDoorW.PrintMore
set_option linter.unusedVariables false
set_option linter.unusedSimpArgs false
theorem wrap_at {i : Nat} (h : i ≤ 4000000000000) : wrap64 ((i : Int) + 1) = ((i + 1 : Nat) : Int) := by
 unfold wrap64
 omega
def partInv (s : Int) (ps : List S27) (n : Nat) : Prop := partsFit ps n ∧ (s = 1 → ∃ qs q, ps = qs ++ [q] ∧ q.f2 = []) ∧ (s = 3 → ∃ qs q, ps = qs ++ [q] ∧ q.f0 = 0 ∧ q.f1 = 0)
theorem partInv.last {s : Int} {ps : List S27} {n : Nat} (h : partInv s ps n) : lastFit s ps := by
 rintro (e | e)
 ·
  obtain ⟨qs, q, rfl, _⟩ := h.2.1 e; simp
 ·
  obtain ⟨qs, q, rfl, _⟩ := h.2.2 e; simp
end Go.Proofs.YthppicgolkpbaaaDoor.P
namespace Go.Proofs.YthppicgolkpbaaaDoor.P
open Go.RowKit Go.Proofs.YthppicgolkpbaaaDoorW.PrintWords Go.Proofs.YthppicgolkpbaaaDoorW.PrintLast Go.Proofs.YthppicgolkpbaaaDoorW.PrintMore
set_option linter.unusedVariables false
set_option linter.unusedSimpArgs false
theorem part_at (l : List S27) (i : Nat) (h : i < l.length) : l[i]? = some (rd_T27 l (i : Int)) := by
 unfold rd_T27
 rw [Int.toNat_natCast, List.getD_eq_getElem?_getD, List.getElem?_eq_getElem h]
 rfl
theorem part_drop (l : List S27) (i : Nat) (h : i < l.length) : l.drop i = rd_T27 l (i : Int) :: l.drop (i + 1) := by
 rw [List.drop_eq_getElem_cons h]
 have := part_at l i h
 rw [List.getElem?_eq_getElem h] at this
 rw [Option.some.inj this]
theorem fields_self (x : S41) : ((!((x.f0) == (x.f0)) || ((!((x.f1.f0) == (x.f1.f0)) || (!((x.f1.f1) == (x.f1.f1)))) || (!((x.f2) == (x.f2)) || ((!(((x.f3.f0).toList) == ((x.f3.f0).toList)) || (!((x.f3.f1) == (x.f3.f1)))))))) = true) = False := by simp
theorem same_items (d : List S27) (hd : d.length ≤ 4000000000000) (i : Nat) (hi : i < d.length) (hl : (rd_T27 d (i : Int)).f2.length ≤ 4000000000000) {r : Bool} (h : Ev (fun k => jalousieref15_Same.l0 k d d ((i + 1 : Nat) : Int)) r) : ∀ (n j : Nat), (rd_T27 d (i : Int)).f2.length - j = n → j ≤ (rd_T27 d (i : Int)).f2.length → Ev (fun k => jalousieref15_Same.l1 k d d (i : Int) (j : Int)) r
 | 0, j, hn, hj => by
  refine Ev.step (fun k => ?_) h
  simp only [jalousieref15_Same.l1]
  rw [if_pos (by omega), if_pos (by omega), if_neg (by omega), wrap_at (by omega)]
 | n + 1, j, hn, hj => by
  refine Ev.step (fun k => ?_) (same_items d hd i hi hl h n (j + 1) (by omega) (by omega))
  simp only [jalousieref15_Same.l1]
  rw [if_pos (by omega), if_pos (by omega), if_pos (by omega), if_pos (by omega), if_pos (by omega), if_pos (by omega), if_neg (by rw [fields_self]; exact fun h => h), wrap_at (by omega)]
theorem same_parts (d : List S27) (hd : d.length ≤ 4000000000000) (hl : ∀ p ∈ d, p.f2.length ≤ 4000000000000) : ∀ (n i : Nat), d.length - i = n → i ≤ d.length → Ev (fun k => jalousieref15_Same.l0 k d d (i : Int)) true
 | 0, i, hn, hi => by
  refine Ev.step (f := fun _ => some true) (fun k => ?_) (Ev.now _)
  simp only [jalousieref15_Same.l0]
  rw [if_neg (by omega)]
 | n + 1, i, hn, hi => by
  have h1 : i < d.length := by omega
  have hm := hl _ (List.mem_of_getElem? (part_at d i h1))
  have := same_items d hd i h1 hm (same_parts d hd hl n (i + 1) (by omega) (by omega)) _ 0 rfl (Nat.zero_le _)
  refine Ev.step (f := fun k => jalousieref15_Same.j1 k d d (i : Int) false) (fun k => ?_) (Ev.step (fun k => ?_) this)
  ·
   simp only [jalousieref15_Same.l0]
   rw [if_pos (by omega), if_pos (by omega), if_pos (by omega), if_pos trivial, if_pos trivial]
   congr 1
   simp
  ·
   simp only [jalousieref15_Same.j1]
   rw [if_neg (by decide)]
   rfl
theorem parts_same (d : List S27) (hd : d.length ≤ 4000000000000) (hl : ∀ p ∈ d, p.f2.length ≤ 4000000000000) : Ev (fun k => jalousieref15_Same.f k d d) true := by
 refine Ev.congr (fun k => ?_) (same_parts d hd hl _ 0 rfl (Nat.zero_le _))
 unfold jalousieref15_Same.f
 rw [if_pos rfl]
 rfl
end Go.Proofs.YthppicgolkpbaaaDoor.P

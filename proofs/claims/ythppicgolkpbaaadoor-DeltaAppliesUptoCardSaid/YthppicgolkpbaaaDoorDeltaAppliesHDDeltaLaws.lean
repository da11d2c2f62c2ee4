/- what a delta is good for: plain lists -/
import Derived.Test.YthppicgolkpbaaaDoorDeltaAppliesHDMakePlain
namespace Go.Proofs.YthppicgolkpbaaaDoor.P
open Go.RowKit Go.Proofs.YthppicgolkpbaaaDoorW.PrintWords Go.Proofs.YthppicgolkpbaaaDoorW.PrintLast Go.Proofs.YthppicgolkpbaaaDoorW.PrintMore
set_option linter.unusedVariables false
set_option linter.unusedSimpArgs false
theorem part_at (l : List S27) (i : Nat) (h : i < l.length) : l[i]? = some (rd_T27 l (i : Int)) := by
  unfold rd_T27
  rw [Int.toNat_natCast, List.getD_eq_getElem?_getD, List.getElem?_eq_getElem h]
  rfl
theorem part_drop (l : List S27) (i : Nat) (h : i < l.length) : l.drop i = rd_T27 l (i : Int) :: l.drop (i + 1) := by
  rw [List.drop_eq_getElem_cons h]
  have := part_at l i h
  rw [List.getElem?_eq_getElem h] at this
  rw [Option.some.inj this]
/-! ### the same twice -/
theorem fields_self (x : S41) : ((!((x.f0) == (x.f0)) || ((!((x.f1.f0) == (x.f1.f0)) || (!((x.f1.f1) == (x.f1.f1)))) || (!((x.f2) == (x.f2)) || ((!(((x.f3.f0).toList) == ((x.f3.f0).toList)) || (!((x.f3.f1) == (x.f3.f1)))))))) = true) = False := by simp
theorem items_same_go (l : List S41) (hd : l.length ≤ 4000000000000) : ∀ (n i : Nat), l.length - i = n → i ≤ l.length → Ev (fun k => jalousieref04_Same.l0 k l l (i : Int)) true
  | 0, i, hn, hi => by
    refine Ev.step (f := fun _ => some true) (fun k => ?_) (Ev.now _)
    simp only [jalousieref04_Same.l0]
    rw [if_neg (by omega)]
  | n + 1, i, hn, hi => by
    refine Ev.step (fun k => ?_) (items_same_go l hd n (i + 1) (by omega) (by omega))
    simp only [jalousieref04_Same.l0]
    rw [if_pos (by omega), if_pos (by omega), if_pos (by omega), if_neg (by rw [fields_self]; exact fun h => h), wrap_at (by omega)]
theorem items_same (l : List S41) (hd : l.length ≤ 4000000000000) : Ev (fun k => jalousieref04_Same.f k l l) true := by
  refine Ev.congr (fun k => ?_) (items_same_go l hd _ 0 rfl (Nat.zero_le _))
  unfold jalousieref04_Same.f
  rw [if_pos rfl]
  rfl
/-! ### how many items of its own -/
def ownOf (d : List S27) : Nat := (d.map fun p => p.f2.length).sum
/-! ### the sizes of a delta -/
end Go.Proofs.YthppicgolkpbaaaDoor.P

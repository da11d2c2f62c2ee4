/- the reference's delta is the program's; what it is good for; plain lists -/
import Derived.Test.YthppicgolkpbaaaDoorDeltaAppliesHDMakeGo
import Derived.Test.YthppicgolkpbaaaDoorDeltaAppliesHDWrong
import Derived.Test.YthppicgolkpbaaaDoorDeltaAppliesPx0
import Derived.Test.YthppicgolkpbaaaDoorDeltaAppliesPxEq37
import Derived.Test.YthppicgolkpbaaaDoorDeltaAppliesPxJalousieref15
import Derived.Test.YthppicgolkpbaaaDoorDeltaAppliesHTabs
import Derived.Test.YthppicgolkpbaaaDoorDeltaAppliesPxJalousieref04
import Derived.Test.YthppicgolkpbaaaDoorDeltaAppliesPxDelta
namespace Go.Proofs.YthppicgolkpbaaaDoor.P
open Go.RowKit Go.Proofs.YthppicgolkpbaaaDoorW.PrintWords Go.Proofs.YthppicgolkpbaaaDoorW.PrintLast Go.Proofs.YthppicgolkpbaaaDoorW.PrintMore
set_option linter.unusedVariables false
set_option linter.unusedSimpArgs false
theorem wrap_at {i : Nat} (h : i ≤ 4000000000000) : wrap64 ((i : Int) + 1) = ((i + 1 : Nat) : Int) := by
  unfold wrap64
  omega
def partInv (s : Int) (ps : List S27) (n : Nat) : Prop := partsFit ps n ∧ (s = 1 → ∃ qs q, ps = qs ++ [q] ∧ q.f2 = []) ∧ (s = 3 → ∃ qs q, ps = qs ++ [q] ∧ q.f0 = 0 ∧ q.f1 = 0)
theorem partInv.last {s : Int} {ps : List S27} {n : Nat} (h : partInv s ps n) : lastFit s ps := by
  rintro (e | e)
  · obtain ⟨qs, q, rfl, _⟩ := h.2.1 e; simp
  · obtain ⟨qs, q, rfl, _⟩ := h.2.2 e; simp
end Go.Proofs.YthppicgolkpbaaaDoor.P

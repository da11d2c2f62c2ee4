/- a label that comes in: opened -/
import Derived.Test.YthppicgolkpbaaaDoorDeltaParsesHOpen
import Derived.Test.YthppicgolkpbaaaDoorDeltaParsesGHText
import Derived.Lib.LaidTab
import Derived.MakeChecks
import Derived.Test.YthppicgolkpbaaaDoorDeltaParsesPx0
import Derived.Test.YthppicgolkpbaaaDoorRows
import Derived.WalkKit
import Derived.ProofKit
import Derived.OpenShut
namespace Go.Proofs.YthppicgolkpbaaaDoor
open Go.RowKit Go.ChangeShapes Go.WideShapes Go.ChangeAt Go.Proofs.YthppicgolkpbaaaDoorW.PrintWords Go.Proofs.YthppicgolkpbaaaDoor.P
set_option linter.unusedVariables false
set_option linter.unusedSimpArgs false
theorem tabs_of_laid {W : World} {rest : List (String × DataW Unit)} (h : laidMet Tryd.prog (("math/bits.deBruijn64tab", Rows.laid_math_bits_deBruijn64tab) :: rest) W) : Tabs W := by
 have ht : Lib.TabIs Tryd.prog W "math/bits.deBruijn64tab" .u8 (Lib.deBruijn64tab.map Int.ofNat) := Lib.tabIs_of_head (g := 1) (t := 114) (e := 5) (n := 64) (by kernel_rfl) (by kernel_rfl) (by kernel_rfl) (by kernel_rfl) (by kernel_rfl) (by kernel_rfl) (show laidMet Tryd.prog (("math/bits.deBruijn64tab", Lib.tabData .u8 (Lib.deBruijn64tab.map Int.ofNat)) :: rest) W from h)
 refine ⟨fun j hj => ?_⟩
 have := ht.cell (g := 1) (by kernel_rfl) j (by rw [List.length_map]; exact hj)
 rw [this]
 simp [List.getD_eq_getElem?_getD, List.getElem?_map]
 cases Lib.deBruijn64tab[j]? <;> rfl
end Go.Proofs.YthppicgolkpbaaaDoor

/- the table of blanks, as the rows lay it -/
import Derived.Test.YthaimkdnddmokaaDoorWireParsesGHTabs
import Derived.Test.YthaimkdnddmokaaDoorRows
import Derived.Lib.LaidTab
import Derived.Lib.Space
import Derived.Stop.LaidErr
namespace Go.Proofs.YthaimkdnddmokaaDoor
open Go.RowKit Go.Proofs.YthaimkdnddmokaaDoorW.PrintWords Go.Proofs.YthaimkdnddmokaaDoorW.PrintLast Go.Proofs.YthaimkdnddmokaaDoorW.PrintMore
set_option linter.unusedVariables false
set_option maxRecDepth 100000 in
theorem asc_of_laid {W : World} {x1 x2 x3 : String × DataW Unit} {rest : List (String × DataW Unit)} (h : laidMet Tryd.prog (x1 :: x2 :: x3 :: ("strings.asciiSpace", Rows.laid_strings_asciiSpace) :: rest) W) : ∀ c, c < 256 → W.cell? ⟨1, c, none⟩ = some (.int .u8 (if Lib.isSp (UInt8.ofNat c) then 1 else 0)) := by
  have ht : Lib.TabIs Tryd.prog W "strings.asciiSpace" .u8 Lib.asciiSpaceTab := Lib.tabIs_of_head (g := 1) (t := 98) (e := 5) (n := 256) (by kernel_rfl) (by kernel_rfl) (by kernel_rfl) (by kernel_rfl) (by kernel_rfl) (by kernel_rfl) (show laidMet Tryd.prog (("strings.asciiSpace", Lib.tabData .u8 Lib.asciiSpaceTab) :: rest) W from laidMet.tail (laidMet.tail (laidMet.tail h)))
  intro c hc
  have := ht.cell (g := 1) (by kernel_rfl) c (by rw [Lib.asciiSpaceTab_length]; exact hc)
  rw [this, Lib.asciiSpaceTab_at c hc]
end Go.Proofs.YthaimkdnddmokaaDoor

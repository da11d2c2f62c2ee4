/- the walk of jalousielaw01.TextWords -/
import Derived.Test.YthaimkdnddmokaaDoorWireCodesGHTabs
import Derived.Test.YthaimkdnddmokaaDoorWireCodesHNames
import Derived.Test.YthaimkdnddmokaaDoorWireCodesHText
import Derived.Lib.Hide
import Derived.WalkMore
import Derived.Test.YthaimkdnddmokaaDoorWireCodesPxText
import Derived.Lib.SlBytesConst
import Derived.Test.YthaimkdnddmokaaDoorWireCodesHRefWords
namespace Go.Proofs.YthaimkdnddmokaaDoor.P
open Go.RowKit Go.Proofs.YthaimkdnddmokaaDoorW.PrintWords Go.Proofs.YthaimkdnddmokaaDoorW.PrintLast Go.Proofs.YthaimkdnddmokaaDoorW.PrintMore
set_option linter.unusedVariables false
set_option linter.unusedSimpArgs false
theorem text_Words_tells (s : ByteArray) (hs : s.size < 4294967281) : text_Words.f s = some ((splitC 32 s.data.toList).map baOf) := by
  unfold text_Words.f strings_Split.f
  rw [if_pos (by decide), if_pos hs]
  rfl
end Go.Proofs.YthaimkdnddmokaaDoor.P

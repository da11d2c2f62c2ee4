-- printed by this session's turned copy of the kit's print program (wip/gen/patch.py); Lean checks it
import Derived.Test.YtlhodalfbmdnnaaDoorProg
import Derived.Below
import Derived.Deep.Draws
import Derived.Deep.AppendLies
import Derived.Maps.AppendAt
import Derived.OwnWalk
import Derived.Laws.BytesArg
import Derived.Laws.MakeOwn
import Derived.Laws.OwnMore
import Derived.Deep.OwnRows
import Derived.Tactics
import Derived.Lib.ConvBytes
import Derived.Laws.Slices
import Derived.WalkKit
import Derived.KernelRfl
import Derived.RowKit3
import Derived.Deep.LoopGhost
import Derived.Deep.QuietTactic
import Derived.BigQuiet
import Derived.WideLaws
import Derived.Deep.DeepCutAuto
import Derived.Deep.CutBlock
import Derived.Deep.RegionHeld3
import Derived.Laws.Rows
import Derived.Lib.AppendStr
import Derived.ArgAppend
import Derived.Laws.IdiomCopy
import Derived.OrdersHeld
import Derived.Laws.BitsLemmas
import Derived.RowKit
import Derived.Lib.Hide
import Derived.Test.YtlhodalfbmdnnaaDoorLabelLatticeWWords
import Derived.Test.YtlhodalfbmdnnaaDoorLabelLatticeWLast
import Derived.Test.YtlhodalfbmdnnaaDoorLabelLatticeWTab
import Derived.Test.YtlhodalfbmdnnaaDoorLabelLatticeWApart
import Derived.Test.YtlhodalfbmdnnaaDoorLabelLatticeWFoot
import Derived.Test.YtlhodalfbmdnnaaDoorLabelLatticeWKept
import Derived.Test.YtlhodalfbmdnnaaDoorLabelLatticeWShare
import Derived.Test.YtlhodalfbmdnnaaDoorLabelLatticeWN
import Derived.Test.YtlhodalfbmdnnaaDoorLabelLatticeWEqStruct
import Derived.Test.YtlhodalfbmdnnaaDoorLabelLatticeWRepsOne
import Derived.Test.YtlhodalfbmdnnaaDoorLabelLatticeWMore
namespace Go.Proofs.YtlhodalfbmdnnaaDoor.P
open Go.RowKit Go.Proofs.YtlhodalfbmdnnaaDoorW.PrintWords Go.Proofs.YtlhodalfbmdnnaaDoorW.PrintLast Go.Proofs.YtlhodalfbmdnnaaDoorW.PrintMore
attribute [local go_sem] max2_int min2_int max_two min_two max_three min_three max_four min_four   -- for this text's walks alone
set_option linter.unusedVariables false
set_option linter.unusedSimpArgs false
def errW : Option Int → Value
  | none => .nilIface
  | some c => .iface 0 (.int .i64 c)
theorem errW_none : errW none = .nilIface := rfl
theorem errW_some (c : Int) : errW (some c) = .iface 0 (.int .i64 c) := rfl
/-- the marks of what has come up, as a number's bits -/
def bm (n m : Nat) : Array Bool := ((List.range n).map fun i => m.testBit i).toArray
theorem info3 : (Tryd.prog.info? 3).map (fun i => (i.zero, i.size, i.bytes)) = some (some (.int .i64 0), 1, 8) := by kernel_rfl
-- the values' own types
/-! #### struct type 59 -/
/-! #### struct type 40 -/
end Go.Proofs.YtlhodalfbmdnnaaDoor.P

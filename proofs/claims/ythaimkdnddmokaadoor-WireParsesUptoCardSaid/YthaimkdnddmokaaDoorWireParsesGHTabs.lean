/- what this claim needs of the words and the printed functions; conditions: as each statement says -/
import Derived.Test.YthaimkdnddmokaaDoorProg
import Derived.Below
import Derived.Deep.Draws
import Derived.Deep.AppendLies
import Derived.Maps.AppendAt
import Derived.OwnWalk
import Derived.Laws.BytesArg
import Derived.Laws.MakeOwn
import Derived.Laws.OwnMore
import Derived.Deep.OwnRows
import Derived.Tactics
import Derived.Lib.ConvBytes
import Derived.Laws.Slices
import Derived.WalkKit
import Derived.KernelRfl
import Derived.RowKit3
import Derived.Deep.LoopGhost
import Derived.Deep.QuietTactic
import Derived.BigQuiet
import Derived.WideLaws
import Derived.Deep.DeepCutAuto
import Derived.Deep.CutBlock
import Derived.Deep.RegionHeld3
import Derived.Laws.Rows
import Derived.Lib.AppendStr
import Derived.ArgAppend
import Derived.Laws.IdiomCopy
import Derived.OrdersHeld
import Derived.Laws.BitsLemmas
import Derived.RowKit
import Derived.Lib.Hide
import Derived.Test.YthaimkdnddmokaaDoorWireParsesWWords
import Derived.Test.YthaimkdnddmokaaDoorWireParsesWLast
import Derived.Test.YthaimkdnddmokaaDoorWireParsesWTab
import Derived.Test.YthaimkdnddmokaaDoorWireParsesGWShare
import Derived.Test.YthaimkdnddmokaaDoorWireParsesGWRepsOne
import Derived.Test.YthaimkdnddmokaaDoorWireParsesGWMore
import Derived.Lib.TrailingZeros
import Derived.Lib.Space
namespace Go.Proofs.YthaimkdnddmokaaDoor.P
open Go.RowKit Go.Proofs.YthaimkdnddmokaaDoorW.PrintWords Go.Proofs.YthaimkdnddmokaaDoorW.PrintLast Go.Proofs.YthaimkdnddmokaaDoorW.PrintMore
attribute [local go_sem] max2_int min2_int max_two min_two max_three min_three max_four min_four   -- for this text's walks alone
set_option linter.unusedVariables false
set_option linter.unusedSimpArgs false
def errW : Option Int → Value
  | none => .nilIface
  | some c => .iface 0 (.int .i64 c)
theorem errW_none : errW none = .nilIface := rfl
theorem errW_some (c : Int) : errW (some c) = .iface 0 (.int .i64 c) := rfl
theorem info3 : (Tryd.prog.info? 3).map (fun i => (i.zero, i.size, i.bytes)) = some (some (.int .i64 0), 1, 8) := by kernel_rfl
theorem info5 : (Tryd.prog.info? 5).map (fun i => (i.zero, i.size, i.bytes)) = some (some (.int .u8 0), 1, 1) := by kernel_rfl
theorem info9 : (Tryd.prog.info? 9).map (fun i => (i.zero, i.size, i.bytes)) = some (some (.string ⟨#[]⟩), 1, 16) := by kernel_rfl
-- the values' own types
/-! #### struct type 26 -/
/-! #### struct type 28 -/
/-! #### struct type 36 -/
end Go.Proofs.YthaimkdnddmokaaDoor.P
namespace Go.Proofs.YthaimkdnddmokaaDoor.P
open Go.RowKit Go.Proofs.YthaimkdnddmokaaDoorW.PrintWords Go.Proofs.YthaimkdnddmokaaDoorW.PrintLast Go.Proofs.YthaimkdnddmokaaDoorW.PrintMore
structure Tabs (w : World) : Prop where
  deb : ∀ j, j < 64 → w.cell? ⟨3, j, none⟩ = some (.int .u8 (Lib.deBruijn64tab.getD j 0))
  asc : ∀ c, c < 256 → w.cell? ⟨1, c, none⟩ = some (.int .u8 (if Lib.isSp (UInt8.ofNat c) then 1 else 0))
theorem Tabs.below {w W : World} (h : Tabs w) (hb : Below w.heap.size w W) : Tabs W where
  deb := fun j hj => pw_cell_below hb (h.deb j hj)
  asc := fun c hc => pw_cell_below hb (h.asc c hc)
theorem Tabs.drawn {w W : World} (h : Tabs w) (hb : Drawn0 w W) : Tabs W := h.below hb.below
/-- a constant string's bytes, in their marked row -/
theorem const_reads (W : World) (xs : List Int) (fz : Nat × Nat) (hl : xs.length ≤ 9223372036854775807) : Kd.C (Kd.int .u8) (W.alloc (.cells (nums .u8 xs).toArray 5 fz)) (some ⟨W.heap.size, 0, none⟩) xs.length xs := by
  refine Kd.C_of_reads (d := (0 : Int)) (h1 := fun _ => rfl) ⟨rfl, hl, fun h => ⟨_, rfl, fun i hi => ?_⟩⟩
  have hb : (W.alloc (.cells (nums .u8 xs).toArray 5 fz)).heap[W.heap.size]? = some (.cells (nums .u8 xs).toArray 5 fz) := by
    show (W.heap.push _)[W.heap.size]? = _
    simp
  rw [add_plain]
  unfold World.cell?
  rw [hb]
  simp [nums, List.getElem?_eq_getElem hi, List.getD_eq_getElem?_getD]
end Go.Proofs.YthaimkdnddmokaaDoor.P

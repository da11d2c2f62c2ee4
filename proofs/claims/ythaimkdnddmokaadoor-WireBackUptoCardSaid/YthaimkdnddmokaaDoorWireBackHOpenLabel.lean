/- a label that comes in: opened -/
import Derived.Test.YthaimkdnddmokaaDoorWireBackHOpen
import Derived.Test.YthaimkdnddmokaaDoorWireBackGHTabs
import Derived.Lib.LaidTab
import Derived.MakeChecks
import Derived.Test.YthaimkdnddmokaaDoorRows
import Derived.WalkKit
import Derived.ProofKit
import Derived.OpenShut
namespace Go.Proofs.YthaimkdnddmokaaDoor
open Go.RowKit Go.ChangeShapes Go.WideShapes Go.ChangeAt Go.Proofs.YthaimkdnddmokaaDoorW.PrintWords Go.Proofs.YthaimkdnddmokaaDoor.P
set_option linter.unusedVariables false
set_option linter.unusedSimpArgs false
theorem op_label : Opens Tryd.prog 26 (Kd.iso (Kd.pair (Kd.int .i64) (Kd.int .u64)) (fun x : Int × Int => x)) (fun z => (Lit.int .i64 z.1).wf = true ∧ (Lit.int .u64 z.2).wf = true) (fun z => 1 + 1 + 1) :=
  opens_struct2 Tryd.underlying26 rfl (by kernel_rfl) rfl (by kernel_rfl) (by kernel_rfl) (opens_int Tryd.underlying3) (opens_int Tryd.underlying24) (fun x : Int × Int => x) (fun a b => (a, b)) (fun _ _ => rfl)
theorem tabs_of_laid {W : World} {rest : List (String × DataW Unit)} (h : laidMet Tryd.prog (("math/bits.deBruijn64tab", Rows.laid_math_bits_deBruijn64tab) :: rest) W)
  (asc : ∀ c, c < 256 → W.cell? ⟨1, c, none⟩ = some (.int .u8 (if Lib.isSp (UInt8.ofNat c) then 1 else 0)))
    : Tabs W := by
  have ht : Lib.TabIs Tryd.prog W "math/bits.deBruijn64tab" .u8 (Lib.deBruijn64tab.map Int.ofNat) := Lib.tabIs_of_head (g := 3) (t := 113) (e := 5) (n := 64) (by kernel_rfl) (by kernel_rfl) (by kernel_rfl) (by kernel_rfl) (by kernel_rfl) (by kernel_rfl) (show laidMet Tryd.prog (("math/bits.deBruijn64tab", Lib.tabData .u8 (Lib.deBruijn64tab.map Int.ofNat)) :: rest) W from h)
  refine ⟨fun j hj => ?_
  , asc
    ⟩
  have := ht.cell (g := 3) (by kernel_rfl) j (by rw [List.length_map]; exact hj)
  rw [this]
  simp [List.getD_eq_getElem?_getD, List.getElem?_map]
  cases Lib.deBruijn64tab[j]? <;> rfl
end Go.Proofs.YthaimkdnddmokaaDoor

/- a label that comes in: opened -/
import Derived.Test.YtlhodalfbmdnnaaDoorLabelLatticeHOpen
import Derived.Test.YtlhodalfbmdnnaaDoorLabelLatticeHTabs
import Derived.Lib.LaidTab
import Derived.MakeChecks
import Derived.Test.YtlhodalfbmdnnaaDoorLabelLatticePx0
import Derived.Test.YtlhodalfbmdnnaaDoorRows
import Derived.WalkKit
import Derived.ProofKit
import Derived.OpenShut
namespace Go.Proofs.YtlhodalfbmdnnaaDoor
open Go.RowKit Go.ChangeShapes Go.WideShapes Go.ChangeAt Go.Proofs.YtlhodalfbmdnnaaDoorW.PrintWords Go.Proofs.YtlhodalfbmdnnaaDoor.P
set_option linter.unusedVariables false
set_option linter.unusedSimpArgs false
theorem op_label : Opens Tryd.prog 40 (Kd.iso (Kd.pair (Kd.int .i64) (Kd.int .u64)) (fun x : Int × Int => x)) (fun z => (Lit.int .i64 z.1).wf = true ∧ (Lit.int .u64 z.2).wf = true) (fun z => 1 + 1 + 1) :=
  opens_struct2 Tryd.underlying40 rfl (by kernel_rfl) rfl (by kernel_rfl) (by kernel_rfl) (opens_int Tryd.underlying3) (opens_int Tryd.underlying38) (fun x : Int × Int => x) (fun a b => (a, b)) (fun _ _ => rfl)
theorem open_label {H : Type} {enc : TypeId × Value → H} {W : World} {r : Reach} {b0 b : Nat} {sp : Nat → Bool} {held : Bool} {v : Value} {dd : DataW H} {ps : List MemPlace}
    (hval : Value.okWide Tryd.prog W r b0 40 v) (h : DataW.Trod enc Tryd.prog W b sp held 40 v dd ps) :
    ∃ l c, v = .agg #[.int .i64 l, .int .u64 c] ∧ (Lit.int .i64 l).wf = true ∧ (Lit.int .u64 c).wf = true := by
  obtain ⟨cs, rfl, hsz⟩ := okWide_struct Tryd.underlying40 hval
  obtain ⟨fuel, hf⟩ := h
  obtain ⟨⟨l, c⟩, hk, hg, hb⟩ := op_label enc W b sp held fuel _ _ hf
  refine ⟨l, c, ?_, hg.1, hg.2⟩
  obtain ⟨xs, ys, e, k1, k2⟩ := hk
  have k1' : xs = [.int .i64 l] := k1
  have k2' : ys = [.int .u64 c] := k2
  subst k1' k2'
  have e' : cs.toList = [.int .i64 l, .int .u64 c] := e
  exact congrArg Value.agg (Array.toList_inj.1 e')
theorem tabs_of_laid {W : World} {rest : List (String × DataW Unit)} (h : laidMet Tryd.prog (("math/bits.deBruijn64tab", Rows.laid_math_bits_deBruijn64tab) :: rest) W) : Tabs W := by
  have ht : Lib.TabIs Tryd.prog W "math/bits.deBruijn64tab" .u8 (Lib.deBruijn64tab.map Int.ofNat) := Lib.tabIs_of_head (g := 0) (t := 69) (e := 5) (n := 64) (by kernel_rfl) (by kernel_rfl) (by kernel_rfl) (by kernel_rfl) (by kernel_rfl) (by kernel_rfl) (show laidMet Tryd.prog (("math/bits.deBruijn64tab", Lib.tabData .u8 (Lib.deBruijn64tab.map Int.ofNat)) :: rest) W from h)
  refine ⟨fun j hj => ?_⟩
  have := ht.cell (g := 0) (by kernel_rfl) j (by rw [List.length_map]; exact hj)
  rw [this]
  simp [List.getD_eq_getElem?_getD, List.getElem?_map]
  cases Lib.deBruijn64tab[j]? <;> rfl
end Go.Proofs.YtlhodalfbmdnnaaDoor

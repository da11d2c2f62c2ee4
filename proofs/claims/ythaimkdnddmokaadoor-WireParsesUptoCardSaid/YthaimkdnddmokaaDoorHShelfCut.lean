/-
  DERIVED: THE SHELF's CONTRACTS AT THIS DUMP, IN PLAIN WORDS (tools/lay-plain.mjs out of 'YthaimkdnddmokaaDoorHShelfCut.lean', which tools/lay-shelf.mjs wrote): THE SAME DECLARATIONS UNDER THE SAME NAMES: 'import', 'namespace', 'open', 'def', 'theorem' AND NOTHING ELSE: no command of the shelf's: FOR A HAND-IN. Each laying: the table of numbers ('.._ren') and one theorem, a field a fact of the dump's own or the kernel's comparison; each contract: ONE APPLICATION.
-/
import Derived.Shelf.Bytes.SlCut
import Derived.Test.YthaimkdnddmokaaDoorProg
namespace Go.Proofs
open Go.Shelf
def Tryd.laysT4_ren : Go.Shelf.Ren := ⟨fun | 4 => 24 | 5 => 49 | 6 => 62 | 7 => 63 | 8 => 64 | 9 => 65 | 10 => 66 | 11 => 77 | 12 => 78 | n => n, fun | 22 => 22 | 4 => 4 | 3 => 3 | 0 => 0 | 5 => 5 | 29 => 92 | 9 => 9 | 31 => 105 | 30 => 104 | n => n, fun | 0 => 0 | n => n⟩
theorem Tryd.laysT4 : Go.Proofs.SlLaysT.n4 Tryd.prog Tryd.laysT4_ren := {
  mixed := by kernel_rfl
  f4 := Tryd.func24.trans (congrArg some (by kernel_rfl))
  f5 := Tryd.func49.trans (congrArg some (by kernel_rfl))
  f6 := Tryd.func62.trans (congrArg some (by kernel_rfl))
  f7 := Tryd.func63.trans (congrArg some (by kernel_rfl))
  f8 := Tryd.func64.trans (congrArg some (by kernel_rfl))
  f9 := Tryd.func65.trans (congrArg some (by kernel_rfl))
  f10 := Tryd.func66.trans (congrArg some (by kernel_rfl))
  f11 := Tryd.func77.trans (congrArg some (by kernel_rfl))
  f12 := Tryd.func78.trans (congrArg some (by kernel_rfl))
  t0 := Tryd.underlying0
  a0 := Tryd.isAgg0
  z0 := Tryd.sizeOf0
  v0 := Tryd.zeroValue0
  t3 := Tryd.underlying3
  a3 := Tryd.isAgg3
  z3 := Tryd.sizeOf3
  v3 := Tryd.zeroValue3
  t4 := Tryd.underlying4
  a4 := Tryd.isAgg4
  z4 := Tryd.sizeOf4
  v4 := Tryd.zeroValue4
  t5 := Tryd.underlying5
  a5 := Tryd.isAgg5
  z5 := Tryd.sizeOf5
  v5 := Tryd.zeroValue5
  t9 := Tryd.underlying9
  a9 := Tryd.isAgg9
  z9 := Tryd.sizeOf9
  v9 := Tryd.zeroValue9
  t22 := Tryd.underlying22
  a22 := Tryd.isAgg22
  z22 := Tryd.sizeOf22
  v22 := Tryd.zeroValue22
  t29 := Tryd.underlying92
  a29 := Tryd.isAgg92
  z29 := Tryd.sizeOf92
  v29 := Tryd.zeroValue92
  t30 := Tryd.underlying104
  a30 := Tryd.isAgg104
  z30 := Tryd.sizeOf104
  v30 := Tryd.zeroValue104
  t31 := Tryd.underlying105
  a31 := Tryd.isAgg105
  z31 := Tryd.sizeOf105
  v31 := Tryd.zeroValue105
  g0 := by kernel_rfl }
end Go.Proofs

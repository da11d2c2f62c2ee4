/- the package-level tables that the program's text lays, as a world holds them -/
import Derived.Test.YthppicgolkpbaaaDoorDeltaPrintsPx0
import Derived.Lib.TrailingZeros
namespace Go.Proofs.YthppicgolkpbaaaDoor.P
open Go.RowKit Go.Proofs.YthppicgolkpbaaaDoorW.PrintWords Go.Proofs.YthppicgolkpbaaaDoorW.PrintLast Go.Proofs.YthppicgolkpbaaaDoorW.PrintMore
structure Tabs (w : World) : Prop where
  deb : ∀ j, j < 64 → w.cell? ⟨1, j, none⟩ = some (.int .u8 (Lib.deBruijn64tab.getD j 0))
theorem Tabs.below {w W : World} (h : Tabs w) (hb : Below w.heap.size w W) : Tabs W :=
  ⟨fun j hj => pw_cell_below hb (h.deb j hj)⟩
theorem Tabs.drawn {w W : World} (h : Tabs w) (hb : Drawn0 w W) : Tabs W := h.below hb.below
end Go.Proofs.YthppicgolkpbaaaDoor.P

/- the package-level tables that the program's text lays, as a world holds them -/
import Derived.Test.YtlhodalfbmdnnaaDoorTextOwnPx0
import Derived.Lib.TrailingZeros
namespace Go.Proofs.YtlhodalfbmdnnaaDoor.P
open Go.RowKit Go.Proofs.YtlhodalfbmdnnaaDoorW.PrintWords Go.Proofs.YtlhodalfbmdnnaaDoorW.PrintLast Go.Proofs.YtlhodalfbmdnnaaDoorW.PrintMore
structure Tabs (w : World) : Prop where
  deb : ∀ j, j < 64 → w.cell? ⟨0, j, none⟩ = some (.int .u8 (Lib.deBruijn64tab.getD j 0))
theorem Tabs.below {w W : World} (h : Tabs w) (hb : Below w.heap.size w W) : Tabs W :=
  ⟨fun j hj => pw_cell_below hb (h.deb j hj)⟩
theorem Tabs.drawn {w W : World} (h : Tabs w) (hb : Drawn0 w W) : Tabs W := h.below hb.below
/-- a constant string's bytes, in their marked row -/
theorem const_reads (W : World) (xs : List Int) (fz : Nat × Nat) (hl : xs.length ≤ 9223372036854775807) : Kd.C (Kd.int .u8) (W.alloc (.cells (nums .u8 xs).toArray 5 fz)) (some ⟨W.heap.size, 0, none⟩) xs.length xs := by
  refine Kd.C_of_reads (d := (0 : Int)) (h1 := fun _ => rfl) ⟨rfl, hl, fun h => ⟨_, rfl, fun i hi => ?_⟩⟩
  have hb : (W.alloc (.cells (nums .u8 xs).toArray 5 fz)).heap[W.heap.size]? = some (.cells (nums .u8 xs).toArray 5 fz) := by
    show (W.heap.push _)[W.heap.size]? = _
    simp
  rw [add_plain]
  unfold World.cell?
  rw [hb]
  simp [nums, List.getElem?_eq_getElem hi, List.getD_eq_getElem?_getD]
end Go.Proofs.YtlhodalfbmdnnaaDoor.P

/- jalousielaw02.LabelCats: the printed function answers true; condition: the numbers' own bounds, and that the list's bytes fit. -/
import Derived.Test.YtlhodalfbmdnnaaDoorLabelCatsPx0
import Derived.Test.YtlhodalfbmdnnaaDoorLabelCatsHLabelOf
import Derived.Test.YtlhodalfbmdnnaaDoorLabelCatsHLive02
import Derived.Test.YtlhodalfbmdnnaaDoorLabelCatsPxLLabelCats
namespace Go.Proofs.YtlhodalfbmdnnaaDoor.P
open Go.RowKit Go.Proofs.YtlhodalfbmdnnaaDoorW.PrintWords Go.Proofs.YtlhodalfbmdnnaaDoorW.PrintLast Go.Proofs.YtlhodalfbmdnnaaDoorW.PrintMore
set_option linter.unusedVariables false
set_option linter.unusedSimpArgs false
theorem law_cats_l (a : Int) (l m : List Int) (hl : l.length ≤ 9223372036854775807) (hm : m.length ≤ 64) (d : Nat) : ∀ (i k : Nat), i + d = m.length → d + 2 * l.length + 4 ≤ k → jalousielaw02_LabelCats.l0 k a l m m (i : Int) = some true := by
  induction d with
  | zero =>
    intro i k hi hk
    obtain ⟨k, rfl⟩ : ∃ m, k = m + 1 := ⟨k - 1, by omega⟩
    simp only [jalousielaw02_LabelCats.l0, jalousielaw02_live.f]
    rw [if_neg (by omega), text_Of_tells a l hl k (by omega), ref_Of_tells a l hl k (by omega)]
    simp
  | succ d ih =>
    intro i k hi hk
    obtain ⟨k, rfl⟩ : ∃ m, k = m + 1 := ⟨k - 1, by omega⟩
    simp only [jalousielaw02_LabelCats.l0]
    rw [if_pos (by omega), if_pos (by omega), if_pos (by omega), if_pos trivial, w64 _ (by omega) (by omega)]
    exact ih (i + 1) k (by omega) (by omega)
theorem LabelCats_true (b : Int) (A : Nat) (a : Int) (l : List Int) (hA : A < 18446744073709551616) (hl : l.length ≤ 9223372036854775807) : jalousielaw02_LabelCats.f (2 * l.length + 100) b (A : Int) a l = some true := by
  have hc := catsFrom_le A 0
  unfold jalousielaw02_LabelCats.f
  rw [text_Cats_tells b A _ hA (by omega), ref_Cats_tells b A _ (by omega)]
  simp only [Option.bind_some]
  rw [if_pos trivial]
  exact law_cats_l a l (catsFrom A 0) hl (by omega) _ 0 _ (Nat.zero_add _) (by omega)
theorem LabelCats.walk (b : Int) (A : Nat) (a : Int) (Ad : Option Addr) (c : Nat) (l : List Int) (w : World) (hT : Tabs w) (hA : A < 18446744073709551616) (hC : Kd.C (Kd.int .i64) w Ad l.length l) (hc : l.length ≤ c) (hl : l.length ≤ 9223372036854775807) :
    Calls Tryd.prog 9 #[.agg #[.int .i64 b, .int .u64 (A : Int)], .int .i64 a, .slice Ad l.length c] w fun e w' => e = .returned (.bool true) ∧ Below w.heap.size w w' :=
  jalousielaw02_LabelCats.calls (2 * l.length + 100) b A a Ad c l true w hC hc hT (LabelCats_true b A a l hA hl)
end Go.Proofs.YtlhodalfbmdnnaaDoor.P

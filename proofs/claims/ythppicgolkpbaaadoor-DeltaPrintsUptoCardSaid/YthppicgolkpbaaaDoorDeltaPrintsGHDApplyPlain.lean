/- what this claim needs of the words and the printed functions; conditions: as each statement says -/
import Derived.Test.YthppicgolkpbaaaDoorDeltaPrintsHBoxItem
import Derived.Test.YthppicgolkpbaaaDoorDeltaPrintsGHPick
import Derived.Test.YthppicgolkpbaaaDoorDeltaPrintsPxJalousieref15
namespace Go.Proofs.YthppicgolkpbaaaDoor.P
open Go.RowKit Go.Proofs.YthppicgolkpbaaaDoorW.PrintWords Go.Proofs.YthppicgolkpbaaaDoorW.PrintLast Go.Proofs.YthppicgolkpbaaaDoorW.PrintMore
set_option linter.unusedVariables false
set_option linter.unusedSimpArgs false
def putPart (W : World) (g : Nat) (a n : Int) (v : Value) : World := ((W.setCell ⟨g, 0, none⟩ (.int .i64 a)).setCell ⟨g, 1, none⟩ (.int .i64 n)).setCell ⟨g, 2, none⟩ v
theorem three_set (a b c a' b' c' : Value) : ((#[a, b, c].setIfInBounds 0 a').setIfInBounds 1 b').setIfInBounds 2 c' = #[a', b', c'] := by simp
theorem putPart_blk {W : World} {g : Nat} {x y z : Value} (a n : Int) (v : Value) (h : W.heap[g]? = some (.cells #[x, y, z] 27 (0, 0))) : (putPart W g a n v).heap[g]? = some (.cells #[.int .i64 a, .int .i64 n, v] 27 (0, 0)) := by
  unfold putPart
  have h5 := blk_set (blk_set (blk_set h 0 (.int .i64 a)) 1 (.int .i64 n)) 2 v
  rw [three_set] at h5
  exact h5
theorem putPart_below {w W : World} {g : Nat} (a n : Int) (v : Value) (hb : Below w.heap.size w W) (hg : w.heap.size ≤ g) : Below w.heap.size w (putPart W g a n v) := by
  unfold putPart
  exact (((hb.setCell (p := ⟨g, 0, none⟩) hg _).setCell (p := ⟨g, 1, none⟩) hg _).setCell (p := ⟨g, 2, none⟩) hg _)
end Go.Proofs.YthppicgolkpbaaaDoor.P
namespace Go.Proofs.YthppicgolkpbaaaDoor.P
open Go.RowKit Go.Proofs.YthppicgolkpbaaaDoorW.PrintWords Go.Proofs.YthppicgolkpbaaaDoorW.PrintLast Go.Proofs.YthppicgolkpbaaaDoorW.PrintMore
set_option linter.unusedVariables false
set_option linter.unusedSimpArgs false
theorem wrong_good {a n : Int} {l : Nat} (h : wrongOf a n l = 0) : 0 ≤ a ∧ 0 ≤ n ∧ (0 < n → l = 0) ∧ (n = 0 → a = 0) := by
  unfold wrongOf at h
  by_cases h1 : (n = 0 ∧ l = 0) ∨ (¬ n = 0 ∧ ¬ l = 0)
  · rw [if_pos h1] at h; cases h
  · rw [if_neg h1] at h
    by_cases h2 : a < 0
    · rw [if_pos h2] at h; cases h
    · rw [if_neg h2] at h
      by_cases h3 : n < 0
      · rw [if_pos h3] at h; cases h
      · rw [if_neg h3] at h
        by_cases h4 : ¬ l = 0 ∧ ¬ a = 0
        · rw [if_pos h4] at h; cases h
        · omega
/-! ### the reference -/
theorem ref_wrong (p : S27) : Ev (fun k => jalousieref15_wrong.f k p.f0 p.f1 p.f2) (wrongOf p.f0 p.f1 p.f2.length) := by
  refine ⟨1, fun k hk => ?_⟩
  obtain ⟨k, rfl⟩ : ∃ m, k = m + 1 := ⟨k - 1, by omega⟩
  unfold jalousieref15_wrong.f wrongOf
  simp only [jalousieref15_wrong.j0]
  by_cases h1 : p.f1 = 0
  · rw [if_pos h1]
    by_cases h2 : p.f2.length = 0
    · have : ((p.f2.length : Int) == 0) = true := by simp; exact List.eq_nil_of_length_eq_zero h2
      rw [this, if_pos rfl, if_pos (.inl ⟨h1, h2⟩)]
    · have : ((p.f2.length : Int) == 0) = false := by simp; intro h; rw [h] at h2; simp at h2
      rw [this, if_neg (by decide), if_neg (show ¬ ((p.f1 = 0 ∧ p.f2.length = 0) ∨ (¬ p.f1 = 0 ∧ ¬ p.f2.length = 0)) by omega)]
      by_cases h3 : p.f0 < 0
      · rw [if_pos h3, if_pos h3]
      · rw [if_neg h3, if_neg h3, if_neg (show ¬ p.f1 < 0 by omega), if_neg (show ¬ p.f1 < 0 by omega), if_pos (show (p.f2.length : Int) > 0 by omega)]
        by_cases h4 : p.f0 = 0
        · rw [if_pos h4, if_neg (by omega)]
        · rw [if_neg h4, if_pos ⟨h2, h4⟩]
  · rw [if_neg h1]
    by_cases h2 : p.f2.length = 0
    · rw [if_neg (by omega), if_neg (by decide), if_neg (show ¬ ((p.f1 = 0 ∧ p.f2.length = 0) ∨ (¬ p.f1 = 0 ∧ ¬ p.f2.length = 0)) by omega)]
      by_cases h3 : p.f0 < 0
      · rw [if_pos h3, if_pos h3]
      · rw [if_neg h3, if_neg h3]
        by_cases h5 : p.f1 < 0
        · rw [if_pos h5, if_pos h5]
        · rw [if_neg h5, if_neg h5, if_neg (by omega), if_neg (by omega)]
    · rw [if_pos (by omega), if_pos trivial, if_pos (.inr ⟨h1, h2⟩)]
/-! ### Apply of Make is the older list -/
end Go.Proofs.YthppicgolkpbaaaDoor.P

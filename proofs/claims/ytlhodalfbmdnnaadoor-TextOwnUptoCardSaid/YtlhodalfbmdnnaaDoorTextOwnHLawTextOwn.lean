/- jalousielaw01.TextOwn: the printed function answers true; condition: fewer than 2000000 bytes, each a byte. -/
import Derived.Test.YtlhodalfbmdnnaaDoorTextOwnHLineLaws
import Derived.Test.YtlhodalfbmdnnaaDoorTextOwnHLive01
import Derived.Test.YtlhodalfbmdnnaaDoorTextOwnPxLTextOwn
namespace Go.Proofs.YtlhodalfbmdnnaaDoor.P
open Go.RowKit Go.Proofs.YtlhodalfbmdnnaaDoorW.PrintWords Go.Proofs.YtlhodalfbmdnnaaDoorW.PrintLast Go.Proofs.YtlhodalfbmdnnaaDoorW.PrintMore
set_option linter.unusedVariables false
set_option linter.unusedSimpArgs false
theorem own_join_length (l0 : List Int) : (joinOf (linesOf l0)).length = l0.length := by
  have := congrArg (fun s : ByteArray => s.data.toList.length) (back_join l0)
  simpa [strOfNums] using this
theorem own_l1 (l0 : List Int) (hl : l0.length < 2000000) (d : Nat) : ∀ (i k : Nat) (p : List Int), p.length ≤ 2000000 → i + d = p.length → d + (linesOf l0).length + 3 ≤ k → jalousielaw01_TextOwn.l1 k l0 (linesOf l0) p (i : Int) = some true := by
  have hL := linesOf_le l0
  induction d with
  | zero =>
    intro i k p hp hi hk
    obtain ⟨k, rfl⟩ : ∃ m, k = m + 1 := ⟨k - 1, by omega⟩
    have hJ : text_Join.f k (linesOf l0) = some (joinOf (linesOf l0)) := at_rounds (text_Join.mono _) (show (linesOf l0).length + 1 ≤ k by omega) (text_Join_tells _ (by omega) (by rw [own_join_length]; omega))
    have hS : jalousieref01_Same.f k (linesOf l0) (linesOf l0) = some true := at_rounds (jalousieref01_Same.mono _ _) (show (linesOf l0).length + 1 ≤ k by omega) (same_self _ (by omega))
    have hR : jalousieref01_Lines.f l0 = some (linesOf l0) := by unfold jalousieref01_Lines.f; rw [if_pos (by omega)]
    simp only [jalousielaw01_TextOwn.l1, jalousielaw01_live.f]
    rw [if_neg (by omega), hR]
    simp only [Option.bind_some]
    rw [hS, hJ]
    simp only [Option.bind_some, if_true]
    rw [back_join]
    simp
  | succ d ih =>
    intro i k p hp hi hk
    obtain ⟨k, rfl⟩ : ∃ m, k = m + 1 := ⟨k - 1, by omega⟩
    simp only [jalousielaw01_TextOwn.l1]
    rw [if_pos (by omega), if_pos (by omega), w64 _ (by omega) (by omega)]
    exact ih (i + 1) k _ (by simpa using hp) (by simp; omega) (by omega)
theorem own_l0 (l0 : List Int) (hl : l0.length < 2000000) (d : Nat) : ∀ (i k : Nat) (p : List Int), p.length ≤ 2000000 → i + d = p.length → d + 2000000 + (linesOf l0).length + 10 ≤ k → jalousielaw01_TextOwn.l0 k l0 p (linesOf l0) (i : Int) = some true := by
  have hL := linesOf_le l0
  induction d with
  | zero =>
    intro i k p hp hi hk
    obtain ⟨k, rfl⟩ : ∃ m, k = m + 1 := ⟨k - 1, by omega⟩
    have hJ : text_Join.f k (linesOf l0) = some (joinOf (linesOf l0)) := at_rounds (text_Join.mono _) (show (linesOf l0).length + 1 ≤ k by omega) (text_Join_tells _ (by omega) (by rw [own_join_length]; omega))
    simp only [jalousielaw01_TextOwn.l0]
    rw [if_neg (by omega), hJ]
    simp only [Option.bind_some]
    exact own_l1 l0 hl _ 0 k _ (by rw [own_join_length]; omega) (Nat.zero_add _) (by rw [own_join_length]; omega)
  | succ d ih =>
    intro i k p hp hi hk
    obtain ⟨k, rfl⟩ : ∃ m, k = m + 1 := ⟨k - 1, by omega⟩
    simp only [jalousielaw01_TextOwn.l0]
    rw [if_pos (by omega), if_pos (by omega), w64 _ (by omega) (by omega)]
    exact ih (i + 1) k _ (by simpa using hp) (by simp; omega) (by omega)
theorem TextOwn_true (l0 : List Int) (hl : l0.length < 2000000) (k : Nat) (hk : 6100000 ≤ k) : jalousielaw01_TextOwn.f k l0 = some true := by
  have hL := linesOf_le l0
  unfold jalousielaw01_TextOwn.f
  simp only [Option.bind_some]
  rw [if_pos (by simp; omega)]
  simp only [Option.bind_some, List.nil_append]
  rw [show text_Lines.f l0 = some (linesOf l0) by unfold text_Lines.f; rw [if_pos (by omega)]]
  simp only [Option.bind_some]
  exact own_l0 l0 hl l0.length 0 k l0 (by omega) (by omega) (by omega)
theorem TextOwn.walk (A0 : Option Addr) (c0 : Nat) (l0 : List Int) (w : World) (hr0 : Kd.C (Kd.int .u8) w A0 l0.length l0) (hc0 : l0.length ≤ c0) (hs0 : l0.length < 2000000) :
    Calls Tryd.prog 6 #[.slice A0 l0.length c0] w fun e w' => e = .returned (.bool true) ∧ Below w.heap.size w w' := by
  obtain ⟨k, hk⟩ : ∃ k : Nat, 6100000 ≤ k := ⟨6100000, Nat.le_refl _⟩
  exact jalousielaw01_TextOwn.calls k A0 c0 l0 true w hr0 hc0 (Lib.hid rfl) (TextOwn_true l0 hs0 k hk)
end Go.Proofs.YtlhodalfbmdnnaaDoor.P

/- delta.taken's contract out of its plain answer: the item that a line's words tell; conditions: a text of fewer than 2^32 - 15 bytes. -/
import Derived.Test.YthppicgolkpbaaaDoorDeltaTextsGPxStringslite
import Derived.Test.YthppicgolkpbaaaDoorDeltaTextsPxDelta
namespace Go.Proofs.YthppicgolkpbaaaDoor.P
open Go.RowKit Go.Proofs.YthppicgolkpbaaaDoorW.PrintWords Go.Proofs.YthppicgolkpbaaaDoorW.PrintLast Go.Proofs.YthppicgolkpbaaaDoorW.PrintMore
set_option linter.unusedVariables false
set_option linter.unusedSimpArgs false
theorem ba_toList (a b : ByteArray) : (a.toList == b.toList) = (a.data.toList == b.data.toList) := by
  rw [Lib.toList_data, Lib.toList_data]
theorem hasPrefix_tells (s : ByteArray) (c : UInt8) (hs : s.size ≤ 140737488355328) : strings_HasPrefix.f s ⟨#[c]⟩ = some (beginsC s c) := by
  unfold strings_HasPrefix.f stringslite_HasPrefix.f
  have h1 : ((⟨#[c]⟩ : ByteArray).size : Int) = 1 := rfl
  rw [h1]
  by_cases h : (s.size : Int) ≥ 1
  · rw [if_pos h, if_pos (by decide), if_pos (by omega), ba_toList]
    simp only [Option.bind_some, Option.some.injEq]
    unfold beginsC
    have hl : s.data.toList.length = s.size := data_length s
    have : (s.extract 0 (1 : Int).toNat).data.toList = s.data.toList.take 1 := by simp [ByteArray.extract, ByteArray.copySlice]
    rw [this]
    cases hd : s.data.toList with
    | nil => rw [hd] at hl; simp at hl; omega
    | cons b l => simp
  · rw [if_neg h]
    simp only [Option.bind_some, Option.some.injEq]
    unfold beginsC
    have hl : s.data.toList.length = s.size := data_length s
    cases hd : s.data.toList with
    | nil => rfl
    | cons b l => rw [hd] at hl; simp at hl; omega
theorem hasSuffix_tells (s : ByteArray) (c : UInt8) (hs : s.size ≤ 140737488355328) : strings_HasSuffix.f s ⟨#[c]⟩ = some (endsC s c) := by
  unfold strings_HasSuffix.f stringslite_HasSuffix.f
  have h1 : ((⟨#[c]⟩ : ByteArray).size : Int) = 1 := rfl
  rw [h1]
  have hl : s.data.toList.length = s.size := data_length s
  by_cases h : (s.size : Int) ≥ 1
  · have hw : wrap64 ((s.size : Int) - 1) = (s.size : Int) - 1 := w64 _ (by omega) (by omega)
    rw [if_pos h, hw, if_pos (by omega), if_pos (by omega), ba_toList]
    simp only [Option.bind_some, Option.some.injEq]
    unfold endsC
    have hn : ((s.size : Int) - 1).toNat = s.size - 1 := by omega
    have : (s.extract ((s.size : Int) - 1).toNat s.size).data.toList = s.data.toList.drop (s.size - 1) := by
      rw [hn, Lib.extract_to_end]
    rw [this]
    rcases List.eq_nil_or_concat s.data.toList with h0 | ⟨l, b, h0⟩
    · rw [h0] at hl; simp at hl; omega
    · rw [h0] at hl ⊢
      simp only [List.concat_eq_append, List.length_append, List.length_singleton] at hl
      rw [show s.size - 1 = l.length by omega]
      simp
  · rw [if_neg h]
    simp only [Option.bind_some, Option.some.injEq]
    unfold endsC
    cases hd : s.data.toList with
    | nil => rfl
    | cons b l => rw [hd] at hl; simp at hl; omega
theorem taken_tells (s : ByteArray) (hs : s.size < 4294967281) : delta_taken.f 13 s = some (takenRes s) := by
  have hp : strings_SplitN.f s ⟨#[32]⟩ 5 = some (piecesOf s) := by
    unfold strings_SplitN.f
    rw [if_pos (show (⟨#[32]⟩ : ByteArray).size = 1 from rfl), if_pos (by decide), if_pos hs]
    rfl
  unfold delta_taken.f takenRes
  rw [hp]
  simp only [Option.bind_some]
  by_cases h5 : (piecesOf s).length < 5
  · rw [if_pos (by omega), if_pos h5]
  rw [if_neg (by omega), if_neg h5, if_pos (by omega), show (1 : Int) = ((1 : Nat) : Int) from rfl, rd_wd, text_Number_tells]
  simp only [Option.bind_some]
  rw [if_pos (by omega), show (2 : Int) = ((2 : Nat) : Int) from rfl, rd_wd, label_Parse_tells _ (Nat.lt_of_le_of_lt (piece_size s 2) hs)]
  simp only [Option.bind_some]
  have h3 := piece_size s 3
  rw [if_pos (by omega), show (3 : Int) = ((3 : Nat) : Int) from rfl, rd_wd, hasPrefix_tells _ _ (by omega)]
  simp only [Option.bind_some]
  rw [if_pos (by omega), hasSuffix_tells _ _ (by omega)]
  simp only [Option.bind_some]
  rw [show (4 : Int) = ((4 : Nat) : Int) from rfl, rd_wd]
  cases hb : (numOf (wdOf (piecesOf s) 1)).2
  · rw [if_neg (by decide)]; rfl
  · rw [if_pos rfl]; rfl
theorem taken_said : TakenSaid := fun s w hT hs => delta_taken.calls 13 s _ _ _ _ _ _ _ w hT (taken_tells s hs)
end Go.Proofs.YthppicgolkpbaaaDoor.P

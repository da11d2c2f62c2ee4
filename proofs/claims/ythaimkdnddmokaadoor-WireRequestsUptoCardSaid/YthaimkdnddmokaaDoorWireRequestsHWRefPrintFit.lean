/- jalousieref21.Print's contract: a request's bytes; conditions: a file's name and a body of at most 2^30 bytes, categories of 64 bits. -/
import Derived.Test.YthaimkdnddmokaaDoorWireRequestsHWRefPrint
namespace Go.Proofs.YthaimkdnddmokaaDoor.P
open Go.RowKit Go.Proofs.YthaimkdnddmokaaDoorW.PrintWords Go.Proofs.YthaimkdnddmokaaDoorW.PrintLast Go.Proofs.YthaimkdnddmokaaDoorW.PrintMore
set_option linter.unusedVariables false
set_option linter.unusedSimpArgs false
theorem ref_line {v l : Int} {c : Nat} {f : ByteArray} {a b d : Int} : (addNums (headO (baOf (verbL v)) (labOf l c) f (formV v).1) a b d (formV v).2.1).data.toList = lineR v l c f a b d := by
  unfold lineR wordsR
  have e1 : (labOf l c).data.toList = labL l c := rfl
  have e2 : ∀ n, (decOf n).data.toList = decL n := fun n => rfl
  have e3 : (⟨#[32]⟩ : ByteArray).data.toList = [32] := rfl
  rcases form_cases v with h | h | h | h | h | h
  all_goals
    rw [h]
    simp [addNums, headO, nums3, joinW, ba_app, e1, e2, e3, baOf_data]
def jalousieref21_Print.f (v l : Int) (c : Nat) (f : ByteArray) (a b d : Int) (l0 : List Int) : Option (List Int × Int) := if f.size ≤ 1073741824 ∧ l0.length ≤ 1073741824 ∧ c < 18446744073709551616 then some (printR v l c f a b d l0) else none
theorem jalousieref21_Print.calls (v l : Int) (c : Nat) (f : ByteArray) (a b d : Int) (A0 : Option Addr) (c0 : Nat) (l0 : List Int) (r1 : List Int) (r2 : Int) (w : World) (hr0 : Kd.C (Kd.int .u8) w A0 l0.length l0) (hc0 : l0.length ≤ c0) (h : jalousieref21_Print.f v l c f a b d l0 = some (r1, r2)) :
    Calls Tryd.prog 20 #[.agg #[.int .i64 v, .int .i64 l, .int .u64 (c : Int), .string f, .int .i64 a, .int .i64 b, .int .i64 d, .slice A0 l0.length c0]] w fun e w' => ∃ A cc, e = .returned (.tuple #[.slice A r1.length cc, .int .i64 r2]) ∧ Kd.C (Kd.int .u8) w' A r1.length r1 ∧ r1.length ≤ cc ∧ Below w.heap.size w w' := by
  unfold jalousieref21_Print.f at h
  split at h
  case isFalse => cases h
  rename_i hf
  obtain ⟨hf1, hf2, hf3⟩ := hf
  have h := Option.some.inj h
  have := RefPrint.walk v l c f a b d A0 c0 l0 (checkR v l f a b d l0.length) (baOf (verbL v)) (labOf l c) (formV v).1 (formV v).2.2 (formV v).2.1 w hr0 hc0 (by omega) (by omega) (by unfold jalousieref21_Check.f; rw [if_pos (by omega)]) (ref_Word_tells v) (verb_small_le v) 100 (ref_Print_label_tells l c 100 (by decide)) (lab_small l c) (names_tells v) (form_num v).1
  have e : (if checkR v l f a b d l0.length = 0 then bytesOf (addNums (headO (baOf (verbL v)) (labOf l c) f (formV v).1) a b d (formV v).2.1 ++ ⟨#[10]⟩) ++ l0 else []) = (printR v l c f a b d l0).1 := by
    unfold printR
    by_cases h0 : checkR v l f a b d l0.length = 0
    · rw [if_pos h0, if_pos h0, ← ref_line]
      unfold bytesOf
      simp [ByteArray.data_append, baOf_data]
    · rw [if_neg h0, if_neg h0]
  have e2 : (printR v l c f a b d l0).2 = checkR v l f a b d l0.length := by
    unfold printR
    by_cases h0 : checkR v l f a b d l0.length = 0
    · rw [if_pos h0, h0]
    · rw [if_neg h0]
  rw [e, ← e2, h] at this
  exact this
end Go.Proofs.YthaimkdnddmokaaDoor.P

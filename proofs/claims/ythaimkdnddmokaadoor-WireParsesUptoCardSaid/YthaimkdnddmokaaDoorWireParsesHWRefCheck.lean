/- jalousieref21.Check's contract: what is wrong with a request; condition: a file's name of at most 2^47 bytes. -/
import Derived.Test.YthaimkdnddmokaaDoorWireParsesHWRefCheckW
import Derived.Test.YthaimkdnddmokaaDoorWireParsesHWCheckFit
namespace Go.Proofs.YthaimkdnddmokaaDoor.P
open Go.RowKit Go.Proofs.YthaimkdnddmokaaDoorW.PrintWords Go.Proofs.YthaimkdnddmokaaDoorW.PrintLast Go.Proofs.YthaimkdnddmokaaDoorW.PrintMore
set_option linter.unusedVariables false
set_option linter.unusedSimpArgs false
theorem okR_eq (x : Int) (b : Bool) : okR x b = okNum x b := by
  unfold okR okNum
  by_cases h0 : x = 0
  · subst h0; cases b <;> rfl
  · by_cases h1 : 0 ≤ x
    · have h2 : 0 < x := by omega
      simp [h0, h1, h2]
      cases b <;> simp
    · have h2 : ¬ 0 < x := by omega
      simp [h0, h1, h2]
theorem form_num (v : Int) : (formV v).2.1 ≤ 3 ∧ (decide (0 < (formV v).2.1) = decide (1 ≤ (formV v).2.1)) ∧ (decide (1 < (formV v).2.1) = decide (3 ≤ (formV v).2.1)) ∧ (decide (2 < (formV v).2.1) = decide (3 ≤ (formV v).2.1)) := by
  rcases form_cases v with h | h | h | h | h | h <;> rw [h] <;> decide
theorem checkC_eq (em rt f1 fk o1 o2 o3 f2 : Bool) (z n : Nat) (hm : em = true ∨ em = false) : checkC em rt (badF f1 fk (decide (0 < z)) f2 (decide (0 < n))) o1 o2 o3 n = checkB em rt f1 fk (decide (z = 0)) o1 o2 o3 f2 n := by
  have e : decide (z = 0) = !decide (0 < z) := by
    by_cases h : z = 0
    · subst h; rfl
    · have h2 : 0 < z := by omega
      simp [h, h2]
  rw [e]
  unfold checkC checkB badF
  by_cases hp : 0 < n
  · simp only [hp, decide_true, Bool.and_true, and_true]
    cases em <;> cases rt <;> cases f1 <;> cases fk <;> cases decide (0 < z) <;> cases o1 <;> cases o2 <;> cases o3 <;> cases f2 <;> rfl
  · simp only [hp, decide_false, Bool.and_false, and_false, if_false]
    cases em <;> cases rt <;> cases f1 <;> cases fk <;> cases decide (0 < z) <;> cases o1 <;> cases o2 <;> cases o3 <;> cases f2 <;> rfl
def jalousieref21_Check.f (a0_0 a0_1 a0_2 : Int) (a0_3 : ByteArray) (a0_4 a0_5 a0_6 : Int) (l0_7 : List Int) : Option Int := if a0_3.size ≤ 140737488355328 then some (checkR a0_0 a0_1 a0_3 a0_4 a0_5 a0_6 l0_7.length) else none
theorem jalousieref21_Check.calls (a0_0 a0_1 a0_2 : Int) (a0_3 : ByteArray) (a0_4 a0_5 a0_6 : Int) (A0_7 : Option Addr) (c0_7 : Nat) (l0_7 : List Int) (r : Int) (w : World) (hr0_7 : Kd.C (Kd.int .u8) w A0_7 l0_7.length l0_7) (hc0_7 : l0_7.length ≤ c0_7) (h : jalousieref21_Check.f a0_0 a0_1 a0_2 a0_3 a0_4 a0_5 a0_6 l0_7 = some r) :
    Calls Tryd.prog 22 #[.agg #[.int .i64 a0_0, .int .i64 a0_1, .int .u64 a0_2, .string a0_3, .int .i64 a0_4, .int .i64 a0_5, .int .i64 a0_6, .slice A0_7 l0_7.length c0_7]] w fun e w' => e = .returned (.int .i64 r) ∧ Below w.heap.size w w' := by
  unfold jalousieref21_Check.f at h
  split at h
  case isFalse => cases h
  rename_i hs
  obtain rfl := Option.some.inj h
  obtain ⟨n1, n2, n3, n4⟩ := form_num a0_0
  have := RefCheck.walk a0_0 a0_1 a0_2 a0_3 a0_4 a0_5 a0_6 A0_7 l0_7.length c0_7 _ _ _ _ _ _ _ w hr0_7.2.1 (by omega) n1 (ref_Word_tells a0_0) (verb_small_le a0_0) (ref_right_tells a0_1 a0_2) (names_tells a0_0) (ref_file_tells a0_3 hs)
  have he : decide ((baOf (verbL a0_0)).size = 0) = decide (verbL a0_0 = []) := by rw [← baOf_empty, empty_toList]
  rw [n2, n3, n4, okR_eq, okR_eq, okR_eq, checkC_eq _ _ _ _ _ _ _ _ _ _ (by cases decide ((baOf (verbL a0_0)).size = 0) <;> simp), he, checkB_eq] at this
  exact this
end Go.Proofs.YthaimkdnddmokaaDoor.P

/- wire.Check's contract: what is wrong with a request; condition: a file's name of at most 2^47 bytes. -/
import Derived.Test.YthaimkdnddmokaaDoorWireParsesHWCheck
import Derived.Test.YthaimkdnddmokaaDoorWireParsesHWTells
namespace Go.Proofs.YthaimkdnddmokaaDoor.P
open Go.RowKit Go.Proofs.YthaimkdnddmokaaDoorW.PrintWords Go.Proofs.YthaimkdnddmokaaDoorW.PrintLast Go.Proofs.YthaimkdnddmokaaDoorW.PrintMore
set_option linter.unusedVariables false
set_option linter.unusedSimpArgs false
theorem empty_toList (s : ByteArray) : s.toList.isEmpty = decide (s.size = 0) := by
  rw [toList_data, ← data_length]
  cases s.data.toList <;> simp
theorem baOf_empty (l : List UInt8) : (baOf l).toList.isEmpty = decide (l = []) := by
  rw [toList_data, baOf_data]
  cases l <;> simp
theorem checkB_eq (v l : Int) (file : ByteArray) (a b d : Int) (n : Nat) : checkB (decide (verbL v = [])) (decide (0 ≤ l) && decide (l ≤ 15)) (formV v).1 (okFile file) (decide (file.size = 0)) (okNum a (decide (1 ≤ (formV v).2.1))) (okNum b (decide (3 ≤ (formV v).2.1))) (okNum d (decide (3 ≤ (formV v).2.1))) (formV v).2.2 n = checkR v l file a b d n := by
  unfold checkB checkR
  congr 1
  · simp
  have e : (((decide (0 ≤ l) && decide (l ≤ 15)) = false) = ¬ (0 ≤ l ∧ l ≤ 15)) := by
    rw [eq_iff_iff, Bool.and_eq_false_iff, decide_eq_false_iff_not, decide_eq_false_iff_not]
    omega
  simp only [e, decide_eq_false_iff_not]
theorem checkB_bad (rt f1 fk ef o1 o2 o3 f2 : Bool) (n : Nat) : checkB true rt f1 fk ef o1 o2 o3 f2 n = 3 := rfl
def wire_Check.f (a0_0 a0_1 a0_2 : Int) (a0_3 : ByteArray) (a0_4 a0_5 a0_6 : Int) (l0_7 : List Int) : Option Int := if a0_3.size ≤ 140737488355328 then some (checkR a0_0 a0_1 a0_3 a0_4 a0_5 a0_6 l0_7.length) else none
theorem form_none {v : Int} (h : ¬ (1 ≤ v ∧ v ≤ 11)) : formS v = ⟨#[]⟩ := by
  unfold formS
  rw [if_neg (by omega), if_neg (by omega), if_neg (by omega), if_neg (by omega), if_neg (by omega)]
theorem wire_Check.calls (a0_0 a0_1 a0_2 : Int) (a0_3 : ByteArray) (a0_4 a0_5 a0_6 : Int) (A0_7 : Option Addr) (c0_7 : Nat) (l0_7 : List Int) (r : Int) (w : World) (hr0_7 : Kd.C (Kd.int .u8) w A0_7 l0_7.length l0_7) (hc0_7 : l0_7.length ≤ c0_7) (hT : Tabs w) (h : wire_Check.f a0_0 a0_1 a0_2 a0_3 a0_4 a0_5 a0_6 l0_7 = some r) :
    Calls Tryd.prog 21 #[.agg #[.int .i64 a0_0, .int .i64 a0_1, .int .u64 a0_2, .string a0_3, .int .i64 a0_4, .int .i64 a0_5, .int .i64 a0_6, .slice A0_7 l0_7.length c0_7]] w fun e w' => e = .returned (.int .i64 r) ∧ Below w.heap.size w w' := by
  unfold wire_Check.f at h
  split at h
  case isFalse => cases h
  rename_i hs
  obtain rfl := Option.some.inj h
  have hn := hr0_7.2.1
  by_cases hv : 1 ≤ a0_0 ∧ a0_0 ≤ 11
  · obtain ⟨h1, h2, h3, h4, h5⟩ := has_tells hv
    have := Check.walk a0_0 a0_1 a0_2 a0_3 a0_4 a0_5 a0_6 A0_7 l0_7.length c0_7 _ _ _ _ _ _ _ _ _ _ _ _ w hn hT (wire_Word_tells a0_0) (form_tells a0_0) (right_tells a0_1 a0_2) h1 h2 h3 h4 h5 (file_tells a0_3 hs) (number_tells a0_4 _) (number_tells a0_5 _) (number_tells a0_6 _)
    rw [baOf_empty, empty_toList, checkB_eq] at this
    exact this
  · have hw : verbL a0_0 = [] := (verb_some a0_0).2 hv
    have h0 : formS a0_0 = ⟨#[]⟩ := form_none hv
    have := Check.walk a0_0 a0_1 a0_2 a0_3 a0_4 a0_5 a0_6 A0_7 l0_7.length c0_7 _ _ _ false false false false _ _ _ _ _ w hn hT (wire_Word_tells a0_0) (form_tells a0_0) (right_tells a0_1 a0_2) (by rw [h0]; rfl) (by rw [h0]; rfl) (by rw [h0]; rfl) (by rw [h0]; rfl) (by rw [h0]; rfl) (file_tells a0_3 hs) (number_tells a0_4 _) (number_tells a0_5 _) (number_tells a0_6 _)
    rw [baOf_empty, decide_eq_true hw, checkB_bad] at this
    have e : checkR a0_0 a0_1 a0_3 a0_4 a0_5 a0_6 l0_7.length = 3 := by unfold checkR; rw [if_pos hw]
    rw [e]
    exact this
end Go.Proofs.YthaimkdnddmokaaDoor.P

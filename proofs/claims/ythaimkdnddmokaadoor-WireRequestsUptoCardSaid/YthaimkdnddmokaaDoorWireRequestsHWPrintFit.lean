/- wire.Print's contract: a request's bytes; conditions: a file's name and a body of at most 2^30 bytes, categories of 64 bits. -/
import Derived.Test.YthaimkdnddmokaaDoorWireRequestsHWPrint
import Derived.Test.YthaimkdnddmokaaDoorWireRequestsGHWReadFit
namespace Go.Proofs.YthaimkdnddmokaaDoor.P
open Go.RowKit Go.Proofs.YthaimkdnddmokaaDoorW.PrintWords Go.Proofs.YthaimkdnddmokaaDoorW.PrintLast Go.Proofs.YthaimkdnddmokaaDoorW.PrintMore
set_option linter.unusedVariables false
set_option linter.unusedSimpArgs false
theorem joinW_eq : ∀ l : List (List UInt8), Lib.join l [32] = joinW l
  | [] => rfl
  | [x] => by rw [Lib.join_one]; rfl
  | x :: y :: l => by
    have ih := joinW_eq (y :: l)
    unfold Lib.join at ih ⊢
    rw [joinW, ← ih]
    simp [List.intercalate]
def reqWs (v l : Int) (c : Nat) (f : ByteArray) (a b d : Int) : List ByteArray := [baOf (verbL v), labOf l c] ++ (formS v).data.toList.flatMap (letW f a b d)
theorem req_words {v l : Int} {c : Nat} {f : ByteArray} {a b d : Int} (hv : 1 ≤ v ∧ v ≤ 11) : (reqWs v l c f a b d).map (fun s => s.data.toList) = wordsR v l c f a b d := by
  unfold reqWs wordsR
  have e1 : (labOf l c).data.toList = labL l c := rfl
  have e2 : ∀ n, (decOf n).data.toList = decL n := fun n => rfl
  rcases form_pair hv with ⟨h1, h2⟩ | ⟨h1, h2⟩ | ⟨h1, h2⟩ | ⟨h1, h2⟩ | ⟨h1, h2⟩ | ⟨h1, h2⟩
  all_goals
    rw [h1, h2]
    simp [letW, e1, e2, baOf_data]
theorem form_letter (v : Int) : (formS v).data.toList.all letterP = true := (form_all v).1
theorem form_len (v : Int) : (formS v).data.toList.length ≤ 10 := by rw [data_length]; exact (form_all v).2
theorem dec_small (n : Int) : (decOf n).size ≤ 20 := by
  have := dec_size n
  omega
theorem join_len (N : Nat) : ∀ l : List (List UInt8), (∀ x ∈ l, x.length ≤ N) → (joinW l).length ≤ l.length * (N + 1)
  | [], _ => by simp [joinW]
  | [x], h => by have := h x (by simp); simp [joinW]; omega
  | x :: y :: l, h => by
    have h1 := h x (by simp)
    have ih := join_len N (y :: l) (fun z hz => h z (by simp [hz]))
    rw [joinW, List.length_append, List.length_cons]
    simp only [List.length_cons] at ih ⊢
    have e : (l.length + 1 + 1) * (N + 1) = (l.length + 1) * (N + 1) + (N + 1) := by rw [Nat.add_mul, Nat.one_mul]
    omega
theorem req_ws_len (v l : Int) (c : Nat) (f : ByteArray) (a b d : Int) : (reqWs v l c f a b d).length ≤ 12 := by
  unfold reqWs
  have h : ∀ F : List UInt8, (F.flatMap (letW f a b d)).length ≤ F.length := by
    intro F
    induction F with
    | nil => simp
    | cons x F ih =>
      have h1 : (letW f a b d x).length ≤ 1 := by
        unfold letW
        repeat' split
        all_goals simp
      rw [List.flatMap_cons, List.length_append, List.length_cons]
      omega
  have h1 := h (formS v).data.toList
  have h2 := form_len v
  simp only [List.length_append, List.length_cons, List.length_nil]
  omega
theorem lab_small (l : Int) (c : Nat) : (labOf l c).size ≤ 3000 := Nat.le_trans (lab_size l c) (by decide)
theorem req_ws_size (v l : Int) (c : Nat) (f : ByteArray) (a b d : Int) (hf : f.size ≤ 1073741824) : ∀ s ∈ reqWs v l c f a b d, s.size ≤ 1073741824 := by
  intro s hs
  unfold reqWs at hs
  have hv := verb_small_le v
  have hl := lab_small l c
  rcases List.mem_append.1 hs with hs | hs
  · rcases List.mem_cons.1 hs with rfl | hs
    · omega
    · rw [List.mem_singleton.1 hs]; omega
  · obtain ⟨x, _, hx⟩ := List.mem_flatMap.1 hs
    have ha := dec_small a
    have hb := dec_small b
    have hd := dec_small d
    unfold letW at hx
    repeat' split at hx
    all_goals first | (rw [List.mem_singleton.1 hx]; omega) | (exact absurd hx (by simp))
def wire_Print.f (v l : Int) (c : Nat) (f : ByteArray) (a b d : Int) (l0 : List Int) : Option (List Int × Int) := if f.size ≤ 1073741824 ∧ l0.length ≤ 1073741824 ∧ c < 18446744073709551616 then some (printR v l c f a b d l0) else none
theorem check_range (v l : Int) (f : ByteArray) (a b d : Int) (n : Nat) (h : checkR v l f a b d n = 0) : 1 ≤ v ∧ v ≤ 11 := by
  have := check_ok h
  exact ⟨this.1, this.2.1⟩
theorem wire_Print.calls (v l : Int) (c : Nat) (f : ByteArray) (a b d : Int) (A0 : Option Addr) (c0 : Nat) (l0 : List Int) (r1 : List Int) (r2 : Int) (w : World) (hr0 : Kd.C (Kd.int .u8) w A0 l0.length l0) (hc0 : l0.length ≤ c0) (hT : Tabs w) (h : wire_Print.f v l c f a b d l0 = some (r1, r2)) :
    Calls Tryd.prog 19 #[.agg #[.int .i64 v, .int .i64 l, .int .u64 (c : Int), .string f, .int .i64 a, .int .i64 b, .int .i64 d, .slice A0 l0.length c0]] w fun e w' => ∃ A cc, e = .returned (.tuple #[.slice A r1.length cc, .int .i64 r2]) ∧ Kd.C (Kd.int .u8) w' A r1.length r1 ∧ r1.length ≤ cc ∧ (A = none → cc = 0) ∧ Below w.heap.size w w' := by
  unfold wire_Print.f at h
  split at h
  case isFalse => cases h
  rename_i hf
  obtain ⟨hf1, hf2, hf3⟩ := hf
  have h := Option.some.inj h
  have hlen := req_ws_len v l c f a b d
  have hsz := req_ws_size v l c f a b d hf1
  have hjl : (joinW ((reqWs v l c f a b d).map fun s => s.data.toList)).length ≤ 12 * (1073741824 + 1) := by
    refine Nat.le_trans (join_len 1073741824 _ (fun x hx => ?_)) ?_
    · obtain ⟨s, hs, rfl⟩ := List.mem_map.1 hx
      show s.data.toList.length ≤ _
      rw [data_length]
      exact hsz s hs
    · rw [List.length_map]
      exact Nat.mul_le_mul_right _ hlen
  have hjb : joinB (reqWs v l c f a b d) ⟨#[32]⟩ = joinW ((reqWs v l c f a b d).map fun s => s.data.toList) := joinW_eq _
  have hJ : strings_Join.f (reqWs v l c f a b d) ⟨#[32]⟩ = some (baOf (joinW ((reqWs v l c f a b d).map fun s => s.data.toList))) := by
    unfold strings_Join.f
    rw [if_pos (by omega), hjb, if_pos (by omega)]
    rfl
  have hJs : (baOf (joinW ((reqWs v l c f a b d).map fun s => s.data.toList))).size ≤ 1099511627776 := by
    rw [← data_length, baOf_data]
    omega
  have := Print.walk v l c f a b d A0 c0 l0 (checkR v l f a b d l0.length) (baOf (verbL v)) (labOf l c) (formS v) _ (reqWs v l c f a b d) w hT hr0 hc0 (by omega) (by unfold wire_Check.f; rw [if_pos (by omega)]) (wire_Word_tells v) (text_Print_tells l c 66 hf3 (by decide)) (form_tells v) (form_all v).2 (form_letter v) rfl hJ hJs
  have e : (if checkR v l f a b d l0.length = 0 then bytesOf (baOf (joinW ((reqWs v l c f a b d).map fun s => s.data.toList)) ++ ⟨#[10]⟩) ++ l0 else []) = (printR v l c f a b d l0).1 := by
    unfold printR
    by_cases h0 : checkR v l f a b d l0.length = 0
    · rw [if_pos h0, if_pos h0, req_words (check_range _ _ _ _ _ _ _ h0)]
      unfold lineR bytesOf
      simp [ByteArray.data_append]
    · rw [if_neg h0, if_neg h0]
  have e2 : (printR v l c f a b d l0).2 = checkR v l f a b d l0.length := by
    unfold printR
    by_cases h0 : checkR v l f a b d l0.length = 0
    · rw [if_pos h0, h0]
    · rw [if_neg h0]
  rw [e, ← e2, h] at this
  exact this
end Go.Proofs.YthaimkdnddmokaaDoor.P

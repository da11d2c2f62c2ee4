/- jalousieref01.Words, by hand: it tells just what strings.Split at a blank tells; condition: fewer than 2^32 - 15 bytes. -/
import Derived.Test.YthaimkdnddmokaaDoorWireParsesGHTabs
import Derived.Test.YthaimkdnddmokaaDoorWireParsesHStrings
import Derived.Test.YthaimkdnddmokaaDoorWireParsesGHBase
import Derived.Lib.Hide
import Derived.IntWalk
namespace Go.Proofs.YthaimkdnddmokaaDoor.P
open Go.RowKit Go.Proofs.YthaimkdnddmokaaDoorW.PrintWords Go.Proofs.YthaimkdnddmokaaDoorW.PrintLast Go.Proofs.YthaimkdnddmokaaDoorW.PrintMore
set_option linter.unusedVariables false
set_option linter.unusedSimpArgs false
def jalousieref01_Words.f (a0 : ByteArray) : Option (List ByteArray) := if a0.size < 4294967281 then some ((splitC 32 a0.data.toList).map baOf) else none
def splitAcc (c : UInt8) (cur : List UInt8) : List UInt8 → List (List UInt8)
  | [] => [cur]
  | b :: l => if b = c then cur :: splitAcc c [] l else splitAcc c (cur ++ [b]) l
theorem splitC_ne (c : UInt8) (l : List UInt8) : splitC c l ≠ [] := by
  cases l with
  | nil => simp [splitC]
  | cons b l =>
    unfold splitC
    split
    · simp
    · split <;> simp
theorem splitAcc_eq (c : UInt8) : ∀ (l cur : List UInt8), splitAcc c cur l = match splitC c l with | [] => [cur] | x :: xs => (cur ++ x) :: xs
  | [], cur => by simp [splitAcc, splitC]
  | b :: l, cur => by
    unfold splitAcc splitC
    by_cases hb : b = c
    · rw [if_pos hb, if_pos hb, splitAcc_eq c l []]
      cases h : splitC c l with
      | nil => exact absurd h (splitC_ne c l)
      | cons x xs => simp
    · rw [if_neg hb, if_neg hb, splitAcc_eq c l (cur ++ [b])]
      cases h : splitC c l with
      | nil => exact absurd h (splitC_ne c l)
      | cons x xs => simp
theorem splitAcc_nil (c : UInt8) (l : List UInt8) : splitAcc c [] l = splitC c l := by
  rw [splitAcc_eq]
  cases h : splitC c l with
  | nil => exact absurd h (splitC_ne c l)
  | cons x xs => simp
theorem splitAcc_next (c : UInt8) (cur : List UInt8) (s : ByteArray) (i : Nat) (h : i < s.size) : splitAcc c cur (s.data.toList.drop i) = if bt s (i : Int) = (c.toNat : Int) then cur :: splitAcc c [] (s.data.toList.drop (i + 1)) else splitAcc c (cur ++ [s.data.toList[i]'(by rw [data_length]; exact h)]) (s.data.toList.drop (i + 1)) := by
  rw [List.drop_eq_getElem_cons (by rw [data_length]; exact h), splitAcc]
  by_cases hb : bt s (i : Int) = (c.toNat : Int)
  · rw [if_pos hb, if_pos ((byte_is s i h c).2 hb)]
  · rw [if_neg hb, if_neg (fun e => hb ((byte_is s i h c).1 e))]
theorem extract_one (s : ByteArray) (i : Nat) (h : i < s.size) (cur : List UInt8) : baOf cur ++ s.extract i (i + 1) = baOf (cur ++ [s.data.toList[i]'(by rw [data_length]; exact h)]) := by
  apply ByteArray.ext
  apply Array.toList_inj.1
  have hl : i < s.data.toList.length := by rw [data_length]; exact h
  simp only [ByteArray.data_append, Array.toList_append, baOf_data, ByteArray.data_extract, Array.toList_extract]
  rw [List.extract_eq_take_drop, show i + 1 - i = 1 by omega, List.drop_eq_getElem_cons hl]
  rfl
def RefWordsRel (w : World) (s : ByteArray) (v3 v4 : Value) (w' : World) : Prop := ∃ (dn : List (List UInt8)) (cur : List UInt8) (i : Nat), v4 = .int .i64 i ∧ i ≤ s.size ∧
  Kd.R Kd.string 9 w' w.heap.size (fun _ => True) v3 ((dn ++ [cur]).map baOf) ∧ Below w.heap.size w w' ∧ dn ++ splitAcc 32 cur (s.data.toList.drop i) = splitC 32 s.data.toList ∧ dn.length ≤ i ∧ cur.length ≤ i
/-- the row that is filled: where it lies -/
theorem words_form {W : World} {base : Nat} {v : Value} {ds : List (List UInt8)} {cur : List UInt8} (ho : Kd.R Kd.string 9 W base (fun _ => True) v ((ds ++ [cur]).map baOf)) :
    ∃ g c, v = .slice (some ⟨g, 0, none⟩) (ds.length + 1) c ∧ base ≤ g ∧ W.cell? ⟨g, ds.length, none⟩ = some (.string (baOf cur)) ∧ W.frozen? ⟨g, ds.length, none⟩ = false ∧
      (∀ x : List UInt8, Kd.R Kd.string 9 (W.setCell ⟨g, ds.length, none⟩ (.string (baOf x))) base (fun _ => True) (.slice (some ⟨g, 0, none⟩) (ds.length + 1) c) ((ds ++ [x]).map baOf)) := by
  have hw := Kd.own_of_R (enc := Value.string) (h1 := fun _ => rfl) ho
  have hl : ((ds ++ [cur]).map baOf).length = ds.length + 1 := by simp
  obtain ⟨_, ⟨_, h0⟩ | ⟨g, cap, cur', rfl, hb, hh, _⟩⟩ := hw
  · simp at h0
  · have ho' := ho
    have hw' := Kd.own_of_R (enc := Value.string) (h1 := fun _ => rfl) ho'
    rw [hl] at hw'
    refine ⟨g, cap, by rw [hl], hb, ?_, by simp [World.frozen?, hh], fun x => ?_⟩
    · have := own_at_of (enc := Value.string) (d := (⟨#[]⟩ : ByteArray)) hw' (ds.length : Int) (by omega) (by omega)
      have e : rdOf (⟨#[]⟩ : ByteArray) ((ds ++ [cur]).map baOf) (ds.length : Int) = baOf cur := by simp [rdOf, List.getD_eq_getElem?_getD]
      rw [Int.toNat_natCast, e] at this
      exact this.1
    · have := (Kd.R_put (enc := Value.string) (h1 := fun _ => rfl) ho (ds.length : Int) (baOf x)).1
      rw [hl, Int.toNat_natCast] at this
      have e : ((ds ++ [cur]).map baOf).set ds.length (baOf x) = (ds ++ [x]).map baOf := by simp [List.set_append]
      rwa [e] at this
set_option maxHeartbeats 4000000 in
set_option maxRecDepth 100000 in
theorem jalousieref01_Words.calls (a0 : ByteArray) (r : List ByteArray) (w : World) (h : jalousieref01_Words.f a0 = some r) :
    Calls Tryd.prog 29 #[.string a0] w fun e w' => ∃ v0_ : Value, e = .returned v0_ ∧ Kd.R Kd.string 9 w' w.heap.size (fun _ => True) v0_ r ∧ Below w.heap.size w w' := by
  have hlen : a0.size < 4294967281 := by
    by_cases hl : a0.size < 4294967281
    · exact hl
    · rw [jalousieref01_Words.f, if_neg hl] at h; cases h
  rw [jalousieref01_Words.f, if_pos hlen] at h
  obtain rfl := Option.some.inj h
  clear h
  go_enter Tryd.func29, Tryd.ntmps29
  go_wp2_with ((with_reducible refine gate_dst (N := 5) rfl ?_); refine Kd.R_lit Kd.string _ 9 ?hg (N := 5) ?hd (xs := ([⟨#[]⟩] : List ByteArray)) (inner := [.string ⟨#[]⟩]) (ok := fun _ => True) (okp := fun _ => True) ?hr ?hp (fun _ hk => hk) trivial (Below.refl _ _) (Nat.le_refl _) (by simp) ?_; (case hd => rfl); (case hg => rfl); (case hr => first | (go_simp; done) | (go_simp; rfl)); (case hp => exact (Reps.one (show Kd.M Kd.string _ _ _ ⟨#[]⟩ [.string ⟨#[]⟩] from rfl) (Reps.none _ _))); intro v1 w2 ho3 hb hg_ hnew_; clear hg_ hnew_)
  go_loopw [3, 4] (fun v3 v4 w' => RefWordsRel w a0 v3 v4 w') (fun _ v4 _ => a0.size - (intOf v4).toNat)
  case atStart => exact ⟨[], [], 0, rfl, by omega, ho3, hb, by rw [List.drop_zero, splitAcc_nil]; rfl, by simp, by simp⟩
  case round =>
    obtain ⟨dn, cur, i, rfl, hi, HO, HB, heq, hdi, hci⟩ := hrel
    have HEQ := Lib.hid heq
    clear heq ho3 hb
    have hlt := HB.size
    by_cases hlt2 : i < a0.size
    · have hd2 : decide (i < a0.size) = true := by simpa using hlt2
      have hd3 : decide ((i : Int) < (a0.size : Int)) = true := by simpa using hlt2
      have hib2 : (i : Int) + 1 ≤ a0.size := by omega
      have hx : ∀ h : i < a0.size, ((a0[i]'h).toNat : Int) = bt a0 (i : Int) := bt_at a0 (i : Int)
      have HN := Lib.hid (splitAcc_next 32 cur a0 i hlt2)
      by_cases h10 : bt a0 (i : Int) = 32
      · have hc10 : (bt a0 (i : Int) == 32) = true := by simpa using h10
        have H10 := Lib.hid h10
        clear h10
        go_wp2_with ((with_reducible refine gate_builtin (b := .append) (xs := #[.tmp 16, .tmp 17]) rfl ?_); at_builtin; refine Kd.R_append Kd.string (w0 := w) w.heap.size rfl (.tmp 16) (.tmp 17) 53 9 (.string ⟨#[]⟩) 16 rfl Tryd.underlying53 info9 rfl (by decide) (by omega) _ _ (⟨#[]⟩ : ByteArray) [.string ⟨#[]⟩] (fun _ => True) (fun _ => False) rfl rfl rfl (fun _ hk => hk.elim) (fun _ _ => trivial) HO HB hlt (by simp; omega) ?_; intro v1 w1 ho1 hb1 hg1 hat1)
        go_roundw
        case rel => exact ⟨dn ++ [cur], [], i + 1, by go_num, by omega, by rw [List.map_append (l₁ := dn ++ [cur])]; exact ho1, hb1, by rw [List.append_assoc, ← HEQ.out, HN.out, if_pos (show bt a0 (i : Int) = ((32 : UInt8).toNat : Int) from H10.out)]; rfl, by simp; omega, by simp⟩
        case measure => simp [intOf]; omega
      · have hc10 : (bt a0 (i : Int) == 32) = false := by simpa using h10
        obtain ⟨g, c, rfl, hg, hcell, hfz, hput⟩ := words_form HO
        have HP := Lib.hid hput
        have hgl := World.block_lt_of_cell? wr _ hcell
        have hw1 : IntKind.i64.wrap ((i : Int) + 1) = (i : Int) + 1 := IntWalk.i64_in _ (by omega)
        have hw2 : IntKind.i64.wrap (((dn.length + 1 : Nat) : Int) - 1) = (dn.length : Int) := by rw [show ((dn.length + 1 : Nat) : Int) - 1 = (dn.length : Int) by omega]; exact IntWalk.i64_in _ (by omega)
        have c1 : (0 : Int) ≤ (i : Int) + 1 := by omega
        have c2 : (i : Int) ≤ (i : Int) + 1 := by omega
        have c3 : ((i : Int) + 1).toNat = i + 1 := by omega
        have c4 : (0 : Int) ≤ (i : Int) := by omega
        have mixed : Tryd.prog.follows Departure.mixedOrders = true := by kernel_rfl
        have hcs : (baOf cur).size = cur.length := by rw [← data_length]; rfl
        obtain ⟨S, hS⟩ : ∃ S, a0.extract i (i + 1) = S := ⟨_, rfl⟩
        have hSz : S.size ≤ 1 := by rw [← hS, ByteArray.size_extract]; omega
        have hbig : (9223372036854775807 < (baOf cur).size + S.size) = False := eq_false (by omega)
        have hbig2 : (baOf cur).size + S.size ≤ 9223372036854775807 := by omega
        have HS := Lib.hid (extract_one a0 i hlt2 cur)
        rw [hS] at HS
        have HCS := Lib.hid hcs
        clear hcs
        have H10 := Lib.hid h10
        clear h10 hput HO
        go_wp2
        go_region_o
        go_wp2
        go_roundw
        case rel => exact ⟨dn, cur ++ [a0.data.toList[i]'(by rw [data_length]; exact hlt2)], i + 1, by go_num, by omega, Kd.R_drew (by rw [HS.out]; exact HP.out _), below_drew (below_set HB hg), by rw [← HEQ.out, HN.out, if_neg (show ¬ bt a0 (i : Int) = ((32 : UInt8).toNat : Int) from H10.out)], by omega, by simp; omega⟩
        case measure => simp [intOf]; omega
    · have hd2 : decide (i < a0.size) = false := by simpa using hlt2
      obtain rfl : i = a0.size := by omega
      have HE : Hid ((splitC 32 a0.data.toList).map baOf = (dn ++ [cur]).map baOf) := by
        show _ = _
        rw [← HEQ.out, List.drop_eq_nil_of_le (by rw [data_length]; omega)]
        rfl
      go_wp2
      go_ret
      exact ⟨_, rfl, by rw [HE.out]; exact HO, HB⟩
end Go.Proofs.YthaimkdnddmokaaDoor.P

/- jalousieref21.Cut: what is ahead of the first byte 10, and behind it; condition: fewer than 2^47 bytes. -/
import Derived.Test.YthaimkdnddmokaaDoorWireParsesHWirePlain
import Derived.Test.YthaimkdnddmokaaDoorWireParsesGHTabs
namespace Go.Proofs.YthaimkdnddmokaaDoor.P
open Go.RowKit Go.Proofs.YthaimkdnddmokaaDoorW.PrintWords Go.Proofs.YthaimkdnddmokaaDoorW.PrintLast Go.Proofs.YthaimkdnddmokaaDoorW.PrintMore
set_option linter.unusedVariables false
set_option linter.unusedSimpArgs false
theorem cutI_none : ∀ l : List Int, (∀ z ∈ l, z ≠ 10) → cutI l = (l, [], false)
  | [], _ => rfl
  | b :: l, h => by rw [cutI, if_neg (h b (by simp)), cutI_none l (fun z hz => h z (by simp [hz]))]
def jalousieref21_Cut.f (l0 : List Int) : Option (ByteArray × List Int × Bool) := if l0.length < 140737488355328 then some (if (cutI l0).2.2 = true then (strOfNums (cutI l0).1, (cutI l0).2.1, true) else (⟨#[]⟩, [], false)) else none
def CutRel (l : List Int) (v5 : Value) : Prop := ∃ i : Nat, v5 = .int .i64 i ∧ i ≤ l.length ∧ ∀ z ∈ l.take i, z ≠ 10
theorem cut_here {l : List Int} {i : Nat} (hi : i < l.length) (h : ∀ z ∈ l.take i, z ≠ 10) (h10 : rd l (i : Int) = 10) : cutI l = (l.take i, l.drop (i + 1), true) := by
  have e : l = l.take i ++ 10 :: l.drop (i + 1) := by
    conv => lhs; rw [← List.take_append_drop i l, rd_drop_i l i hi, h10]
  conv => lhs; rw [e]
  exact cutI_in _ _ h
def refcut5.T : Bool × List (List Nat × List Nat) := (true, [([], []), ([], []), ([0, 1], [0, 1]), ([2], [2]), ([], []), ([], []), ([], []), ([6], [6]), ([5, 7], [5, 7]), ([4, 8], [4, 8]), ([3, 9, 0, 1, 2, 3], [3]), ([9, 10, 0, 1, 2, 3, 4, 5, 6, 7, 8, 9, 10], [9]), ([11, 0, 1, 2, 3, 4, 5, 6, 7, 8, 9, 10, 11], [])])
def refcut5.B : List Nat := [0, 0, 3, 7, 0, 0, 0, 64, 224, 496, 1023, 2047, 4095]
theorem refcut5.tab : rtab .any (opsOf Tryd.f28 5) = refcut5.T := by kernel_rfl
theorem refcut5.bits : waitsOk refcut5.T.2 refcut5.B = true := by kernel_rfl
set_option maxHeartbeats 2000000 in
set_option maxRecDepth 100000 in
theorem jalousieref21_Cut.calls (A0 : Option Addr) (c0 : Nat) (l0 : List Int) (r1 : ByteArray) (r2 : List Int) (r3 : Bool) (w : World) (hr0 : Kd.C (Kd.int .u8) w A0 l0.length l0) (hc0 : l0.length ≤ c0) (h : jalousieref21_Cut.f l0 = some (r1, r2, r3)) :
    Calls Tryd.prog 28 #[.slice A0 l0.length c0] w fun e w' => ∃ v1_ : Value, e = .returned (.tuple #[.string r1, v1_, .bool r3]) ∧ Kd.R (Kd.int .u8) 5 w' w.heap.size (fun _ => True) v1_ r2 ∧ Below w.heap.size w w' := by
  unfold jalousieref21_Cut.f at h
  split at h
  case isFalse => cases h
  rename_i hlen
  have H := Lib.hid (Option.some.inj h)
  have HR0 := Lib.hid hr0
  clear h hr0
  go_enter Tryd.func28, Tryd.ntmps28
  go_wp2
  go_loop [5] (fun v5 => CutRel l0 v5) (fun v5 => l0.length - (intOf v5).toNat)
  case atStart => exact ⟨0, rfl, Nat.zero_le _, fun z hz => by simp at hz⟩
  case round =>
    obtain ⟨i, rfl, hi, hno⟩ := hrel
    have HNO := Lib.hid hno
    clear hno
    by_cases hlt : i < l0.length
    · have d1 : decide ((i : Int) < (l0.length : Int)) = true := by simpa using hlt
      obtain ⟨ad, e1, hx0⟩ := Kd.at_int HR0.out (i : Int) (by omega) (by omega)
      rw [Int.toNat_natCast] at hx0
      subst e1
      by_cases h10 : rd l0 (i : Int) = 10
      · have b1 : (rd l0 (i : Int) == 10) = true := beq_iff_eq.mpr h10
        have HC := Lib.hid (cut_here hlt HNO.out h10)
        have HH : Hid ((strOfNums (l0.take i), l0.drop (i + 1), true) = (r1, r2, r3)) := by
          show _ = _
          have := H.out
          rw [HC.out] at this
          simpa using this
        clear h10 HC
        injection HH.out with g1 g2
        injection g2 with g2 g3
        subst g1 g2 g3
        clear HH
        go_wp2
        obtain ⟨i0, hi0, _, hsz, _⟩ := info_parts info5
        obtain ⟨hcut1, hA1, hC1⟩ := print_take_of (P := Tryd.prog) (Value.int .u8) 0 22 5 .i64 Tryd.underlying22 hi0 hsz (some ad) c0 l0 (i : Int) (by omega) (by omega) hc0
        obtain ⟨A2, hcut2, hA2, hC2⟩ := print_drop_of (P := Tryd.prog) (Value.int .u8) 0 22 5 .i64 Tryd.underlying22 hi0 hsz (some ad) c0 l0 ((i : Int) + 1) (by omega) (by omega) hc0
        have HR1 := Lib.hid (Kd.C_of_reads (h1 := fun _ => rfl) (hA1 _ (Kd.reads_of_C HR0.out)))
        have HR2 := Lib.hid (Kd.C_of_reads (h1 := fun _ => rfl) (hA2 _ (Kd.reads_of_C HR0.out)))
        have e2 : ((i : Int) + 1).toNat = i + 1 := by omega
        have e3 : (l0.take i).length = i := by rw [List.length_take]; omega
        rw [Int.toNat_natCast] at hcut1 HR1
        rw [e3] at hcut1 HR1
        rw [e2] at hcut2 HR2
        have HR2 := Lib.hid (show Kd.C (Kd.int .u8) w A2 (l0.length - (i + 1)) (l0.drop (i + 1)) from by have := HR2.out; rw [List.length_drop] at this; exact this)
        have hw1 : IntKind.i64.wrap ((i : Int) + 1) = (i : Int) + 1 := IntWalk.i64_in _ (by omega)
        have hS : ∀ W, Below w.heap.size w W → (convert 22 9 (.slice (some ad) i c0)).run Tryd.prog W = .ok (.string (strOfNums (l0.take i))) W := fun W hb => Kd.C_string (P := Tryd.prog) (A := some ad) (c := c0) Tryd.underlying22 Tryd.underlying5 Tryd.underlying9 (Kd.C_below HR1.out hb)
        have HS := Lib.hid hS
        have hwn : wrap64 ((i : Int) + 1) = (i : Int) + 1 := w64 _ (by omega) (by omega)
        clear hA1 hA2 hS hC1 hC2 e2 e3
        refine start_ (n := 13) (S := fun w' => (convert 22 9 (.slice (some ad) i c0)).run Tryd.prog w' = .ok (.string (strOfNums (l0.take i))) w') (ds := []) #[false, false, false, false, false, false, false, false, false, false, false, false, false] (by kernel_rfl) rfl rfl (HS.out _ (below_drew (Below.refl _ _))) (fun hHeld => ?_); refine with_tabW refcut5.tab refcut5.bits (fun HT_ HW_ => ?_)
        refine pure_ (i := 0) (N := some 17) (v := ?_) (a' := ?_) #[true, false, false, false, false, false, false, false, false, false, false, false, false] rfl rfl (any_of HT_.out (by kernel_rfl)) (fun _ _ _ h => h) (Or.inl ⟨by rfl, ?_⟩) ?_ ?_; rotate_left; (intro w'; go_simp; with_reducible rfl); rotate_left; (simp only [Act.put, List.setIfInBounds_toArray, List.set_cons_zero, List.set_cons_succ, i64_w, i32_w]; rfl)
        refine pure_ (i := 1) (N := some 18) (v := ?_) (a' := ?_) #[true, true, false, false, false, false, false, false, false, false, false, false, false] rfl rfl (any_of HT_.out (by kernel_rfl)) (fun _ _ _ h => h) (Or.inl ⟨by rfl, ?_⟩) ?_ ?_; rotate_left; (intro w'; go_simp; with_reducible rfl); rotate_left; (simp only [Act.put, List.setIfInBounds_toArray, List.set_cons_zero, List.set_cons_succ, i64_w, i32_w]; rfl)
        refine pure_ (i := 2) (N := some 19) (v := ?_) (a' := ?_) #[true, true, true, false, false, false, false, false, false, false, false, false, false] rfl rfl (any_of HT_.out (by kernel_rfl)) (fun _ _ _ h => h) (Or.inl ⟨by rfl, ?_⟩) ?_ ?_; rotate_left; (intro w'; go_simp; with_reducible rfl); rotate_left; (simp only [Act.put, List.setIfInBounds_toArray, List.set_cons_zero, List.set_cons_succ, i64_w, i32_w]; rfl)
        refine pure_ (i := 5) (N := some 22) (v := ?_) (a' := ?_) #[true, true, true, false, false, true, false, false, false, false, false, false, false] rfl rfl (any_of HT_.out (by kernel_rfl)) (fun _ _ _ h => h) (Or.inl ⟨by rfl, ?_⟩) ?_ ?_; rotate_left; (intro w'; go_simp; with_reducible rfl); rotate_left; (simp only [Act.put, List.setIfInBounds_toArray, List.set_cons_zero, List.set_cons_succ, i64_w, i32_w]; rfl)
        refine pure_ (i := 6) (N := some 23) (v := ?_) (a' := ?_) #[true, true, true, false, false, true, true, false, false, false, false, false, false] rfl rfl (any_of HT_.out (by kernel_rfl)) (fun _ _ _ h => h) (Or.inl ⟨by rfl, ?_⟩) ?_ ?_; rotate_left; (intro w'; go_simp; with_reducible rfl); rotate_left; (simp only [Act.put, List.setIfInBounds_toArray, List.set_cons_zero, List.set_cons_succ, i64_w, i32_w]; rfl)
        refine pure_ (i := 7) (N := some 24) (v := ?_) (a' := ?_) #[true, true, true, false, false, true, true, true, false, false, false, false, false] rfl rfl (any_of HT_.out (by kernel_rfl)) (fun _ _ _ h => h) (Or.inl ⟨by rfl, ?_⟩) ?_ ?_; rotate_left; (intro w'; go_simp; with_reducible rfl); rotate_left; (simp only [Act.put, List.setIfInBounds_toArray, List.set_cons_zero, List.set_cons_succ, i64_w, i32_w]; rfl)
        refine pure_ (i := 8) (N := some 25) (v := ?_) (a' := ?_) #[true, true, true, false, false, true, true, true, true, false, false, false, false] rfl rfl (any_of HT_.out (by kernel_rfl)) (fun _ _ _ h => h) (Or.inl ⟨by rfl, ?_⟩) ?_ ?_; rotate_left; (intro w'; go_simp; with_reducible rfl); rotate_left; (simp only [Act.put, List.setIfInBounds_toArray, List.set_cons_zero, List.set_cons_succ, i64_w, i32_w]; rfl)
        refine take_ (i := 3) (N := some 20) (v := ?_) (a' := ?_) #[true, true, true, true, false, true, true, true, true, false, false, false, false] rfl rfl (take_ofW HT_.out HW_.out (by kernel_rfl)) (fun _ _ _ h => h) (Or.inl ⟨by rfl, ?_⟩) hHeld ?_ ?_; rotate_left; (intro w' s0; (try dsimp only at s0); (try go_split_ands); go_simp; with_reducible rfl); rotate_left; (simp only [Act.put, List.setIfInBounds_toArray, List.set_cons_zero, List.set_cons_succ, i64_w, i32_w]; rfl)
        refine one_ (i := 4) (N := some 21) #[true, true, true, true, true, true, true, true, true, false, false, false, false] rfl rfl (one_of HT_.out (by kernel_rfl)) (by decide) (fun K hK => ?_)
        refine Kd.R_lit_step (Kd.int .u8) w.heap.size 5 ?hg (N := 21) ?hd (xs := ([] : List Int)) (inner := []) (ok := fun _ => True) (okp := fun _ => True) ?hr ?hp (fun _ hk => hk) trivial (below_drew (Below.refl w.heap.size w)) (Nat.le_refl _) (by simp) ?_; (case hd => rfl); (case hg => rfl); (case hr => first | (go_simp; done) | (go_simp; rfl)); (case hp => exact (Reps.none _ _)); intro v1 w2 ho3 hb hg_ hnew_; clear hg_ hnew_; have HO := Lib.hid ho3; have HB := Lib.hid hb; clear ho3 hb
        refine hK.out _ _ (HS.out _ HB.out) (fun hHeld => ?_); clear hK K; refine norm_ (a' := ?_) ?_ ?_; rotate_left; (show Act.put _ (some 21) _ = _; (simp only [Act.put, List.setIfInBounds_toArray, List.set_cons_zero, List.set_cons_succ, i64_w, i32_w]; rfl))
        refine one_ (i := 9) (N := some 26) #[true, true, true, true, true, true, true, true, true, true, false, false, false] rfl rfl (one_of HT_.out (by kernel_rfl)) (by decide) (fun K hK => ?_)
        refine Kd.R_append_rows_step (Kd.int .u8) (w0 := w) w.heap.size (by rfl) (.tmp 21) (.tmp 25) 22 5 (.int .u8 0) 1 rfl Tryd.underlying22 info5 rfl (by decide) (by omega) v1 ([] : List Int) (l0.drop (i + 1)) _ _ _ (fun _ => True) (fun _ => False) rfl rfl HO.out (Kd.C_below HR2.out HB.out) (fun _ _ h => h) (fun _ h => h.elim) (fun _ _ => trivial) HB.out HB.out.size (by simp; omega) ?_; intro v2 w3 ho4 hb4 hg4 hat4; clear hg4 hat4; have HO4 := Lib.hid ho4; have HB4 := Lib.hid hb4; clear ho4 hb4
        refine hK.out _ _ (HS.out _ HB4.out) (fun hHeld => ?_); clear hK K; refine norm_ (a' := ?_) ?_ ?_; rotate_left; (show Act.put _ (some 26) _ = _; (simp only [Act.put, List.setIfInBounds_toArray, List.set_cons_zero, List.set_cons_succ, i64_w, i32_w]; rfl))
        refine pure_ (i := 10) (N := some 2) (v := ?_) (a' := ?_) #[true, true, true, true, true, true, true, true, true, true, true, false, false] rfl rfl (any_of HT_.out (by kernel_rfl)) (fun _ _ _ h => h) (Or.inl ⟨by rfl, ?_⟩) ?_ ?_; rotate_left; (intro w'; go_simp; with_reducible rfl); rotate_left; (simp only [Act.put, List.setIfInBounds_toArray, List.set_cons_zero, List.set_cons_succ, i64_w, i32_w]; rfl)
        refine pure_ (i := 11) (N := some 3) (v := ?_) (a' := ?_) #[true, true, true, true, true, true, true, true, true, true, true, true, false] rfl rfl (any_of HT_.out (by kernel_rfl)) (fun _ _ _ h => h) (Or.inl ⟨by rfl, ?_⟩) ?_ ?_; rotate_left; (intro w'; go_simp; with_reducible rfl); rotate_left; (simp only [Act.put, List.setIfInBounds_toArray, List.set_cons_zero, List.set_cons_succ, i64_w, i32_w]; rfl)
        refine pure_ (i := 12) (N := some 4) (v := ?_) (a' := ?_) #[true, true, true, true, true, true, true, true, true, true, true, true, true] rfl rfl (any_of HT_.out (by kernel_rfl)) (fun _ _ _ h => h) (Or.inl ⟨by rfl, ?_⟩) ?_ ?_; rotate_left; (intro w'; go_simp; with_reducible rfl); rotate_left; (simp only [Act.put, List.setIfInBounds_toArray, List.set_cons_zero, List.set_cons_succ, i64_w, i32_w]; rfl)
        refine done_ (done_of HT_.out (by kernel_rfl)) ?_
        go_wp2
        go_ret3
        exact ⟨_, rfl, HO4.out, HB4.out⟩
      · have b1 : (rd l0 (i : Int) == 10) = false := beq_eq_false_iff_ne.mpr h10
        have HN := Lib.hid h10
        clear h10
        go_wp2
        go_round
        case rel => exact ⟨i + 1, by go_num, by omega, fun z hz => by
          rw [List.take_add_one, List.getElem?_eq_getElem hlt] at hz
          rcases List.mem_append.1 hz with hz | hz
          · exact HNO.out z hz
          · have : z = l0[i] := by simpa using hz
            rw [this]
            have := HN.out
            simpa [rd, List.getD_eq_getElem?_getD, hlt] using this⟩
        case measure => simp [intOf]; omega
    · obtain rfl : i = l0.length := by omega
      have HC := Lib.hid (cutI_none l0 (by have := HNO.out; rwa [List.take_of_length_le (Nat.le_refl _)] at this))
      have HH : Hid (((⟨#[]⟩ : ByteArray), ([] : List Int), false) = (r1, r2, r3)) := by
        show _ = _
        have := H.out
        rw [HC.out] at this
        simpa using this
      injection HH.out with g1 g2
      injection g2 with g2 g3
      subst g1 g2 g3
      clear HH
      go_wp2
      go_ret3
      exact ⟨_, rfl, Kd.R_nil _ _ _ _ _, Below.refl _ _⟩
end Go.Proofs.YthaimkdnddmokaaDoor.P

/- wire.Answer and jalousieref21.Answer: a response's bytes; condition: a body of at most 2^47 - 128 bytes. -/
import Derived.Test.YthaimkdnddmokaaDoorWireParsesHWBytes
import Derived.Test.YthaimkdnddmokaaDoorWireParsesHWTells
namespace Go.Proofs.YthaimkdnddmokaaDoor.P
open Go.RowKit Go.Proofs.YthaimkdnddmokaaDoorW.PrintWords Go.Proofs.YthaimkdnddmokaaDoorW.PrintLast Go.Proofs.YthaimkdnddmokaaDoorW.PrintMore
set_option linter.unusedVariables false
set_option linter.unusedSimpArgs false
theorem code_small (e : Int) : (baOf (codeL e)).size ≤ 100 := by
  by_cases h : 0 ≤ e ∧ e ≤ 14
  · obtain ⟨n, rfl⟩ := Int.eq_ofNat_of_zero_le h.1
    have : ∀ n : Nat, n < 15 → (baOf (codeL (n : Int))).size ≤ 100 := by decide +kernel
    exact this n (by omega)
  · unfold codeL; rw [if_neg h]; decide
theorem answer_split (e : Int) (l : List Int) : answerW e l = bytesOf (baOf (codeL e) ++ ⟨#[10]⟩) ++ l := by
  unfold answerW bytesOf
  simp [ByteArray.data_append]
theorem answer_len (e : Int) (l : List Int) : (answerW e l).length = (baOf (codeL e)).size + 1 + l.length := by
  rw [answer_split, List.length_append, bytesOf_length, ByteArray.size_append]
  rfl
def wire_Answer.f (a0_0 : Int) (l0_1 : List Int) : Option (List Int) := if l0_1.length ≤ 140737488355200 then some (answerW a0_0 l0_1) else none
def answer1.T : Bool × List (List Nat × List Nat) := (true, [([], []), ([0], [0]), ([1], [1]), ([2], [2]), ([3], [3]), ([], []), ([5], [5]), ([4, 6, 2], [4, 6]), ([7, 7, 0, 1, 2, 3, 4, 5, 6, 7], [7])])
def answer1.B : List Nat := [0, 1, 3, 7, 15, 0, 32, 127, 255]
theorem answer1.tab : rtab .any (opsOf Tryd.f12 1) = answer1.T := by kernel_rfl
theorem answer1.bits : waitsOk answer1.T.2 answer1.B = true := by kernel_rfl
def answerR1.T : Bool × List (List Nat × List Nat) := (true, [([], []), ([0], [0]), ([1], [1]), ([2], [2]), ([3], [3]), ([], []), ([5], [5]), ([4, 6, 2], [4, 6]), ([7, 7, 0, 1, 2, 3, 4, 5, 6, 7], [7])])
def answerR1.B : List Nat := [0, 1, 3, 7, 15, 0, 32, 127, 255]
theorem answerR1.tab : rtab .any (opsOf Tryd.f15 1) = answerR1.T := by kernel_rfl
theorem answerR1.bits : waitsOk answerR1.T.2 answerR1.B = true := by kernel_rfl
set_option maxHeartbeats 2000000 in
set_option maxRecDepth 100000 in
theorem wire_Answer.calls (a0_0 : Int) (A0_1 : Option Addr) (c0_1 : Nat) (l0_1 : List Int) (r : List Int) (w : World) (hr0_1 : Kd.C (Kd.int .u8) w A0_1 l0_1.length l0_1) (hc0_1 : l0_1.length ≤ c0_1) (hT : Tabs w) (h : wire_Answer.f a0_0 l0_1 = some r) :
    Calls Tryd.prog 12 #[.agg #[.int .i64 a0_0, .slice A0_1 l0_1.length c0_1]] w fun e w' => ∃ A c, e = .returned (.slice A r.length c) ∧ Kd.C (Kd.int .u8) w' A r.length r ∧ r.length ≤ c ∧ Below w.heap.size w w' := by
  unfold wire_Answer.f at h
  split at h
  case isFalse => cases h
  rename_i hs
  obtain rfl := Option.some.inj h
  clear h
  have HT := Lib.hid hT
  have HC := Lib.hid (wire_Code_tells a0_0)
  have hsz := code_small a0_0
  have HANS := Lib.hid (answer_split a0_0 l0_1)
  have hrl := answer_len a0_0 l0_1
  generalize baOf (codeL a0_0) = S at HC hsz HANS hrl
  obtain ⟨T, hT_⟩ : ∃ T, S ++ (⟨#[10]⟩ : ByteArray) = T := ⟨_, rfl⟩
  have hTs : T.size = S.size + 1 := by rw [← hT_, ByteArray.size_append]; rfl
  rw [hT_] at HANS
  have hbig : (9223372036854775807 < S.size + 1) = False := eq_false (by omega)
  have kb := fun W => print_bytes (P := Tryd.prog) 9 22 5 Tryd.underlying9 Tryd.underlying22 Tryd.underlying5 T W
  generalize answerW a0_0 l0_1 = R at HANS hrl ⊢
  have HKB := Lib.hid kb
  have HTS := Lib.hid hTs
  have HRL := Lib.hid hrl
  clear hTs hrl
  have HR0 := Lib.hid hr0_1
  have HCT := Lib.hid hT_
  clear hT_ kb hr0_1
  have KA := Lib.hid (blk_new w (.cells #[.int .i64 a0_0, .slice A0_1 l0_1.length c0_1] 36))
  have HB0 := Lib.hid (below_alloc (Below.refl w.heap.size w) (.cells #[.int .i64 a0_0, .slice A0_1 l0_1.length c0_1] 36))
  go_enter Tryd.func12, Tryd.ntmps12
  go_wp2
  obtain ⟨gA, hgA⟩ : ∃ g, w.heap.size = g := ⟨_, rfl⟩
  simp only [hgA] at KA ⊢
  generalize w.alloc (.cells #[.int .i64 a0_0, .slice A0_1 l0_1.length c0_1] 36) = W0 at KA HB0 ⊢
  have HgA := Lib.hid hgA
  clear hgA
  have hS : ∀ W : World, W.heap[gA]? = some (.cells #[.int .i64 a0_0, .slice A0_1 l0_1.length c0_1] 36 (0, 0)) → W.cell? ⟨gA, 0, none⟩ = some (.int .i64 a0_0) ∧ W.cell? ⟨gA, 1, none⟩ = some (.slice A0_1 l0_1.length c0_1) := fun W k => ⟨(blk_cell k 0).trans rfl, (blk_cell k 1).trans rfl⟩
  have HS := Lib.hid hS
  clear hS
  obtain ⟨i0, hi0, hz0, hsz0, hb0⟩ := info_parts info5
  refine start_ (n := 9) (S := fun w' => w'.cell? ⟨gA, 0, none⟩ = some (.int .i64 a0_0) ∧ w'.cell? ⟨gA, 1, none⟩ = some (.slice A0_1 l0_1.length c0_1)) (ds := []) #[false, false, false, false, false, false, false, false, false] (by kernel_rfl) rfl rfl (HS.out _ (blk_drew KA.out)) (fun hHeld => ?_); refine with_tabW answer1.tab answer1.bits (fun HT_ HW_ => ?_)
  refine pure_ (i := 0) (N := some 3) (v := ?_) (a' := ?_) #[true, false, false, false, false, false, false, false, false] rfl rfl (any_of HT_.out (by kernel_rfl)) (fun _ _ _ h => h) (Or.inl ⟨by rfl, ?_⟩) ?_ ?_; rotate_left; (intro w'; go_simp; with_reducible rfl); rotate_left; (simp only [Act.put, List.setIfInBounds_toArray, List.set_cons_zero, List.set_cons_succ, i64_w, i32_w]; rfl)
  refine pure_ (i := 5) (N := some 8) (v := ?_) (a' := ?_) #[true, false, false, false, false, true, false, false, false] rfl rfl (any_of HT_.out (by kernel_rfl)) (fun _ _ _ h => h) (Or.inl ⟨by rfl, ?_⟩) ?_ ?_; rotate_left; (intro w'; go_simp; with_reducible rfl); rotate_left; (simp only [Act.put, List.setIfInBounds_toArray, List.set_cons_zero, List.set_cons_succ, i64_w, i32_w]; rfl)
  refine take_ (i := 1) (N := some 4) (v := ?_) (a' := ?_) #[true, true, false, false, false, true, false, false, false] rfl rfl (take_ofW HT_.out HW_.out (by kernel_rfl)) (fun _ _ _ h => h) (Or.inl ⟨by rfl, ?_⟩) hHeld ?_ ?_; rotate_left; (intro w' s0; obtain ⟨s1, s2⟩ := s0; go_simp; with_reducible rfl); rotate_left; (simp only [Act.put, List.setIfInBounds_toArray, List.set_cons_zero, List.set_cons_succ, i64_w, i32_w]; rfl)
  refine take_ (i := 6) (N := some 9) (v := ?_) (a' := ?_) #[true, true, false, false, false, true, true, false, false] rfl rfl (take_ofW HT_.out HW_.out (by kernel_rfl)) (fun _ _ _ h => h) (Or.inl ⟨by rfl, ?_⟩) hHeld ?_ ?_; rotate_left; (intro w' s0; obtain ⟨s1, s2⟩ := s0; go_simp; with_reducible rfl); rotate_left; (simp only [Act.put, List.setIfInBounds_toArray, List.set_cons_zero, List.set_cons_succ, i64_w, i32_w]; rfl)
  refine one_ (i := 2) (N := some 5) #[true, true, true, false, false, true, true, false, false] rfl rfl (one_of HT_.out (by kernel_rfl)) (by decide) (fun K hK => ?_)
  refine goes_ Tryd.func16 (by kernel_rfl) rfl #[.int .i64 a0_0] (by rfl) rfl rfl (by (try simp only [List.map_toArray, List.map_cons, List.map_nil]); first | done | rfl) ?_
  (with_reducible refine (wire_Code.calls a0_0 S _ (HT.out.below (below_drew HB0.out)) HC.out).mono ?_)
  rintro e w2 ⟨rfl, hb⟩
  refine ⟨_, rfl, ?_⟩
  have KA2 := Lib.hid (blk_below (blk_drew KA.out) hb)
  have HB2 := Lib.hid (below_step (below_drew HB0.out) hb)
  clear hb
  refine hK.out _ _ (HS.out _ KA2.out) (fun hHeld => ?_); clear hK K; refine norm_ (a' := ?_) ?_ ?_; rotate_left; (show Act.put _ (some 5) _ = _; (simp only [Act.put, List.setIfInBounds_toArray, List.set_cons_zero, List.set_cons_succ, i64_w, i32_w]; rfl))
  refine pure_ (i := 3) (N := some 6) (v := ?_) (a' := ?_) #[true, true, true, true, false, true, true, false, false] rfl rfl (any_of HT_.out (by kernel_rfl)) (fun _ _ _ h => h) (Or.inl ⟨by rfl, ?_⟩) ?_ ?_; rotate_left; (intro w'; go_simp; with_reducible rfl); rotate_left; (simp only [Act.put, List.setIfInBounds_toArray, List.set_cons_zero, List.set_cons_succ, i64_w, i32_w]; rfl)
  refine one_ (i := 4) (N := some 7) #[true, true, true, true, true, true, true, false, false] rfl rfl (one_of HT_.out (by kernel_rfl)) (by decide) (fun K hK => ?_)
  rw [HCT.out]
  refine event_step (by rfl) (conv_run rfl rfl (HKB.out w2)) ?_
  have hcv := Lib.bytesWorld_at_new w2 5 T
  have HBW := Lib.hid hcv
  have HB3 := Lib.hid (bytes_below HB2.out (Nat.le_trans (by rw [HgA.out]; exact Nat.le_of_lt (blk_lt KA2.out)) (Nat.le_refl _)) 5 T)
  have KA3 := Lib.hid (show (Lib.bytesWorld w2 5 T).heap[gA]? = some (.cells #[.int .i64 a0_0, .slice A0_1 l0_1.length c0_1] 36 (0, 0)) from (Lib.bytesWorld_at_old w2 5 T gA (blk_lt KA2.out)).trans KA2.out)
  have hw2 := Lib.hid (show w.heap.size ≤ w2.heap.size by rw [HgA.out]; exact Nat.le_of_lt (blk_lt KA2.out))
  clear hcv
  generalize Lib.bytesWorld w2 5 T = w3 at HBW HB3 KA3 ⊢
  refine hK.out _ _ (HS.out _ KA3.out) (fun hHeld => ?_); clear hK K; refine norm_ (a' := ?_) ?_ ?_; rotate_left; (show Act.put _ (some 7) _ = _; (simp only [Act.put, List.setIfInBounds_toArray, List.set_cons_zero, List.set_cons_succ, i64_w, i32_w]; rfl))
  refine one_ (i := 7) (N := some 10) #[true, true, true, true, true, true, true, true, false] rfl rfl (one_of HT_.out (by kernel_rfl)) (by decide) (fun K hK => ?_)
  obtain ⟨A', c', w', hrun, hC, hc, hb⟩ := bytes_append (t := 22) (ty := 22) (c := c0_1) Tryd.underlying22 hi0 hz0 hsz0 hb0 HBW.out (Kd.C_below HR0.out HB3.out) (by have := HTS.out; omega)
  refine event_step (by rfl) (append_run rfl rfl rfl rfl hrun) ?_
  have KA4 := Lib.hid (show w'.heap[gA]? = some (.cells #[.int .i64 a0_0, .slice A0_1 l0_1.length c0_1] 36 (0, 0)) from (hb.block gA (blk_lt KA2.out)).trans KA3.out)
  have HB4 := Lib.hid (HB3.out.trans (hb.mono hw2.out))
  have HC4 := Lib.hid hC
  have hc4 := Lib.hid hc
  clear hrun hC hc hb
  refine hK.out _ _ (HS.out _ KA4.out) (fun hHeld => ?_); clear hK K; refine norm_ (a' := ?_) ?_ ?_; rotate_left; (show Act.put _ (some 10) _ = _; (simp only [Act.put, List.setIfInBounds_toArray, List.set_cons_zero, List.set_cons_succ, i64_w, i32_w]; rfl))
  refine pure_ (i := 8) (N := some 2) (v := ?_) (a' := ?_) #[true, true, true, true, true, true, true, true, true] rfl rfl (any_of HT_.out (by kernel_rfl)) (fun _ _ _ h => h) (Or.inl ⟨by rfl, ?_⟩) ?_ ?_; rotate_left; (intro w'; go_simp; with_reducible rfl); rotate_left; (simp only [Act.put, List.setIfInBounds_toArray, List.set_cons_zero, List.set_cons_succ, i64_w, i32_w]; rfl)
  refine done_ (done_of HT_.out (by kernel_rfl)) ?_
  go_wp2
  go_ret
  have e1 : R.length = T.size + l0_1.length := by rw [HRL.out, HTS.out]
  exact ⟨A', c', by rw [e1]; rfl, by rw [e1, HANS.out]; exact HC4.out, by rw [e1]; exact hc4.out, HB4.out⟩
end Go.Proofs.YthaimkdnddmokaaDoor.P

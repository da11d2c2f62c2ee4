/- wire.Read's walk: the response of bytes; and what bytes.Cut leaves -/
import Derived.Test.YthaimkdnddmokaaDoorWireParsesHWBytes
import Derived.Test.YthaimkdnddmokaaDoorWireParsesHWTells
import Derived.Test.YthaimkdnddmokaaDoorWireParsesHWClone
import Derived.Test.YthaimkdnddmokaaDoorWireParsesGPxSlices
import Derived.Test.YthaimkdnddmokaaDoorWireParsesHWRefCut
import Derived.Lib.SlBytesConst
import Derived.Test.YthaimkdnddmokaaDoorWireParsesPxWire
namespace Go.Proofs.YthaimkdnddmokaaDoor.P
open Go.RowKit Go.Proofs.YthaimkdnddmokaaDoorW.PrintWords Go.Proofs.YthaimkdnddmokaaDoorW.PrintLast Go.Proofs.YthaimkdnddmokaaDoorW.PrintMore
set_option linter.unusedVariables false
set_option linter.unusedSimpArgs false
theorem addr_add (a : Addr) (m i : Nat) : (a.add m).add i = a.add (m + i) := by
  unfold Addr.add
  by_cases hi : i = 0
  · subst hi; simp
  · by_cases hm : m = 0
    · subst hm; simp [hi]
    · simp [hi, hm, Nat.add_assoc]
theorem fromV_C {w : World} {A : Option Addr} {c k : Nat} {l : List Int} (h : Kd.C (Kd.int .u8) w A l.length l) (hc : l.length ≤ c) (hk : k ≤ l.length) : ∃ A2, Lib.fromV A l.length c k = .slice A2 (l.drop k).length (c - k) ∧ Kd.C (Kd.int .u8) w A2 (l.drop k).length (l.drop k) ∧ (l.drop k).length ≤ c - k := by
  have hl : (l.drop k).length = l.length - k := List.length_drop
  refine ⟨if c = k then A else A.map (fun x => x.add k), by unfold Lib.fromV; rw [hl], ?_, by omega⟩
  obtain ⟨h1, h2, h3⟩ := Kd.reads_of_C (enc := Value.int .u8) (d := (0 : Int)) (h1 := fun _ => rfl) h
  refine Kd.C_of_reads (d := (0 : Int)) (h1 := fun _ => rfl) ⟨rfl, by omega, fun hn => ?_⟩
  obtain ⟨ad, rfl, hcell⟩ := h3 (by omega)
  refine ⟨ad.add k, by rw [if_neg (by omega)]; rfl, fun i hi => ?_⟩
  rw [addr_add, hcell (k + i) (by omega)]
  simp [List.getD_eq_getElem?_getD, List.getElem?_drop]
theorem take_C {w : World} {A : Option Addr} {k : Nat} {l : List Int} (h : Kd.C (Kd.int .u8) w A l.length l) (hk : k ≤ l.length) : Kd.C (Kd.int .u8) w A (l.take k).length (l.take k) := by
  exact Kd.C_take h hk
theorem index_l (l : List (List UInt8)) (hl : l.length ≤ 1000) (x : ByteArray) (d : Nat) : ∀ (i k : Nat), i + d = l.length → d < k → slices_Index_string_string.l0 k (l.map baOf) x (l.length : Int) (i : Int) = some (if indexL x.data.toList (l.drop i) = -1 then -1 else (i : Int) + indexL x.data.toList (l.drop i)) := by
  induction d with
  | zero =>
    intro i k hi hk
    cases k with
    | zero => omega
    | succ k =>
      have e : l.drop i = [] := List.drop_eq_nil_of_le (by omega)
      simp only [slices_Index_string_string.l0]
      rw [if_neg (by omega), e]
      rfl
  | succ d ih =>
    intro i k hi hk
    cases k with
    | zero => omega
    | succ k =>
      have hlt : i < l.length := by omega
      have hr : rdOf ByteArray.empty (l.map baOf) (i : Int) = baOf l[i] := by simp [rdOf, List.getD_eq_getElem?_getD, hlt]
      simp only [slices_Index_string_string.l0]
      rw [if_pos (by omega), if_pos (by omega), if_pos (by rw [List.length_map]; omega), hr, List.drop_eq_getElem_cons hlt]
      have hw : wrap64 ((i : Int) + 1) = ((i + 1 : Nat) : Int) := by rw [w64 _ (by omega) (by omega)]; omega
      have hge := indexL_ge x.data.toList (l.drop (i + 1))
      by_cases e : l[i] = x.data.toList
      · rw [if_pos (by rw [toList_data, toList_data, baOf_data, e]), indexL, if_pos e]
        simp
      · rw [if_neg (by rw [toList_data, toList_data, baOf_data]; exact fun h => e h.symm), hw, ih (i + 1) k (by omega) (by omega), indexL, if_neg e]
        by_cases h2 : indexL x.data.toList (l.drop (i + 1)) = -1
        · rw [if_pos h2, if_pos h2, if_pos rfl]
        · rw [if_neg h2, if_neg h2, if_neg (by omega)]
          congr 1
          omega
theorem index_tells (l : List (List UInt8)) (hl : l.length ≤ 1000) (x : ByteArray) : slices_Index_string_string.f (l.length + 1) (l.map baOf) x = some (indexL x.data.toList l) := by
  have := index_l l hl x l.length 0 (l.length + 1) (by omega) (by omega)
  unfold slices_Index_string_string.f
  rw [List.length_map]
  rw [List.drop_zero] at this
  refine Eq.trans this ?_
  congr 1
  split
  · rename_i h; exact h.symm
  · simp
theorem R_set {α : Type} {d : Kd α} {e base g : Nat} {w : World} {v : Value} {xs : List α} (h : d.R e w base (fun _ => True) v xs) (hg : g < base) (i : Nat) (u : Value) : d.R e (w.setCell ⟨g, i, none⟩ u) base (fun _ => True) v xs :=
  Kd.R_mono (Kd.R_far (Kd.R_bound h) (fun k hk => by have := hk.2.1; show k ≠ g; omega) u) (fun _ _ => trivial)
def read2.T : Bool × List (List Nat × List Nat) := (true, [([], []), ([], []), ([1], [1]), ([0, 2, 0], [0, 2]), ([3, 3, 0, 1, 2, 3], [3])])
def read2.B : List Nat := [0, 0, 2, 7, 15]
theorem read2.tab : rtab .any (opsOf Tryd.f13 2) = read2.T := by kernel_rfl
theorem read2.bits : waitsOk read2.T.2 read2.B = true := by kernel_rfl
def readEnd (more : Bool) (code : Int) (body : List Int) : Int × List Int × Int := if more = true ∧ ¬ code < 0 then (code, body, 0) else (0, [], 3)
set_option maxHeartbeats 4000000 in
set_option maxRecDepth 100000 in
theorem Read.walk (A0 : Option Addr) (n0 c0 : Nat) (A2 : Option Addr) (c2 : Nat) (sv body : List Int) (more : Bool) (code r1 r3 : Int) (r2 : List Int) (kx : Nat) (w : World) (hT : Tabs w)
    (hcut : ∀ W, Below w.heap.size w W → W.cell? ⟨w.heap.size + 1, 0, none⟩ = some (.int .u8 10) → Calls Tryd.prog 24 #[.slice A0 n0 c0, .slice (some ⟨w.heap.size + 1, 0, none⟩) 1 1] W fun e w' => e = .returned (.tuple #[.slice A0 sv.length c0, .slice A2 body.length c2, .bool more]) ∧ ∃ q, w' = W.drewN q)
    (hs : Kd.C (Kd.int .u8) w A0 sv.length sv) (hb : Kd.C (Kd.int .u8) w A2 body.length body) (hc2 : body.length ≤ c2) (hbl : body.length ≤ 140737488355328) (hix : slices_Index_string_string.f kx (codeT.map baOf) (strOfNums sv) = some code) (hr : readEnd more code body = (r1, r2, r3)) :
    Calls Tryd.prog 13 #[.slice A0 n0 c0] w fun e w' => ∃ v1_ : Value, e = .returned (.tuple #[.agg #[.int .i64 r1, v1_], .int .i64 r3]) ∧ Kd.R (Kd.int .u8) 5 w' w.heap.size (fun _ => True) v1_ r2 ∧ Below w.heap.size w w' := by
  have HT := Lib.hid hT
  have HCUT := Lib.hid hcut
  have HS := Lib.hid hs
  have HBD := Lib.hid hb
  have HIX := Lib.hid hix
  have HCL := Lib.hid (show slices_Clone_byte_byte.f body = some body by unfold slices_Clone_byte_byte.f; rw [if_pos hbl])
  have HRE := Lib.hid hr
  clear hT hcut hs hb hix hr
  have HA := Lib.hid (blk_alloc (blk_new w (.cells #[.int .i64 0, .slice none 0 0] 36)) (.cells #[.int .u8 10] 5 (1, 2)))
  have HB0 := Lib.hid (below_alloc (below_alloc (Below.refl w.heap.size w) (.cells #[.int .i64 0, .slice none 0 0] 36)) (.cells #[.int .u8 10] 5 (1, 2)))
  have hconv : (convert 22 22 (.slice (some ⟨w.heap.size + 1, 0, none⟩) 1 1)).run Tryd.prog ((w.alloc (.cells #[.int .i64 0, .slice none 0 0] 36)).alloc (.cells #[.int .u8 10] 5)) = .ok (.slice (some ⟨w.heap.size + 1, 0, none⟩) 1 1) ((w.alloc (.cells #[.int .i64 0, .slice none 0 0] 36)).alloc (.cells #[.int .u8 10] 5 (1, 2))) := by
    have hz : (w.alloc (.cells #[.int .i64 0, .slice none 0 0] 36)).heap.size = w.heap.size + 1 := by simp
    have := Lib.run_convert_bytes_const (P := Tryd.prog) (w.alloc (.cells #[.int .i64 0, .slice none 0 0] 36)) 22 5 #[.int .u8 10] 1 1 Tryd.underlying22 Tryd.underlying5
    rw [hz] at this
    exact this
  have hten : ((w.alloc (.cells #[.int .i64 0, .slice none 0 0] 36)).alloc (.cells #[.int .u8 10] 5 (1, 2))).cell? ⟨w.heap.size + 1, 0, none⟩ = some (.int .u8 10) := by
    have hz : (w.alloc (.cells #[.int .i64 0, .slice none 0 0] 36)).heap.size = w.heap.size + 1 := by simp
    have hb := blk_new (w.alloc (.cells #[.int .i64 0, .slice none 0 0] 36)) (.cells #[.int .u8 10] 5 (1, 2))
    rw [hz] at hb
    unfold World.cell?
    rw [hb]
    rfl
  have HTEN := Lib.hid hten
  clear hten
  go_enter Tryd.func13, Tryd.ntmps13
  go_wp2_with (go_at_call 24; (refine (HCUT.out _ HB0.out HTEN.out).mono ?_); rintro e w' ⟨rfl, ⟨q, rfl⟩⟩)
  have KA := Lib.hid (blk_drewN HA.out q)
  have HB1 := Lib.hid (pw_below_drewN HB0.out q)
  obtain ⟨gR, hgR⟩ : ∃ g, w.heap.size = g := ⟨_, rfl⟩
  generalize ((w.alloc (.cells #[.int .i64 0, .slice none 0 0] 36)).alloc (.cells #[.int .u8 10] 5 (1, 2))).drewN q = W1 at KA HB1 ⊢
  simp only [hgR] at KA ⊢
  have HgR := Lib.hid hgR
  clear hgR HA HB0 HCUT
  have hS : ∀ W, Below w.heap.size w W → (convert 22 9 (.slice A0 sv.length c0)).run Tryd.prog W = .ok (.string (strOfNums sv)) W := fun W hb => Kd.C_string (P := Tryd.prog) (A := A0) (c := c0) Tryd.underlying22 Tryd.underlying5 Tryd.underlying9 (Kd.C_below HS.out hb)
  have HCV := Lib.hid hS
  clear hS
  go_wp2_with fail
  refine start_ (n := 5) (S := fun w' => (convert 22 9 (.slice A0 sv.length c0)).run Tryd.prog w' = .ok (.string (strOfNums sv)) w') (ds := []) #[false, false, false, false, false] (by kernel_rfl) rfl rfl (HCV.out _ (below_drew HB1.out)) (fun hHeld => ?_); refine with_tabW read2.tab read2.bits (fun HT_ HW_ => ?_)
  refine pure_ (i := 1) (N := some 17) (v := ?_) (a' := ?_) #[false, true, false, false, false] rfl rfl (any_of HT_.out (by kernel_rfl)) (fun _ _ _ h => h) (Or.inl ⟨by rfl, ?_⟩) ?_ ?_; rotate_left; (intro w'; go_simp; with_reducible rfl); rotate_left; (simp only [Act.put, List.setIfInBounds_toArray, List.set_cons_zero, List.set_cons_succ, i64_w, i32_w]; rfl)
  refine take_ (i := 2) (N := some 18) (v := ?_) (a' := ?_) #[false, true, true, false, false] rfl rfl (take_ofW HT_.out HW_.out (by kernel_rfl)) (fun _ _ _ h => h) (Or.inl ⟨by rfl, ?_⟩) hHeld ?_ ?_; rotate_left; (intro w' s0; skip; go_simp; with_reducible rfl); rotate_left; (simp only [Act.put, List.setIfInBounds_toArray, List.set_cons_zero, List.set_cons_succ, i64_w, i32_w]; rfl)
  refine one_ (i := 0) (N := some 16) #[true, true, true, false, false] rfl rfl (one_of HT_.out (by kernel_rfl)) (by decide) (fun K hK => ?_)
  refine goes_ Tryd.func34 (by kernel_rfl) rfl #[] (by rfl) rfl rfl (by (try simp only [List.map_toArray, List.map_cons, List.map_nil]); first | done | rfl) ?_
  (with_reducible refine (wire_codes.calls _ _ (HT.out.below (below_drew HB1.out)) codes_is).mono ?_)
  rintro e w2 ⟨v2, rfl, hr, hb⟩
  obtain ⟨A3, c3, rfl, hc3, hC3⟩ := Kd.R_reads hr
  refine ⟨_, rfl, ?_⟩
  have KA2 := Lib.hid (blk_below (blk_drew KA.out) hb)
  have HB2 := Lib.hid (below_step (below_drew HB1.out) hb)
  have HC3 := Lib.hid hC3
  clear hb hr hC3
  refine hK.out _ _ (HCV.out _ HB2.out) (fun hHeld => ?_); clear hK K; refine norm_ (a' := ?_) ?_ ?_; rotate_left; (show Act.put _ (some 16) _ = _; (simp only [Act.put, List.setIfInBounds_toArray, List.set_cons_zero, List.set_cons_succ, i64_w, i32_w]; rfl))
  refine one_ (i := 3) (N := some 19) #[true, true, true, true, false] rfl rfl (one_of HT_.out (by kernel_rfl)) (by decide) (fun K hK => ?_)
  refine goes_ Tryd.func33 (by kernel_rfl) rfl #[.slice A3 (codeT.map baOf).length c3, .string (strOfNums sv)] (by rfl) rfl rfl (by (try simp only [List.map_toArray, List.map_cons, List.map_nil]); first | done | rfl) ?_
  (with_reducible refine (slices_Index_string_string.calls kx A3 c3 (codeT.map baOf) (strOfNums sv) code _ HC3.out hc3 HIX.out).mono ?_)
  rintro e w3 ⟨rfl, ⟨q3, rfl⟩⟩
  refine ⟨_, rfl, ?_⟩
  have KA3 := Lib.hid (blk_drewN KA2.out q3)
  have HB3 := Lib.hid (pw_below_drewN HB2.out q3)
  refine hK.out _ _ (HCV.out _ HB3.out) (fun hHeld => ?_); clear hK K; refine norm_ (a' := ?_) ?_ ?_; rotate_left; (show Act.put _ (some 19) _ = _; (simp only [Act.put, List.setIfInBounds_toArray, List.set_cons_zero, List.set_cons_succ, i64_w, i32_w]; rfl))
  refine pure_ (i := 4) (N := some 7) (v := ?_) (a' := ?_) #[true, true, true, true, true] rfl rfl (any_of HT_.out (by kernel_rfl)) (fun _ _ _ h => h) (Or.inl ⟨by rfl, ?_⟩) ?_ ?_; rotate_left; (intro w'; go_simp; with_reducible rfl); rotate_left; (simp only [Act.put, List.setIfInBounds_toArray, List.set_cons_zero, List.set_cons_succ, i64_w, i32_w]; rfl)
  refine done_ (done_of HT_.out (by kernel_rfl)) ?_
  generalize w2.drewN q3 = w4 at KA3 HB3 ⊢
  clear KA KA2 HB1 HB2 HC3 hc3
  have k0 : w4.cell? ⟨gR, 0, none⟩ = some (.int .i64 0) := (blk_cell KA3.out 0).trans rfl
  have k1 : w4.cell? ⟨gR, 1, none⟩ = some (.slice none 0 0) := (blk_cell KA3.out 1).trans rfl
  have f0 := blk_frozen KA3.out 0
  have f1 := blk_frozen KA3.out 1
  have hlt := blk_lt KA3.out
  by_cases hc0 : code < 0
  · have d0 : decide (code < 0) = true := decide_eq_true hc0
    have hE := HRE.out
    unfold readEnd at hE
    rw [if_neg (fun h => h.2 hc0)] at hE
    injection hE with g1 g2
    injection g2 with g2 g3
    subst g1 g2 g3
    cases more
    all_goals
      go_wp2
      refine bodyPost_ret (results_ct rfl _ _ gR 36 #[.int .i64 0, .slice none 0 0] (0, 0) _ rfl (by repeat (first | exact KA3.out | refine blk_put (cs := #[.int .i64 0, .slice none 0 0]) ?_ 1 _ rfl | refine blk_put (cs := #[.int .i64 0, .slice none 0 0]) ?_ 0 _ rfl)) Tryd.underlying36 rfl (by kernel_rfl)) rfl ?_
      exact ⟨_, rfl, Kd.R_nil _ _ _ _ _, by repeat (first | exact HB3.out | apply below_alloc | refine below_set ?_ (by rw [HgR.out]; exact Nat.le_refl _))⟩
  · have d0 : decide (code < 0) = false := decide_eq_false hc0
    have hE := HRE.out
    unfold readEnd at hE
    cases more with
    | false =>
      rw [if_neg (fun h => by cases h.1)] at hE
      injection hE with g1 g2
      injection g2 with g2 g3
      subst g1 g2 g3
      go_wp2
      refine bodyPost_ret (results_ct rfl _ _ gR 36 #[.int .i64 0, .slice none 0 0] (0, 0) _ rfl (by repeat (first | exact KA3.out | refine blk_put (cs := #[.int .i64 0, .slice none 0 0]) ?_ 1 _ rfl | refine blk_put (cs := #[.int .i64 0, .slice none 0 0]) ?_ 0 _ rfl)) Tryd.underlying36 rfl (by kernel_rfl)) rfl ?_
      exact ⟨_, rfl, Kd.R_nil _ _ _ _ _, by repeat (first | exact HB3.out | apply below_alloc | refine below_set ?_ (by rw [HgR.out]; exact Nat.le_refl _))⟩
    | true =>
      rw [if_pos ⟨rfl, hc0⟩] at hE
      injection hE with g1 g2
      injection g2 with g2 g3
      subst g1 g2 g3
      go_wp2_with (go_at_call 27; (with_reducible refine (slices_Clone_byte_byte.calls A2 c2 body body w4 (Kd.C_below HBD.out HB3.out) hc2 HCL.out).mono ?_); rintro e w5 ⟨v5, rfl, hr, hb⟩; obtain ⟨A5, c5, rfl, hc5, hC5⟩ := Kd.R_reads hr; have HR5 := Lib.hid hr; have KA5 := Lib.hid (blk_below KA3.out hb); have HB5 := Lib.hid (below_step HB3.out hb); have k0_ : w5.cell? ⟨gR, 0, none⟩ = some (.int .i64 0) := (blk_cell KA5.out 0).trans rfl; have k1_ : w5.cell? ⟨gR, 1, none⟩ = some (.slice none 0 0) := (blk_cell KA5.out 1).trans rfl; have f0_ := blk_frozen KA5.out 0; have f1_ := blk_frozen KA5.out 1; have hlt_ := blk_lt KA5.out; clear hr hb hC5)
      refine bodyPost_ret (results_ct rfl _ _ gR 36 #[.int .i64 code, .slice A5 body.length c5] (0, 0) _ rfl (by repeat (first | exact KA5.out | refine blk_put (cs := #[.int .i64 code, .slice none 0 0]) ?_ 1 _ rfl | refine blk_put (cs := #[.int .i64 0, .slice none 0 0]) ?_ 0 _ rfl)) Tryd.underlying36 rfl (by kernel_rfl)) rfl ?_
      exact ⟨_, rfl, Kd.R_lower (by repeat (first | exact HR5.out | refine R_set ?_ hlt _ _)) HB3.out.size, by repeat (first | exact HB5.out | apply below_alloc | refine below_set ?_ (by rw [HgR.out]; exact Nat.le_refl _))⟩
end Go.Proofs.YthaimkdnddmokaaDoor.P

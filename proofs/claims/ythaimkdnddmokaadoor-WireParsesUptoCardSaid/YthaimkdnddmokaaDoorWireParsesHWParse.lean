/- wire.Parse's walk: the request of bytes -/
import Derived.Test.YthaimkdnddmokaaDoorWireParsesHWLineFit
import Derived.Test.YthaimkdnddmokaaDoorWireParsesHWReadFit
import Derived.Test.YthaimkdnddmokaaDoorWireParsesHWCheckFit
import Derived.Test.YthaimkdnddmokaaDoorWireParsesPxText
namespace Go.Proofs.YthaimkdnddmokaaDoor.P
open Go.RowKit Go.Proofs.YthaimkdnddmokaaDoorW.PrintWords Go.Proofs.YthaimkdnddmokaaDoorW.PrintLast Go.Proofs.YthaimkdnddmokaaDoorW.PrintMore
set_option linter.unusedVariables false
set_option linter.unusedSimpArgs false
def wparseEnd (more ok : Bool) (v l c : Int) (f : ByteArray) (a b d : Int) (body : List Int) (e : Int) : WAns := if more = true ∧ ok = true then (if e = 0 then (v, l, c, f, a, b, d, body, 0) else noReq e) else noReq 3
set_option maxHeartbeats 4000000 in
set_option maxRecDepth 100000 in
theorem Parse.walk (A0 : Option Addr) (n0 c0 : Nat) (A2 : Option Addr) (c2 : Nat) (sv body : List Int) (more : Bool) (ws : List ByteArray) (v l c : Int) (f : ByteArray) (a b d : Int) (ok : Bool) (err : Int) (r1 r2 r3 : Int) (r4 : ByteArray) (r5 r6 r7 : Int) (r8 : List Int) (r9 : Int) (w : World) (hT : Tabs w)
    (hcut : ∀ (W : World) (g : Nat), Below w.heap.size w W → W.cell? ⟨g, 0, none⟩ = some (.int .u8 10) → Calls Tryd.prog 24 #[.slice A0 n0 c0, .slice (some ⟨g, 0, none⟩) 1 1] W fun e w' => e = .returned (.tuple #[.slice A0 sv.length c0, .slice A2 body.length c2, .bool more]) ∧ ∃ q, w' = W.drewN q)
    (hs : Kd.C (Kd.int .u8) w A0 sv.length sv) (hb : Kd.C (Kd.int .u8) w A2 body.length body) (hc2 : body.length ≤ c2) (hbl : body.length ≤ 140737488355328)
    (hw : text_Words.f (strOfNums sv) = some ws) (hwl : ws.length ≤ 1099511627776) (hws : ∀ s ∈ ws, s.size < 4294967281) (hl : lineF ws = (v, l, c, f, a, b, d, ok)) (hck : wire_Check.f v l c f a b d body = some err) (hr : wparseEnd more ok v l c f a b d body err = (r1, r2, r3, r4, r5, r6, r7, r8, r9)) :
    Calls Tryd.prog 8 #[.slice A0 n0 c0] w fun e w' => ∃ v_ : Value, e = .returned (.tuple #[.agg #[.int .i64 r1, .int .i64 r2, .int .u64 r3, .string r4, .int .i64 r5, .int .i64 r6, .int .i64 r7, v_], .int .i64 r9]) ∧ Kd.R (Kd.int .u8) 5 w' w.heap.size (fun _ => True) v_ r8 ∧ Below w.heap.size w w' := by
  have HT := Lib.hid hT
  have HCUT := Lib.hid hcut
  have HS := Lib.hid hs
  have HBD := Lib.hid hb
  have HW := Lib.hid hw
  have HWS := Lib.hid hws
  have HL := Lib.hid hl
  have HCK := Lib.hid hck
  have HCL := Lib.hid (show slices_Clone_byte_byte.f body = some body by unfold slices_Clone_byte_byte.f; rw [if_pos hbl])
  have HRE := Lib.hid hr
  clear hT hcut hs hb hw hws hl hck hr
  have hz : (w.alloc (.cells zeroReq 28)).heap.size = w.heap.size + 1 := by simp
  have HA := Lib.hid (blk_alloc (blk_new w (.cells zeroReq 28)) (.cells #[.int .u8 10] 5 (1, 2)))
  have HB0 := Lib.hid (below_alloc (below_alloc (Below.refl w.heap.size w) (.cells zeroReq 28)) (.cells #[.int .u8 10] 5 (1, 2)))
  have hconv : (convert 22 22 (.slice (some ⟨w.heap.size + 1, 0, none⟩) 1 1)).run Tryd.prog ((w.alloc (.cells zeroReq 28)).alloc (.cells #[.int .u8 10] 5)) = .ok (.slice (some ⟨w.heap.size + 1, 0, none⟩) 1 1) ((w.alloc (.cells zeroReq 28)).alloc (.cells #[.int .u8 10] 5 (1, 2))) := by
    have := Lib.run_convert_bytes_const (P := Tryd.prog) (w.alloc (.cells zeroReq 28)) 22 5 #[.int .u8 10] 1 1 Tryd.underlying22 Tryd.underlying5
    rw [hz] at this
    exact this
  have hten : ((w.alloc (.cells zeroReq 28)).alloc (.cells #[.int .u8 10] 5 (1, 2))).cell? ⟨w.heap.size + 1, 0, none⟩ = some (.int .u8 10) := by
    have hb := blk_new (w.alloc (.cells zeroReq 28)) (.cells #[.int .u8 10] 5 (1, 2))
    rw [hz] at hb
    unfold World.cell?
    rw [hb]
    rfl
  have HTEN := Lib.hid hten
  clear hten
  obtain ⟨WA, hWA⟩ : ∃ WA, (w.alloc (.cells zeroReq 28)).alloc (.cells #[.int .u8 10] 5 (1, 2)) = WA := ⟨_, rfl⟩
  rw [hWA] at HTEN HA HB0 hconv
  unfold zeroReq at hconv
  clear hz hWA
  go_enter Tryd.func8, Tryd.ntmps8
  have hcv := fun (W : World) (hb : Below w.heap.size w W) => Kd.C_string (P := Tryd.prog) (A := A0) (c := c0) Tryd.underlying22 Tryd.underlying5 Tryd.underlying9 (Kd.C_below HS.out hb)
  have HCV := Lib.hid hcv
  clear hcv
  go_wp2_with (go_at_call 24; (refine (HCUT.out _ _ HB0.out HTEN.out).mono ?_); rintro e w' ⟨rfl, ⟨q, rfl⟩⟩; have hcvq := HCV.out _ (pw_below_drewN HB0.out q))
  have K2 := Lib.hid (blk_drewN HA.out q)
  have HB1 := Lib.hid (pw_below_drewN HB0.out q)
  obtain ⟨g2, hg2⟩ : ∃ g, w.heap.size = g := ⟨_, rfl⟩
  clear hcvq
  generalize WA.drewN q = W1 at K2 HB1 ⊢
  simp only [hg2]
  rw [hg2] at K2
  have HG2 := Lib.hid hg2
  have hwg := Lib.hid (show w.heap.size ≤ g2 by rw [hg2]; exact Nat.le_refl _)
  clear hg2 hconv HCUT HTEN HA HB0
  (with_reducible refine (text_Words.calls (strOfNums sv) ws W1 HW.out).mono ?_)
  rintro e w2 ⟨v2, rfl, hr, hb⟩
  obtain ⟨A3, c3, rfl, hc3, hC3⟩ := Kd.R_reads hr
  have K22 := Lib.hid (blk_below K2.out hb)
  have HB2 := Lib.hid (below_step HB1.out hb)
  have HC3 := Lib.hid hC3
  clear hr hb hC3 K2 HB1
  go_wp2_with fail
  (with_reducible refine (line_tells ws A3 c3 w2 (HT.out.below HB2.out) HC3.out hc3 hwl HWS.out).mono ?_)
  rw [HL.out]
  simp only [reqCells]
  rintro e w3 ⟨rfl, hb⟩
  have K23 := Lib.hid (blk_below K22.out hb)
  have HB3 := Lib.hid (below_step HB2.out hb)
  have hlt3 := blk_lt K23.out
  clear hb K22 HB2
  have K7 := Lib.hid (blk_new w3 (.cells #[.int .i64 v, .int .i64 l, .int .u64 c, .string f, .int .i64 a, .int .i64 b, .int .i64 d, .slice none 0 0] 28))
  have K24 := Lib.hid (blk_alloc K23.out (.cells #[.int .i64 v, .int .i64 l, .int .u64 c, .string f, .int .i64 a, .int .i64 b, .int .i64 d, .slice none 0 0] 28))
  have HB4 := Lib.hid (below_alloc HB3.out (.cells #[.int .i64 v, .int .i64 l, .int .u64 c, .string f, .int .i64 a, .int .i64 b, .int .i64 d, .slice none 0 0] 28))
  go_upto_region 3 with (fail)
  obtain ⟨g7, hg7⟩ : ∃ g, w3.heap.size = g := ⟨_, rfl⟩
  rw [hg7] at K7 hlt3
  simp only [hg7]
  clear hg7
  generalize w3.alloc (.cells #[.int .i64 v, .int .i64 l, .int .u64 c, .string f, .int .i64 a, .int .i64 b, .int .i64 d, .slice none 0 0] 28) = w4 at K7 K24 HB4 ⊢
  clear K23 HB3
  by_cases hbad : more = true ∧ ok = true
  case neg =>
    have hE := HRE.out
    unfold wparseEnd at hE
    rw [if_neg hbad] at hE
    unfold noReq at hE
    simp only [Prod.mk.injEq] at hE
    obtain ⟨rfl, rfl, rfl, rfl, rfl, rfl, rfl, rfl, rfl⟩ := hE
    obtain ⟨z0, z1, z2, z3, z4, z5, z6, z7⟩ := req_cells K24.out
    obtain ⟨f0, f1, f2, f3, f4, f5, f6, f7⟩ := req_frozen K24.out
    cases more <;> cases ok
    case true.true => exact absurd ⟨rfl, rfl⟩ hbad
    all_goals
      clear hbad
      go_wp2
      refine bodyPost_ret (results_ct rfl _ _ g2 28 #[.int .i64 0, .int .i64 0, .int .u64 0, .string ⟨#[]⟩, .int .i64 0, .int .i64 0, .int .i64 0, .slice none 0 0] (0, 0) _ rfl (put8_blk _ _ _ _ _ _ _ _ K24.out) Tryd.underlying28 rfl (by kernel_rfl)) rfl ?_
      exact ⟨.slice none 0 0, rfl, Kd.R_nil _ _ _ _ _, put8_below _ _ _ _ _ _ _ _ HB4.out hwg.out⟩
  case pos =>
    obtain ⟨rfl, rfl⟩ := hbad
    go_wp2_with fail
    (with_reducible refine (slices_Clone_byte_byte.calls A2 c2 body body w4 (Kd.C_below HBD.out HB4.out) hc2 HCL.out).mono ?_)
    rintro e w5 ⟨v5, rfl, hr, hb⟩
    obtain ⟨A5, c5, rfl, hc5, hC5⟩ := Kd.R_reads hr
    have HR5 := Lib.hid (Kd.R_lower hr HB4.out.size)
    have hr5 := Lib.hid hr
    have K75 := Lib.hid (blk_below K7.out hb)
    have K25 := Lib.hid (blk_below K24.out hb)
    have HB5 := Lib.hid (below_step HB4.out hb)
    have hl7 := blk_lt K7.out
    clear hr hb hC5 K7 K24
    have qc : w5.cell? ⟨g7, 7, none⟩ = some (.slice none 0 0) := (blk_cell K75.out 7).trans rfl
    have qf := blk_frozen K75.out 7
    go_upto_region 6 with (fail)
    have K76 := Lib.hid (blk_put K75.out 7 (.slice A5 body.length c5) (cs' := #[.int .i64 v, .int .i64 l, .int .u64 c, .string f, .int .i64 a, .int .i64 b, .int .i64 d, .slice A5 body.length c5]) rfl)
    have K26 := Lib.hid (blk_far K25.out (p := ⟨g7, 7, none⟩) (show g2 ≠ g7 by omega) (.slice A5 body.length c5))
    have HB6 := Lib.hid (below_set (g := g7) (j := 7) (v := .slice A5 body.length c5) HB5.out (by have := hwg.out; omega))
    have HR6 := Lib.hid (R_set hr5.out hl7 7 (.slice A5 body.length c5))
    generalize w5.setCell ⟨g7, 7, none⟩ (.slice A5 body.length c5) = w6 at K76 K26 HB6 HR6 ⊢
    clear K75 K25 HB5 hr5 HR5 qc qf
    obtain ⟨q0, q1, q2, q3, q4, q5, q6, q7⟩ := req_cells K76.out
    go_wp2_with fail
    obtain ⟨A6, c6, e6, hc6, hC6⟩ := Kd.R_reads HR6.out
    injection e6 with e61 e62 e63
    subst e61 e63
    (with_reducible refine (wire_Check.calls v l c f a b d A5 c5 body err w6 hC6 hc6 (HT.out.below HB6.out) HCK.out).mono ?_)
    rintro e w8 ⟨rfl, hb⟩
    have K78 := Lib.hid (blk_below K76.out hb)
    have K28 := Lib.hid (blk_below K26.out hb)
    have HB8 := Lib.hid (below_step HB6.out hb)
    have HR8 := Lib.hid (Kd.R_below HR6.out hb)
    clear hb hC6 K76 K26 q0 q1 q2 q3 q4 q5 q6 q7
    have hgb := Lib.hid (show g2 < w4.heap.size by omega)
    obtain ⟨q0, q1, q2, q3, q4, q5, q6, q7⟩ := req_cells K78.out
    obtain ⟨z0, z1, z2, z3, z4, z5, z6, z7⟩ := req_cells K28.out
    obtain ⟨f0, f1, f2, f3, f4, f5, f6, f7⟩ := req_frozen K28.out
    have hne : g7 ≠ g2 := by omega
    by_cases he : err = 0
    · subst he
      have hE := HRE.out
      unfold wparseEnd at hE
      rw [if_pos ⟨rfl, rfl⟩, if_pos rfl] at hE
      simp only [Prod.mk.injEq] at hE
      obtain ⟨rfl, rfl, rfl, rfl, rfl, rfl, rfl, rfl, rfl⟩ := hE
      go_wp2
      refine bodyPost_ret (results_ct rfl _ _ g2 28 #[.int .i64 v, .int .i64 l, .int .u64 c, .string f, .int .i64 a, .int .i64 b, .int .i64 d, .slice A5 body.length c5] (0, 0) _ rfl (put8_blk _ _ _ _ _ _ _ _ K28.out) Tryd.underlying28 rfl (by kernel_rfl)) rfl ?_
      exact ⟨.slice A5 body.length c5, rfl, Kd.R_lower (R_set (R_set (R_set (R_set (R_set (R_set (R_set (R_set HR8.out hgb.out _ _) hgb.out _ _) hgb.out _ _) hgb.out _ _) hgb.out _ _) hgb.out _ _) hgb.out _ _) hgb.out _ _) HB4.out.size, put8_below _ _ _ _ _ _ _ _ HB8.out hwg.out⟩
    · have b1 : (err != 0) = true := bne_iff_ne.2 he
      have b2 : (err == 0) = false := beq_eq_false_iff_ne.2 he
      have hE := HRE.out
      unfold wparseEnd at hE
      rw [if_pos ⟨rfl, rfl⟩, if_neg he] at hE
      unfold noReq at hE
      simp only [Prod.mk.injEq] at hE
      obtain ⟨rfl, rfl, rfl, rfl, rfl, rfl, rfl, rfl, rfl⟩ := hE
      go_wp2
      refine bodyPost_ret (results_ct rfl _ _ g2 28 #[.int .i64 0, .int .i64 0, .int .u64 0, .string ⟨#[]⟩, .int .i64 0, .int .i64 0, .int .i64 0, .slice none 0 0] (0, 0) _ rfl (put8_blk _ _ _ _ _ _ _ _ K28.out) Tryd.underlying28 rfl (by kernel_rfl)) rfl ?_
      exact ⟨.slice none 0 0, rfl, Kd.R_nil _ _ _ _ _, put8_below _ _ _ _ _ _ _ _ HB8.out hwg.out⟩
end Go.Proofs.YthaimkdnddmokaaDoor.P

/- wire.Print's walk: a request's bytes -/
import Derived.Test.YthaimkdnddmokaaDoorWireRequestsHWCheckFit
import Derived.Test.YthaimkdnddmokaaDoorWireRequestsGHWBytes
import Derived.Test.YthaimkdnddmokaaDoorWireRequestsHWIter
import Derived.Test.YthaimkdnddmokaaDoorWireRequestsHBJoin
import Derived.Test.YthaimkdnddmokaaDoorWireRequestsGHText
import Derived.Test.YthaimkdnddmokaaDoorWireRequestsGHLabelText
import Derived.Test.YthaimkdnddmokaaDoorWireRequestsPxLabel
import Derived.Test.YthaimkdnddmokaaDoorWireRequestsPxWire
namespace Go.Proofs.YthaimkdnddmokaaDoor.P
open Go.RowKit Go.Proofs.YthaimkdnddmokaaDoorW.PrintWords Go.Proofs.YthaimkdnddmokaaDoorW.PrintLast Go.Proofs.YthaimkdnddmokaaDoorW.PrintMore
set_option linter.unusedVariables false
set_option linter.unusedSimpArgs false
def letW (f : ByteArray) (a b d : Int) (x : UInt8) : List ByteArray := if x = 102 then [f] else if x = 97 then [decOf a] else if x = 98 then [decOf b] else if x = 99 then [decOf d] else []
def letterP (x : UInt8) : Bool := decide (x = 43) || decide (x = 102) || decide (x = 97) || decide (x = 98) || decide (x = 99)
def print4.T : Bool × List (List Nat × List Nat) := (true, [([], []), ([0], [0]), ([1], [1]), ([], []), ([3], [3]), ([4, 2], [4]), ([2, 5], [2, 5]), ([6, 5, 0, 1, 2, 3, 4, 5, 6], [6])])
def print4.B : List Nat := [0, 1, 3, 0, 8, 31, 63, 127]
theorem print4.tab : rtab .any (opsOf Tryd.f19 4) = print4.T := by kernel_rfl
theorem print4.bits : waitsOk print4.T.2 print4.B = true := by kernel_rfl
def print17.T : Bool × List (List Nat × List Nat) := (true, [([], []), ([0], [0]), ([1], [1]), ([2], [2]), ([], []), ([4], [4]), ([3, 5, 1], [3, 5]), ([6, 6, 0, 1, 2, 3, 4, 5, 6], [6]), ([7, 0, 1, 2, 3, 4, 5, 6, 7], [])])
def print17.B : List Nat := [0, 1, 3, 7, 0, 16, 63, 127, 255]
theorem print17.tab : rtab .any (opsOf Tryd.f19 17) = print17.T := by kernel_rfl
theorem print17.bits : waitsOk print17.T.2 print17.B = true := by kernel_rfl
def okG (gA gi k : Nat) : Prop := k ≠ gA ∧ k ≠ gi
def PrintRel (w : World) (gA gi : Nat) (cells : Array Value) (F : ByteArray) (f : ByteArray) (a b d : Int) (R : List ByteArray) (kq : Nat) (v5 : Value) (wr : World) : Prop := ∃ (i : Nat) (acc : List ByteArray), i + kq = F.size ∧ Kd.R Kd.string 9 wr w.heap.size (okG gA gi) v5 acc ∧
  wr.heap[gi]? = some (.stringIter F i) ∧ wr.heap[gA]? = some (.cells cells 28 (0, 0)) ∧ Below w.heap.size w wr ∧ acc ++ (F.data.toList.drop i).flatMap (letW f a b d) = R ∧ acc.length ≤ 2 + i
set_option maxHeartbeats 8000000 in
set_option maxRecDepth 100000 in
theorem Print.walk (v l c : Int) (f : ByteArray) (a b d : Int) (A0 : Option Addr) (c0 : Nat) (l0 : List Int) (er : Int) (WD LB F J : ByteArray) (R : List ByteArray) (w : World) (hT : Tabs w) (hr0 : Kd.C (Kd.int .u8) w A0 l0.length l0) (hc0 : l0.length ≤ c0) (hl0 : l0.length ≤ 1099511627776)
    (hck : wire_Check.f v l c f a b d l0 = some er) (hwd : wire_Word.f v = some WD) (hlb : label_Print.f 66 l c = some LB) (hF : wire_form.f 4 v = some F) (hFs : F.size ≤ 10) (hFl : F.data.toList.all letterP = true)
    (hR : [WD, LB] ++ F.data.toList.flatMap (letW f a b d) = R) (hJ : strings_Join.f R ⟨#[32]⟩ = some J) (hJs : J.size ≤ 1099511627776) :
    Calls Tryd.prog 19 #[.agg #[.int .i64 v, .int .i64 l, .int .u64 c, .string f, .int .i64 a, .int .i64 b, .int .i64 d, .slice A0 l0.length c0]] w fun e w' => ∃ A cc, e = .returned (.tuple #[.slice A (if er = 0 then bytesOf (J ++ ⟨#[10]⟩) ++ l0 else []).length cc, .int .i64 er]) ∧ Kd.C (Kd.int .u8) w' A (if er = 0 then bytesOf (J ++ ⟨#[10]⟩) ++ l0 else []).length (if er = 0 then bytesOf (J ++ ⟨#[10]⟩) ++ l0 else []) ∧ (if er = 0 then bytesOf (J ++ ⟨#[10]⟩) ++ l0 else []).length ≤ cc ∧ (A = none → cc = 0) ∧ Below w.heap.size w w' := by
  have HT := Lib.hid hT
  have HR0 := Lib.hid hr0
  have HCK := Lib.hid hck
  have HWD := Lib.hid hwd
  have HLB := Lib.hid hlb
  have HF := Lib.hid hF
  have HFL := Lib.hid hFl
  have HRR := Lib.hid hR
  have HJ := Lib.hid hJ
  obtain ⟨OUT, hOUT⟩ : ∃ OUT, (if er = 0 then bytesOf (J ++ ⟨#[10]⟩) ++ l0 else []) = OUT := ⟨_, rfl⟩
  rw [hOUT]
  have HOUT := Lib.hid hOUT
  clear hT hr0 hck hwd hlb hF hFl hR hJ hOUT
  obtain ⟨gA, hgA⟩ : ∃ g, w.heap.size = g := ⟨_, rfl⟩
  have KA := Lib.hid (blk_new w (.cells #[.int .i64 v, .int .i64 l, .int .u64 c, .string f, .int .i64 a, .int .i64 b, .int .i64 d, .slice A0 l0.length c0] 28))
  have HB0 := Lib.hid (below_alloc (Below.refl w.heap.size w) (.cells #[.int .i64 v, .int .i64 l, .int .u64 c, .string f, .int .i64 a, .int .i64 b, .int .i64 d, .slice A0 l0.length c0] 28))
  go_enter Tryd.func19, Tryd.ntmps19
  go_wp2_with fail
  rw [hgA] at KA
  try simp only [hgA]
  generalize w.alloc (.cells #[.int .i64 v, .int .i64 l, .int .u64 c, .string f, .int .i64 a, .int .i64 b, .int .i64 d, .slice A0 l0.length c0] 28) = W0 at KA HB0 ⊢
  have HgA := Lib.hid hgA
  clear hgA
  (with_reducible refine (wire_Check.calls v l c f a b d A0 c0 l0 er W0 (Kd.C_below HR0.out HB0.out) hc0 (HT.out.below HB0.out) HCK.out).mono ?_)
  rintro e w1 ⟨rfl, hb⟩
  have KA1 := Lib.hid (blk_below KA.out hb)
  have HB1 := Lib.hid (below_step HB0.out hb)
  clear hb KA HB0
  by_cases he : er = 0
  case neg =>
    have b1 : (er != 0) = true := bne_iff_ne.2 he
    have b2 : (er == 0) = false := beq_eq_false_iff_ne.2 he
    have hO := HOUT.out
    rw [if_neg he] at hO
    subst hO
    clear he
    go_wp2
    go_ret2
    exact ⟨none, 0, rfl, Kd.C_nil _ _, Nat.le_refl _, fun _ => rfl, HB1.out⟩
  subst he
  go_wp2_with fail
  refine start_ (n := 8) (S := fun w' => w'.heap[gA]? = some (.cells #[.int .i64 v, .int .i64 l, .int .u64 c, .string f, .int .i64 a, .int .i64 b, .int .i64 d, .slice A0 l0.length c0] 28 (0, 0))) (ds := []) #[false, false, false, false, false, false, false, false] (by kernel_rfl) rfl rfl (blk_drew KA1.out) (fun hHeld => ?_); refine with_tabW print4.tab print4.bits (fun HT_ HW_ => ?_)
  refine pure_ (i := 0) (N := some 13) (v := ?_) (a' := ?_) #[true, false, false, false, false, false, false, false] rfl rfl (any_of HT_.out (by kernel_rfl)) (fun _ _ _ h => h) (Or.inl ⟨by rfl, ?_⟩) ?_ ?_; rotate_left; (intro w'; go_simp; with_reducible rfl); rotate_left; (simp only [Act.put, List.setIfInBounds_toArray, List.set_cons_zero, List.set_cons_succ, i64_w, i32_w]; rfl)
  refine pure_ (i := 3) (N := some 16) (v := ?_) (a' := ?_) #[true, false, false, true, false, false, false, false] rfl rfl (any_of HT_.out (by kernel_rfl)) (fun _ _ _ h => h) (Or.inl ⟨by rfl, ?_⟩) ?_ ?_; rotate_left; (intro w'; go_simp; with_reducible rfl); rotate_left; (simp only [Act.put, List.setIfInBounds_toArray, List.set_cons_zero, List.set_cons_succ, i64_w, i32_w]; rfl)
  refine take_ (i := 1) (N := some 14) (v := ?_) (a' := ?_) #[true, true, false, true, false, false, false, false] rfl rfl (take_ofW HT_.out HW_.out (by kernel_rfl)) (fun _ _ _ h => h) (Or.inl ⟨by rfl, ?_⟩) hHeld ?_ ?_; rotate_left; (intro w' s0; have e0 : w'.cell? ⟨gA, 0, none⟩ = some (.int .i64 v) := (blk_cell s0 0).trans rfl; go_simp; with_reducible rfl); rotate_left; (simp only [Act.put, List.setIfInBounds_toArray, List.set_cons_zero, List.set_cons_succ, i64_w, i32_w]; rfl)
  refine take_ (i := 4) (N := some 17) (v := ?_) (a' := ?_) #[true, true, false, true, true, false, false, false] rfl rfl (take_ofW HT_.out HW_.out (by kernel_rfl)) (fun _ _ _ h => h) (Or.inl ⟨by rfl, ?_⟩) hHeld ?_ ?_; rotate_left; (intro w' s0; have e1 : w'.cell? ⟨gA, 1, none⟩ = some (.int .i64 l) := (blk_cell s0 1).trans rfl; have e2 : w'.cell? ⟨gA, 2, none⟩ = some (.int .u64 c) := (blk_cell s0 2).trans rfl; go_simp; with_reducible rfl); rotate_left; (simp only [Act.put, List.setIfInBounds_toArray, List.set_cons_zero, List.set_cons_succ, i64_w, i32_w]; rfl)
  refine one_ (i := 2) (N := some 15) #[true, true, true, true, true, false, false, false] rfl rfl (one_of HT_.out (by kernel_rfl)) (by decide) (fun K hK => ?_)
  refine goes_ Tryd.func18 (by kernel_rfl) rfl #[.int .i64 v] (by rfl) rfl rfl (by (try simp only [List.map_toArray, List.map_cons, List.map_nil]); first | done | rfl) ?_
  (with_reducible refine (wire_Word.calls v WD _ (HT.out.below (below_drew HB1.out)) HWD.out).mono ?_)
  rintro e w2 ⟨rfl, hb⟩
  refine ⟨_, rfl, ?_⟩
  have KA2 := Lib.hid (blk_below (blk_drew KA1.out) hb)
  have HB2 := Lib.hid (below_step (below_drew HB1.out) hb)
  clear hb
  refine hK.out _ _ (KA2.out) (fun hHeld => ?_); clear hK K; refine norm_ (a' := ?_) ?_ ?_; rotate_left; (show Act.put _ (some 15) _ = _; (simp only [Act.put, List.setIfInBounds_toArray, List.set_cons_zero, List.set_cons_succ, i64_w, i32_w]; rfl))
  refine one_ (i := 5) (N := some 18) #[true, true, true, true, true, true, false, false] rfl rfl (one_of HT_.out (by kernel_rfl)) (by decide) (fun K hK => ?_)
  refine goes_ Tryd.func36 (by kernel_rfl) rfl #[.agg #[.int .i64 l, .int .u64 c]] (by rfl) rfl rfl (by (try simp only [List.map_toArray, List.map_cons, List.map_nil]); first | done | rfl) ?_
  (with_reducible refine (label_Print.calls 66 l c LB _ (HT.out.below HB2.out) HLB.out).mono ?_)
  rintro e w3 ⟨rfl, hb⟩
  refine ⟨_, rfl, ?_⟩
  have KA3 := Lib.hid (blk_below KA2.out hb)
  have HB3 := Lib.hid (below_step HB2.out hb)
  clear hb
  refine hK.out _ _ (KA3.out) (fun hHeld => ?_); clear hK K; refine norm_ (a' := ?_) ?_ ?_; rotate_left; (show Act.put _ (some 18) _ = _; (simp only [Act.put, List.setIfInBounds_toArray, List.set_cons_zero, List.set_cons_succ, i64_w, i32_w]; rfl))
  refine one_ (i := 6) (N := some 19) #[true, true, true, true, true, true, true, false] rfl rfl (one_of HT_.out (by kernel_rfl)) (by decide) (fun K hK => ?_)
  refine Kd.R_lit_step Kd.string w.heap.size 9 ?hg (N := 19) ?hd (xs := [WD, LB]) (inner := [.string WD, .string LB]) (ok := fun k => k ≠ gA) (okp := fun k => k ≠ gA) ?hr ?hp (fun _ hk => hk) (show w3.heap.size ≠ gA by have := blk_lt KA3.out; omega) HB3.out HB3.out.size (by simp) ?_; (case hd => rfl); (case hg => rfl); (case hr => first | (go_simp; done) | (go_simp; rfl)); (case hp => exact (Reps.snoc (Reps.one (show Kd.M Kd.string _ _ _ WD [.string WD] from rfl) (Reps.none _ _)) (show Kd.M Kd.string _ _ _ LB [.string LB] from rfl) rfl)); intro v5 w4 ho4 hb4 hg4 hat4; have HO := Lib.hid ho4; have HB4 := Lib.hid hb4; have KA4 := Lib.hid (blk_grown KA3.out hg4 (by simp)); clear ho4 hb4 hg4 hat4
  refine hK.out _ _ (KA4.out) (fun hHeld => ?_); clear hK K; refine norm_ (a' := ?_) ?_ ?_; rotate_left; (show Act.put _ (some 19) _ = _; (simp only [Act.put, List.setIfInBounds_toArray, List.set_cons_zero, List.set_cons_succ, i64_w, i32_w]; rfl))
  refine pure_ (i := 7) (N := some 5) (v := ?_) (a' := ?_) #[true, true, true, true, true, true, true, true] rfl rfl (any_of HT_.out (by kernel_rfl)) (fun _ _ _ h => h) (Or.inl ⟨by rfl, ?_⟩) ?_ ?_; rotate_left; (intro w'; go_simp; with_reducible rfl); rotate_left; (simp only [Act.put, List.setIfInBounds_toArray, List.set_cons_zero, List.set_cons_succ, i64_w, i32_w]; rfl)
  refine done_ (done_of HT_.out (by kernel_rfl)) ?_
  have k0 : w4.cell? ⟨gA, 0, none⟩ = some (.int .i64 v) := (blk_cell KA4.out 0).trans rfl
  go_wp2_with (go_at_call 37; (with_reducible refine (wire_form.calls 4 v F _ HF.out).mono ?_); rintro e w' ⟨rfl, ⟨nd, rfl⟩⟩)
  obtain ⟨gi, hgi⟩ : ∃ g, w4.heap.size = g := ⟨_, rfl⟩
  have KI := Lib.hid (show ((w4.drewN nd).iter F 0).heap[gi]? = some (.stringIter F 0) by rw [← hgi]; exact World.iter_heap (w4.drewN nd) F 0)
  have KA5 := Lib.hid (show ((w4.drewN nd).iter F 0).heap[gA]? = some (.cells #[.int .i64 v, .int .i64 l, .int .u64 c, .string f, .int .i64 a, .int .i64 b, .int .i64 d, .slice A0 l0.length c0] 28 (0, 0)) from blk_alloc (blk_drewN KA4.out nd) _)
  have HB5 := Lib.hid (show Below w.heap.size w ((w4.drewN nd).iter F 0) from below_alloc (pw_below_drewN HB4.out nd) _)
  have HO5 := Lib.hid (show Kd.R Kd.string 9 ((w4.drewN nd).iter F 0) w.heap.size (okG gA gi) v5 [WD, LB] from Kd.R_below (Kd.R_mono (Kd.R_bound HO.out) (fun k hk => (⟨hk.1, by have := hk.2.2.1; omega⟩ : okG gA gi k))) (below_alloc (pw_below_drewN (Below.refl _ _) nd) _))
  have hAi : gA < gi := by rw [← hgi]; exact blk_lt KA4.out
  try simp only [hgi]
  generalize (w4.drewN nd).iter F 0 = w5 at KI KA5 HB5 HO5 ⊢
  clear k0 hgi HO HB4 KA4 KA3 HB3 KA2 HB2 KA1 HB1
  have hwg := Lib.hid (show w.heap.size ≤ gA by rw [HgA.out]; exact Nat.le_refl _)
  go_loopg [5] F.size (fun kq s5 wr => PrintRel w gA gi #[.int .i64 v, .int .i64 l, .int .u64 c, .string f, .int .i64 a, .int .i64 b, .int .i64 d, .slice A0 l0.length c0] F f a b d R kq s5 wr)
  case atStart => exact ⟨0, [WD, LB], by omega, HO5.out, KI.out, KA5.out, HB5.out, by rw [List.drop_zero]; exact HRR.out, Nat.le_refl _⟩
  case round =>
    clear KI KA5 HB5 HO5 HRR
    obtain ⟨i, acc, hik, hO, kI, kA, hB, hG, hal⟩ := hrel
    have HOP0 := Lib.hid hO
    have KI := Lib.hid kI
    have KA := Lib.hid kA
    have HB := Lib.hid hB
    have HG := Lib.hid hG
    clear hO kI kA hB hG
    cases gk with
    | zero =>
      have hno : ¬ i < F.size := by omega
      have hnx : ∀ ty, (Instr.next (.pointer (some ⟨gi, 0, none⟩)) true ty).run Tryd.prog wr = .ok (.tuple #[.bool false]) wr := fun ty => next_over wr ty KI.out hno
      have hRE := HG.out
      rw [List.drop_eq_nil_of_le (by rw [data_length]; omega)] at hRE
      simp only [List.flatMap_nil, List.append_nil] at hRE
      subst hRE
      go_wp2_with fail
      obtain ⟨A5, c5, e5, hc5, hC5⟩ := Kd.R_reads HOP0.out
      subst e5
      have hJsz := Lib.hid hJs
      obtain ⟨T, hT_⟩ : ∃ T, J ++ (⟨#[10]⟩ : ByteArray) = T := ⟨_, rfl⟩
      have hTs : T.size = J.size + 1 := by rw [← hT_, ByteArray.size_append]; rfl
      have hbig : (9223372036854775807 < J.size + 1) = False := eq_false (by omega)
      have kb := fun W => print_bytes (P := Tryd.prog) 9 22 5 Tryd.underlying9 Tryd.underlying22 Tryd.underlying5 T W
      have HKB := Lib.hid kb
      have hO := HOUT.out
      rw [if_pos trivial, hT_] at hO
      have HOUT2 := Lib.hid hO
      have HCT := Lib.hid hT_
      have HTS := Lib.hid hTs
      have HC5 := Lib.hid hC5
      clear kb hO hT_ hTs hC5 hJs
      obtain ⟨i0, hi0, hz0, hsz0, hb0⟩ := info_parts info5
      refine start_ (n := 9) (S := fun w' => w'.heap[gA]? = some (.cells #[.int .i64 v, .int .i64 l, .int .u64 c, .string f, .int .i64 a, .int .i64 b, .int .i64 d, .slice A0 l0.length c0] 28 (0, 0))) (ds := []) #[false, false, false, false, false, false, false, false, false] (by kernel_rfl) rfl rfl (blk_drew KA.out) (fun hHeld => ?_); refine with_tabW print17.tab print17.bits (fun HT_ HW_ => ?_)
      refine pure_ (i := 0) (N := some 59) (v := ?_) (a' := ?_) #[true, false, false, false, false, false, false, false, false] rfl rfl (any_of HT_.out (by kernel_rfl)) (fun _ _ _ h => h) (Or.inl ⟨by rfl, ?_⟩) ?_ ?_; rotate_left; (intro w'; go_simp; with_reducible rfl); rotate_left; (simp only [Act.put, List.setIfInBounds_toArray, List.set_cons_zero, List.set_cons_succ, i64_w, i32_w]; rfl)
      refine pure_ (i := 4) (N := some 63) (v := ?_) (a' := ?_) #[true, false, false, false, true, false, false, false, false] rfl rfl (any_of HT_.out (by kernel_rfl)) (fun _ _ _ h => h) (Or.inl ⟨by rfl, ?_⟩) ?_ ?_; rotate_left; (intro w'; go_simp; with_reducible rfl); rotate_left; (simp only [Act.put, List.setIfInBounds_toArray, List.set_cons_zero, List.set_cons_succ, i64_w, i32_w]; rfl)
      refine take_ (i := 5) (N := some 64) (v := ?_) (a' := ?_) #[true, false, false, false, true, true, false, false, false] rfl rfl (take_ofW HT_.out HW_.out (by kernel_rfl)) (fun _ _ _ h => h) (Or.inl ⟨by rfl, ?_⟩) hHeld ?_ ?_; rotate_left; (intro w' s0; have e7 : w'.cell? ⟨gA, 7, none⟩ = some (.slice A0 l0.length c0) := (blk_cell s0 7).trans rfl; go_simp; with_reducible rfl); rotate_left; (simp only [Act.put, List.setIfInBounds_toArray, List.set_cons_zero, List.set_cons_succ, i64_w, i32_w]; rfl)
      refine one_ (i := 1) (N := some 60) #[true, true, false, false, true, true, false, false, false] rfl rfl (one_of HT_.out (by kernel_rfl)) (by decide) (fun K hK => ?_)
      refine goes_ Tryd.func39 (by kernel_rfl) rfl #[.slice A5 acc.length c5, .string ⟨#[32]⟩] (by rfl) rfl rfl (by (try simp only [List.map_toArray, List.map_cons, List.map_nil]); first | done | rfl) ?_
      (with_reducible refine (strings_Join.calls A5 c5 acc ⟨#[32]⟩ J _ (Kd.C_below HC5.out (below_drew (Below.refl _ _))) hc5 HJ.out).mono ?_)
      rintro e w7 ⟨rfl, hb⟩
      refine ⟨_, rfl, ?_⟩
      have KA7 := Lib.hid (blk_below (blk_drew KA.out) hb)
      have HB7 := Lib.hid (below_step (below_drew HB.out) hb)
      clear hb
      refine hK.out _ _ (KA7.out) (fun hHeld => ?_); clear hK K; refine norm_ (a' := ?_) ?_ ?_; rotate_left; (show Act.put _ (some 60) _ = _; (simp only [Act.put, List.setIfInBounds_toArray, List.set_cons_zero, List.set_cons_succ, i64_w, i32_w]; rfl))
      refine pure_ (i := 2) (N := some 61) (v := ?_) (a' := ?_) #[true, true, true, false, true, true, false, false, false] rfl rfl (any_of HT_.out (by kernel_rfl)) (fun _ _ _ h => h) (Or.inl ⟨by rfl, ?_⟩) ?_ ?_; rotate_left; (intro w'; go_simp; with_reducible rfl); rotate_left; (simp only [Act.put, List.setIfInBounds_toArray, List.set_cons_zero, List.set_cons_succ, i64_w, i32_w]; rfl)
      refine one_ (i := 3) (N := some 62) #[true, true, true, true, true, true, false, false, false] rfl rfl (one_of HT_.out (by kernel_rfl)) (by decide) (fun K hK => ?_)
      rw [HCT.out]
      refine event_step (by rfl) (conv_run rfl rfl (HKB.out w7)) ?_
      have hcv := Lib.bytesWorld_at_new w7 5 T
      have HBW := Lib.hid hcv
      have hw7 := Lib.hid (show w.heap.size ≤ w7.heap.size from HB7.out.size)
      have HB8 := Lib.hid (bytes_below HB7.out hw7.out 5 T)
      have KA8 := Lib.hid (show (Lib.bytesWorld w7 5 T).heap[gA]? = some (.cells #[.int .i64 v, .int .i64 l, .int .u64 c, .string f, .int .i64 a, .int .i64 b, .int .i64 d, .slice A0 l0.length c0] 28 (0, 0)) from (Lib.bytesWorld_at_old w7 5 T gA (blk_lt KA7.out)).trans KA7.out)
      clear hcv
      generalize Lib.bytesWorld w7 5 T = w8 at HBW HB8 KA8 ⊢
      refine hK.out _ _ (KA8.out) (fun hHeld => ?_); clear hK K; refine norm_ (a' := ?_) ?_ ?_; rotate_left; (show Act.put _ (some 62) _ = _; (simp only [Act.put, List.setIfInBounds_toArray, List.set_cons_zero, List.set_cons_succ, i64_w, i32_w]; rfl))
      refine one_ (i := 6) (N := some 65) #[true, true, true, true, true, true, true, false, false] rfl rfl (one_of HT_.out (by kernel_rfl)) (by decide) (fun K hK => ?_)
      obtain ⟨A9, c9, w9, hrun, hC9, hc9, hb9⟩ := bytes_append (t := 22) (ty := 22) (c := c0) Tryd.underlying22 hi0 hz0 hsz0 hb0 HBW.out (Kd.C_below HR0.out HB8.out) (by have := HTS.out; have := hJsz.out; omega)
      refine event_step (by rfl) (append_run rfl rfl rfl rfl hrun) ?_
      have KA9 := Lib.hid (show w9.heap[gA]? = some (.cells #[.int .i64 v, .int .i64 l, .int .u64 c, .string f, .int .i64 a, .int .i64 b, .int .i64 d, .slice A0 l0.length c0] 28 (0, 0)) from (hb9.block gA (blk_lt KA7.out)).trans KA8.out)
      have HB9 := Lib.hid (HB8.out.trans (hb9.mono hw7.out))
      have HC9 := Lib.hid hC9
      have hc9' := Lib.hid hc9
      clear hrun hC9 hc9 hb9
      refine hK.out _ _ (KA9.out) (fun hHeld => ?_); clear hK K; refine norm_ (a' := ?_) ?_ ?_; rotate_left; (show Act.put _ (some 65) _ = _; (simp only [Act.put, List.setIfInBounds_toArray, List.set_cons_zero, List.set_cons_succ, i64_w, i32_w]; rfl))
      refine pure_ (i := 7) (N := some 2) (v := ?_) (a' := ?_) #[true, true, true, true, true, true, true, true, false] rfl rfl (any_of HT_.out (by kernel_rfl)) (fun _ _ _ h => h) (Or.inl ⟨by rfl, ?_⟩) ?_ ?_; rotate_left; (intro w'; go_simp; with_reducible rfl); rotate_left; (simp only [Act.put, List.setIfInBounds_toArray, List.set_cons_zero, List.set_cons_succ, i64_w, i32_w]; rfl)
      refine pure_ (i := 8) (N := some 3) (v := ?_) (a' := ?_) #[true, true, true, true, true, true, true, true, true] rfl rfl (any_of HT_.out (by kernel_rfl)) (fun _ _ _ h => h) (Or.inl ⟨by rfl, ?_⟩) ?_ ?_; rotate_left; (intro w'; go_simp; with_reducible rfl); rotate_left; (simp only [Act.put, List.setIfInBounds_toArray, List.set_cons_zero, List.set_cons_succ, i64_w, i32_w]; rfl)
      refine done_ (done_of HT_.out (by kernel_rfl)) ?_
      go_wp2
      go_ret2
      have e1 : OUT.length = T.size + l0.length := by rw [← HOUT2.out, List.length_append, bytesOf_length]
      exact ⟨A9, c9, by rw [e1]; rfl, by rw [e1, ← HOUT2.out]; exact HC9.out, by rw [e1]; exact hc9'.out, (fun h => by obtain ⟨ad, e, _⟩ := HC9.out.2.2 (by have := HTS.out; omega); rw [h] at e; cases e), HB9.out⟩
    | succ k1 =>
      have hlt : i < F.size := by omega
      have hlx : i < F.data.toList.length := by rw [data_length]; exact hlt
      have hG := HG.out
      rw [List.drop_eq_getElem_cons hlx, List.flatMap_cons] at hG
      have hlet := (List.all_eq_true.1 HFL.out) (F.data.toList[i]) (List.getElem_mem hlx)
      have hgl : gi < wr.heap.size := (Array.getElem?_eq_some_iff.1 KI.out).1
      have hnx0 : ∀ ty, (F.data.toList[i]).toNat < 128 → (Instr.next (.pointer (some ⟨gi, 0, none⟩)) true ty).run Tryd.prog wr = .ok (.tuple #[.bool true, .int .i64 i, .int .i32 (F.data.toList[i]).toNat]) (seti wr gi F (i + 1)) := fun ty h => next_at wr ty KI.out hlt h
      have KI2 := Lib.hid (seti_at hgl F (i + 1))
      have KA2 := Lib.hid ((seti_blk wr (show gA ≠ gi by omega) F (i + 1)).trans KA.out)
      have HB2 := Lib.hid (seti_below HB.out (show w.heap.size ≤ gi by have := hwg.out; omega) F (i + 1))
      have HO2 := Lib.hid (Kd.R_step (w1 := seti wr gi F (i + 1)) HOP0.out (fun k hk _ => seti_blk wr hk.2 F (i + 1)))
      clear HG KI KA HB HOP0 hgl
      generalize seti wr gi F (i + 1) = W2 at hnx0 KI2 KA2 HB2 HO2
      generalize F.data.toList[i] = x at hG hlet hnx0
      unfold letterP at hlet
      simp only [Bool.or_eq_true, decide_eq_true_eq] at hlet
      have hAl := blk_lt KA2.out
      have hIl : gi < W2.heap.size := (Array.getElem?_eq_some_iff.1 KI2.out).1
      rcases hlet with (((rfl | rfl) | rfl) | rfl) | rfl
      · have hnx : ∀ ty, (Instr.next (.pointer (some ⟨gi, 0, none⟩)) true ty).run Tryd.prog wr = .ok (.tuple #[.bool true, .int .i64 i, .int .i32 43]) W2 := fun ty => hnx0 ty (by decide)
        have HG := Lib.hid hG
        clear hnx0 hG
        go_wp2
        go_roundg k1
        case measure => omega
        case rel => exact ⟨i + 1, acc, by omega, HO2.out, KI2.out, KA2.out, HB2.out, by have h9 := HG.out; simpa [letW] using h9, by omega⟩
      · have hnx : ∀ ty, (Instr.next (.pointer (some ⟨gi, 0, none⟩)) true ty).run Tryd.prog wr = .ok (.tuple #[.bool true, .int .i64 i, .int .i32 102]) W2 := fun ty => hnx0 ty (by decide)
        have HG := Lib.hid hG
        clear hnx0 hG
        have qc : W2.cell? ⟨gA, 3, none⟩ = some (.string f) := (blk_cell KA2.out 3).trans rfl
        have HOP := Lib.hid HO2.out
        have HBP := Lib.hid HB2.out
        have HFR := Lib.hid (show ∀ k, W2.heap.size ≤ k → okG gA gi k from fun k hk => ⟨by omega, by omega⟩)
        go_wp2_with ((with_reducible refine gate_builtin (b := .append) (xs := #[.tmp 30, .tmp 33]) rfl ?_); at_builtin; refine Kd.R_append Kd.string (w0 := w) w.heap.size rfl (.tmp 30) (.tmp 33) 53 9 (.string ⟨#[]⟩) 16 rfl Tryd.underlying53 info9 rfl (by decide) (by omega) _ acc (f) [.string (f)] (okG gA gi) (fun _ => False) rfl rfl rfl (fun _ hk => hk.elim) HFR.out HOP.out HBP.out HBP.out.size (by omega) ?_; intro v9 w9 ho9 hb9 hg9 hat9; have HO9 := Lib.hid ho9; have HB9 := Lib.hid hb9; have HG9 := Lib.hid hg9; clear ho9 hb9 hg9 hat9)
        go_roundg k1
        case measure => omega
        case rel => exact ⟨i + 1, acc ++ [f], by omega, HO9.out, (HG9.out.block gi hIl (fun e => (HOP.out.1 gi e.symm).2 rfl)).trans KI2.out, blk_grown KA2.out HG9.out (fun e => (HOP.out.1 gA e.symm).1 rfl), HB9.out, by have h9 := HG.out; simpa [letW] using h9, by simp; omega⟩
      · have hnx : ∀ ty, (Instr.next (.pointer (some ⟨gi, 0, none⟩)) true ty).run Tryd.prog wr = .ok (.tuple #[.bool true, .int .i64 i, .int .i32 97]) W2 := fun ty => hnx0 ty (by decide)
        have HG := Lib.hid hG
        clear hnx0 hG
        have qc : W2.cell? ⟨gA, 4, none⟩ = some (.int .i64 a) := (blk_cell KA2.out 4).trans rfl
        have HDC := Lib.hid (show text_Decimal.f a = some (decOf a) from rfl)
        go_wp2_with (first
          | (go_at_call 38; (with_reducible refine (text_Decimal.calls a _ _ HDC.out).mono ?_); rintro e w7 ⟨rfl, hb⟩; have KI3 := Lib.hid ((hb.block gi hIl).trans KI2.out); have KA3 := Lib.hid (blk_below KA2.out hb); have HBP := Lib.hid (below_step HB2.out hb); have HOP := Lib.hid (Kd.R_below HO2.out hb); have hA3 := blk_lt KA3.out; have hI3 : gi < w7.heap.size := (Array.getElem?_eq_some_iff.1 KI3.out).1; have HFR := Lib.hid (show ∀ k, w7.heap.size ≤ k → okG gA gi k from fun k hk => ⟨by omega, by omega⟩); clear hb)
          | ((with_reducible refine gate_builtin (b := .append) (xs := #[.tmp 37, .tmp 41]) rfl ?_); at_builtin; refine Kd.R_append Kd.string (w0 := w) w.heap.size rfl (.tmp 37) (.tmp 41) 53 9 (.string ⟨#[]⟩) 16 rfl Tryd.underlying53 info9 rfl (by decide) (by omega) _ acc (decOf a) [.string (decOf a)] (okG gA gi) (fun _ => False) rfl rfl rfl (fun _ hk => hk.elim) HFR.out HOP.out HBP.out HBP.out.size (by omega) ?_; intro v9 w9 ho9 hb9 hg9 hat9; have HO9 := Lib.hid ho9; have HB9 := Lib.hid hb9; have HG9 := Lib.hid hg9; clear ho9 hb9 hg9 hat9))
        go_roundg k1
        case measure => omega
        case rel => exact ⟨i + 1, acc ++ [decOf a], by omega, HO9.out, (HG9.out.block gi hI3 (fun e => (HOP.out.1 gi e.symm).2 rfl)).trans KI3.out, blk_grown KA3.out HG9.out (fun e => (HOP.out.1 gA e.symm).1 rfl), HB9.out, by have h9 := HG.out; simpa [letW] using h9, by simp; omega⟩
      · have hnx : ∀ ty, (Instr.next (.pointer (some ⟨gi, 0, none⟩)) true ty).run Tryd.prog wr = .ok (.tuple #[.bool true, .int .i64 i, .int .i32 98]) W2 := fun ty => hnx0 ty (by decide)
        have HG := Lib.hid hG
        clear hnx0 hG
        have qc : W2.cell? ⟨gA, 5, none⟩ = some (.int .i64 b) := (blk_cell KA2.out 5).trans rfl
        have HDC := Lib.hid (show text_Decimal.f b = some (decOf b) from rfl)
        go_wp2_with (first
          | (go_at_call 38; (with_reducible refine (text_Decimal.calls b _ _ HDC.out).mono ?_); rintro e w7 ⟨rfl, hb⟩; have KI3 := Lib.hid ((hb.block gi hIl).trans KI2.out); have KA3 := Lib.hid (blk_below KA2.out hb); have HBP := Lib.hid (below_step HB2.out hb); have HOP := Lib.hid (Kd.R_below HO2.out hb); have hA3 := blk_lt KA3.out; have hI3 : gi < w7.heap.size := (Array.getElem?_eq_some_iff.1 KI3.out).1; have HFR := Lib.hid (show ∀ k, w7.heap.size ≤ k → okG gA gi k from fun k hk => ⟨by omega, by omega⟩); clear hb)
          | ((with_reducible refine gate_builtin (b := .append) (xs := #[.tmp 45, .tmp 49]) rfl ?_); at_builtin; refine Kd.R_append Kd.string (w0 := w) w.heap.size rfl (.tmp 45) (.tmp 49) 53 9 (.string ⟨#[]⟩) 16 rfl Tryd.underlying53 info9 rfl (by decide) (by omega) _ acc (decOf b) [.string (decOf b)] (okG gA gi) (fun _ => False) rfl rfl rfl (fun _ hk => hk.elim) HFR.out HOP.out HBP.out HBP.out.size (by omega) ?_; intro v9 w9 ho9 hb9 hg9 hat9; have HO9 := Lib.hid ho9; have HB9 := Lib.hid hb9; have HG9 := Lib.hid hg9; clear ho9 hb9 hg9 hat9))
        go_roundg k1
        case measure => omega
        case rel => exact ⟨i + 1, acc ++ [decOf b], by omega, HO9.out, (HG9.out.block gi hI3 (fun e => (HOP.out.1 gi e.symm).2 rfl)).trans KI3.out, blk_grown KA3.out HG9.out (fun e => (HOP.out.1 gA e.symm).1 rfl), HB9.out, by have h9 := HG.out; simpa [letW] using h9, by simp; omega⟩
      · have hnx : ∀ ty, (Instr.next (.pointer (some ⟨gi, 0, none⟩)) true ty).run Tryd.prog wr = .ok (.tuple #[.bool true, .int .i64 i, .int .i32 99]) W2 := fun ty => hnx0 ty (by decide)
        have HG := Lib.hid hG
        clear hnx0 hG
        have qc : W2.cell? ⟨gA, 6, none⟩ = some (.int .i64 d) := (blk_cell KA2.out 6).trans rfl
        have HDC := Lib.hid (show text_Decimal.f d = some (decOf d) from rfl)
        go_wp2_with (first
          | (go_at_call 38; (with_reducible refine (text_Decimal.calls d _ _ HDC.out).mono ?_); rintro e w7 ⟨rfl, hb⟩; have KI3 := Lib.hid ((hb.block gi hIl).trans KI2.out); have KA3 := Lib.hid (blk_below KA2.out hb); have HBP := Lib.hid (below_step HB2.out hb); have HOP := Lib.hid (Kd.R_below HO2.out hb); have hA3 := blk_lt KA3.out; have hI3 : gi < w7.heap.size := (Array.getElem?_eq_some_iff.1 KI3.out).1; have HFR := Lib.hid (show ∀ k, w7.heap.size ≤ k → okG gA gi k from fun k hk => ⟨by omega, by omega⟩); clear hb)
          | ((with_reducible refine gate_builtin (b := .append) (xs := #[.tmp 53, .tmp 57]) rfl ?_); at_builtin; refine Kd.R_append Kd.string (w0 := w) w.heap.size rfl (.tmp 53) (.tmp 57) 53 9 (.string ⟨#[]⟩) 16 rfl Tryd.underlying53 info9 rfl (by decide) (by omega) _ acc (decOf d) [.string (decOf d)] (okG gA gi) (fun _ => False) rfl rfl rfl (fun _ hk => hk.elim) HFR.out HOP.out HBP.out HBP.out.size (by omega) ?_; intro v9 w9 ho9 hb9 hg9 hat9; have HO9 := Lib.hid ho9; have HB9 := Lib.hid hb9; have HG9 := Lib.hid hg9; clear ho9 hb9 hg9 hat9))
        go_roundg k1
        case measure => omega
        case rel => exact ⟨i + 1, acc ++ [decOf d], by omega, HO9.out, (HG9.out.block gi hI3 (fun e => (HOP.out.1 gi e.symm).2 rfl)).trans KI3.out, blk_grown KA3.out HG9.out (fun e => (HOP.out.1 gA e.symm).1 rfl), HB9.out, by have h9 := HG.out; simpa [letW] using h9, by simp; omega⟩
end Go.Proofs.YthaimkdnddmokaaDoor.P

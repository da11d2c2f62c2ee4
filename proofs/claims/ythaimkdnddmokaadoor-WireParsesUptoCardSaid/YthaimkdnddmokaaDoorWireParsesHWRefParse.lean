/- jalousieref21.Parse's walk: the request of bytes -/
import Derived.Test.YthaimkdnddmokaaDoorWireParsesHWLineFit
import Derived.Test.YthaimkdnddmokaaDoorWireParsesHWReadFit
import Derived.Test.YthaimkdnddmokaaDoorWireParsesHWRefCheck
import Derived.Test.YthaimkdnddmokaaDoorWireParsesHWRefCut
import Derived.Test.YthaimkdnddmokaaDoorWireParsesHRefWords
import Derived.Test.YthaimkdnddmokaaDoorWireParsesGHEqLabel
import Derived.Test.YthaimkdnddmokaaDoorWireParsesPxJalousieref02
import Derived.Test.YthaimkdnddmokaaDoorWireParsesPxJalousieref01
import Derived.Test.YthaimkdnddmokaaDoorWireParsesPxJalousieref21
namespace Go.Proofs.YthaimkdnddmokaaDoor.P
open Go.RowKit Go.Proofs.YthaimkdnddmokaaDoorW.PrintWords Go.Proofs.YthaimkdnddmokaaDoorW.PrintLast Go.Proofs.YthaimkdnddmokaaDoorW.PrintMore
set_option linter.unusedVariables false
set_option linter.unusedSimpArgs false
def numsR (ws : List ByteArray) (k : Nat) : Nat → Nat → Int → Int → Int → Option (Int × Int × Int)
  | 0, i, a, b, c => some (a, b, c)
  | d + 1, i, a, b, c => if (numOf (wdW ws (k + i))).2 = true then numsR ws k d (i + 1) (if i = 0 then (numOf (wdW ws (k + i))).1 else a) (if i = 1 then (numOf (wdW ws (k + i))).1 else b) (if i = 2 then (numOf (wdW ws (k + i))).1 else c) else none
def fileW (ws : List ByteArray) (fl : Bool) : ByteArray := if fl = true then wdW ws 2 else ⟨#[]⟩
def kW (fl : Bool) : Nat := if fl = true then 3 else 2
def rparseLast (V lab cats : Int) (f : ByteArray) (body : List Int) : Option (Int × Int × Int) → WAns
  | none => noReq 3
  | some (a, b, d) => endW (V, lab, cats, f, a, b, d) body
def rparseEnd (is : Bool) (ws : List ByteArray) (V lab cats : Int) (fine fl : Bool) (n : Nat) (body : List Int) : WAns :=
  if is = true ∧ 2 ≤ ws.length ∧ ¬ V = 0 ∧ fine = true ∧ ws.length = kW fl + n then rparseLast V lab cats (fileW ws fl) body (numsR ws (kW fl) n 0 0 0 0) else noReq 3
def verbAt (V : Int) (v : Int) : Int := if V < v then V else 0
def rparse9.T : Bool × List (List Nat × List Nat) := (true, [([], []), ([0], [0]), ([], []), ([2], [2]), ([3], [3]), ([1, 4], [1, 4])])
def rparse9.B : List Nat := [0, 1, 0, 4, 12, 31]
theorem rparse9.tab : rtab .any (opsOf Tryd.f9 9) = rparse9.T := by kernel_rfl
theorem rparse9.bits : waitsOk rparse9.T.2 rparse9.B = true := by kernel_rfl
theorem word_at {W : World} {A : Option Addr} {ws : List ByteArray} (h : Kd.C Kd.string W A ws.length ws) (i : Nat) (hi : i < ws.length) : ∃ ad, A = some ad ∧ W.cell? (ad.add i) = some (.string (wdW ws i)) := by
  obtain ⟨ad, e, hx⟩ := Kd.at_string h (i : Int) (by omega) (by omega)
  refine ⟨ad, e, ?_⟩
  have e2 : rdOf ByteArray.empty ws (i : Int) = wdW ws i := rfl
  rw [← e2]
  exact hx
theorem word_0 {W : World} {ad : Addr} {ws : List ByteArray} (h : Kd.C Kd.string W (some ad) ws.length ws) (hi : 0 < ws.length) : W.cell? ad = some (.string (wdW ws 0)) := by
  obtain ⟨ad', e, hx⟩ := word_at h 0 hi
  obtain rfl := Option.some.inj e
  have h0 : W.cell? (ad.add 0) = some (.string (wdW ws 0)) := hx
  rwa [show ad.add 0 = ad from by simp [Addr.add]] at h0
theorem verb_step (s : ByteArray) (v : Int) (h1 : 1 ≤ v) (h2 : v ≤ 11) : (if baOf (verbL v) = s then v else verbAt (verbOf s.data.toList) v) = verbAt (verbOf s.data.toList) (v + 1) := by
  unfold verbAt
  by_cases e : baOf (verbL v) = s
  · rw [if_pos e, ← e, baOf_data, verb_of v h1 h2, if_pos (by omega)]
  · rw [if_neg e]
    have hne : verbOf s.data.toList ≠ v := by
      intro hv
      obtain ⟨h3, _, _⟩ := verb_inv s.data.toList (by omega)
      rw [hv] at h3
      exact e (by rw [h3, baOf_self])
    by_cases h : verbOf s.data.toList < v
    · rw [if_pos h, if_pos (by omega)]
    · rw [if_neg h, if_neg (by omega)]
theorem wrap_2n (n : Nat) (hn : n ≤ 3) : wrap64 (2 + (n : Int)) = 2 + n := w64 _ (by omega) (by omega)
theorem ne_2n (l n : Nat) (h : ¬ l = 2 + n) : ((l : Int) != 2 + (n : Int)) = true := bne_iff_ne.2 (by omega)
theorem ne_3n (l n : Nat) (h : ¬ l = 3 + n) : ((l : Int) != 3 + (n : Int)) = true := bne_iff_ne.2 (by omega)
theorem eq_2n (l n : Nat) (h : l = 2 + n) : ((l : Int) != 2 + (n : Int)) = false := bne_eq_false_iff_eq.2 (by omega)
theorem eq_3n (l n : Nat) (h : l = 3 + n) : ((l : Int) != 3 + (n : Int)) = false := bne_eq_false_iff_eq.2 (by omega)
theorem wrap_3n (n : Nat) (hn : n ≤ 3) : wrap64 (3 + (n : Int)) = 3 + n := w64 _ (by omega) (by omega)
def RefLoop (w W0 : World) (g2 g8 : Nat) (V : Int) (AB : Option Addr) (cB : Nat) (body : List Int) (ad : Addr) (c3 : Nat) (ws : List ByteArray) (kq : Nat) (v9 : Value) (wr : World) : Prop := ∃ v : Int, v9 = .int .i64 v ∧ 1 ≤ v ∧ v + kq = 12 ∧ wr.heap[g8]? = some (.cells #[.int .i64 (verbAt V v), .int .i64 0, .int .u64 0, .string ⟨#[]⟩, .int .i64 0, .int .i64 0, .int .i64 0, .slice AB body.length cB] 28 (0, 0)) ∧ wr.heap[g2]? = some (.cells zeroReq 28 (0, 0)) ∧ Below w.heap.size w wr ∧ Kd.R (Kd.int .u8) 5 wr W0.heap.size (fun _ => True) (.slice AB body.length cB) body ∧ Kd.R Kd.string 9 wr W0.heap.size (fun _ => True) (.slice (some ad) ws.length c3) ws
def RefLoop2 (w W0 : World) (g2 g8 ga : Nat) (V lab cats : Int) (F : ByteArray) (AB : Option Addr) (cB : Nat) (body : List Int) (ad : Addr) (c3 : Nat) (ws : List ByteArray) (kk n : Nat) (NR : Option (Int × Int × Int)) (kq : Nat) (v17 : Value) (wr : World) : Prop := ∃ (i : Nat) (v a b c : Int), v17 = .int .i64 v ∧ v = (i : Int) ∧ i + kq = n ∧ wr.heap[ga]? = some (.cells #[.int .i64 a, .int .i64 b, .int .i64 c] 62 (0, 0)) ∧ wr.heap[g8]? = some (.cells #[.int .i64 V, .int .i64 lab, .int .u64 cats, .string F, .int .i64 0, .int .i64 0, .int .i64 0, .slice AB body.length cB] 28 (0, 0)) ∧ wr.heap[g2]? = some (.cells zeroReq 28 (0, 0)) ∧ Below w.heap.size w wr ∧ Kd.R (Kd.int .u8) 5 wr W0.heap.size (fun _ => True) (.slice AB body.length cB) body ∧ Kd.R Kd.string 9 wr W0.heap.size (fun _ => True) (.slice (some ad) ws.length c3) ws ∧ numsR ws kk kq i a b c = NR
set_option maxHeartbeats 4000000 in
set_option maxRecDepth 100000 in
theorem RefParse.walk (A0 : Option Addr) (c0 : Nat) (l0 : List Int) (sv : ByteArray) (body : List Int) (is : Bool) (ws : List ByteArray) (lab cats : Int) (fine fl fz : Bool) (n kl : Nat) (r1 r2 r3 : Int) (r4 : ByteArray) (r5 r6 r7 : Int) (r8 : List Int) (r9 : Int) (w : World)
    (hr0 : Kd.C (Kd.int .u8) w A0 l0.length l0) (hc0 : l0.length ≤ c0) (hcut : jalousieref21_Cut.f l0 = some (sv, body, is)) (hw : jalousieref01_Words.f sv = some ws) (hwl : ws.length ≤ 1099511627776)
    (hlab : jalousieref02_Parse.f kl (wdW ws 1) = some (lab, cats, fine)) (hnm : jalousieref21_Names.f 2 (verbOf (wdW ws 0).data.toList) = some (fl, (n : Int), fz)) (hn : n ≤ 3)
    (hck : ∀ a b d, jalousieref21_Check.f (verbOf (wdW ws 0).data.toList) lab cats (fileW ws fl) a b d body = some (checkR (verbOf (wdW ws 0).data.toList) lab (fileW ws fl) a b d body.length))
    (hr : rparseEnd is ws (verbOf (wdW ws 0).data.toList) lab cats fine fl n body = (r1, r2, r3, r4, r5, r6, r7, r8, r9)) :
    Calls Tryd.prog 9 #[.slice A0 l0.length c0] w fun e w' => ∃ v_ : Value, e = .returned (.tuple #[.agg #[.int .i64 r1, .int .i64 r2, .int .u64 r3, .string r4, .int .i64 r5, .int .i64 r6, .int .i64 r7, v_], .int .i64 r9]) ∧ Kd.R (Kd.int .u8) 5 w' w.heap.size (fun _ => True) v_ r8 ∧ Below w.heap.size w w' := by
  have HR0 := Lib.hid hr0
  have HCUT := Lib.hid hcut
  have HW := Lib.hid hw
  have HLB := Lib.hid hlab
  have HNM := Lib.hid hnm
  have HCK := Lib.hid hck
  have HRE := Lib.hid hr
  have hVV := verb_step (wdW ws 0)
  have hV0 : 0 ≤ verbOf (wdW ws 0).data.toList ∧ verbOf (wdW ws 0).data.toList ≤ 11 := by
    by_cases h : verbOf (wdW ws 0).data.toList = 0
    · omega
    · have := verb_inv _ h; omega
  have HVV := Lib.hid hVV
  generalize verbOf (wdW ws 0).data.toList = V at HNM HCK HRE HVV hV0
  clear hr0 hcut hw hlab hnm hck hr hVV
  obtain ⟨g2, hg2⟩ : ∃ g, w.heap.size = g := ⟨_, rfl⟩
  have K2 := Lib.hid (blk_new w (.cells zeroReq 28))
  have HB0 := Lib.hid (below_alloc (Below.refl w.heap.size w) (.cells zeroReq 28))
  rw [hg2] at K2
  unfold zeroReq at K2 HB0
  go_enter Tryd.func9, Tryd.ntmps9
  go_wp2_with fail
  try simp only [hg2]
  generalize w.alloc (.cells #[.int .i64 0, .int .i64 0, .int .u64 0, .string ⟨#[]⟩, .int .i64 0, .int .i64 0, .int .i64 0, .slice none 0 0] 28) = W0 at K2 HB0 ⊢
  have hwg : w.heap.size ≤ g2 := by omega
  have hgb := Lib.hid (blk_lt K2.out)
  have hbw := Lib.hid HB0.out.size
  (with_reducible refine (jalousieref21_Cut.calls A0 c0 l0 sv body is W0 (Kd.C_below HR0.out HB0.out) hc0 HCUT.out).mono ?_)
  rintro e w1 ⟨vB, rfl, hr, hb⟩
  have K21 := Lib.hid (blk_below K2.out hb)
  have HB1 := Lib.hid (below_step HB0.out hb)
  have HBO := Lib.hid hr
  obtain ⟨AB, cB, rfl⟩ := Kd.R_slice hr
  have hbb := hb.size
  clear hr hb K2 HB0
  go_wp2_with fail
  (with_reducible refine (jalousieref01_Words.calls sv ws w1 HW.out).mono ?_)
  rintro e w2 ⟨v2, rfl, hr, hb⟩
  obtain ⟨A3, c3, rfl⟩ := Kd.R_slice hr
  have HC3 := Lib.hid (Kd.R_lower hr hbb)
  have K22 := Lib.hid (blk_below K21.out hb)
  have HB2 := Lib.hid (below_step HB1.out hb)
  have HBO2 := Lib.hid (Kd.R_below HBO.out hb)
  clear hr hb hbb K21 HB1 HBO
  cases is
  case false =>
    have hE := HRE.out
    unfold rparseEnd at hE
    rw [if_neg (by simp)] at hE
    unfold noReq at hE
    simp only [Prod.mk.injEq] at hE
    obtain ⟨rfl, rfl, rfl, rfl, rfl, rfl, rfl, rfl, rfl⟩ := hE
    obtain ⟨z0, z1, z2, z3, z4, z5, z6, z7⟩ := req_cells K22.out
    obtain ⟨f0, f1, f2, f3, f4, f5, f6, f7⟩ := req_frozen K22.out
    go_wp2
    refine bodyPost_ret (results_ct rfl _ _ g2 28 #[.int .i64 0, .int .i64 0, .int .u64 0, .string ⟨#[]⟩, .int .i64 0, .int .i64 0, .int .i64 0, .slice none 0 0] (0, 0) _ rfl (put8_blk _ _ _ _ _ _ _ _ K22.out) Tryd.underlying28 rfl (by kernel_rfl)) rfl ?_
    exact ⟨.slice none 0 0, rfl, Kd.R_nil _ _ _ _ _, put8_below _ _ _ _ _ _ _ _ HB2.out hwg⟩
  by_cases hl2 : 2 ≤ ws.length
  case neg =>
    have d1 : decide ((ws.length : Int) < 2) = true := decide_eq_true (by omega)
    have hE := HRE.out
    unfold rparseEnd at hE
    rw [if_neg (by omega)] at hE
    unfold noReq at hE
    simp only [Prod.mk.injEq] at hE
    obtain ⟨rfl, rfl, rfl, rfl, rfl, rfl, rfl, rfl, rfl⟩ := hE
    obtain ⟨z0, z1, z2, z3, z4, z5, z6, z7⟩ := req_cells K22.out
    obtain ⟨f0, f1, f2, f3, f4, f5, f6, f7⟩ := req_frozen K22.out
    go_wp2
    refine bodyPost_ret (results_ct rfl _ _ g2 28 #[.int .i64 0, .int .i64 0, .int .u64 0, .string ⟨#[]⟩, .int .i64 0, .int .i64 0, .int .i64 0, .slice none 0 0] (0, 0) _ rfl (put8_blk _ _ _ _ _ _ _ _ K22.out) Tryd.underlying28 rfl (by kernel_rfl)) rfl ?_
    exact ⟨.slice none 0 0, rfl, Kd.R_nil _ _ _ _ _, put8_below _ _ _ _ _ _ _ _ HB2.out hwg⟩
  have d1 : decide ((ws.length : Int) < 2) = false := decide_eq_false (by omega)
  have K8 := Lib.hid (blk_new w2 (.cells #[.int .i64 0, .int .i64 0, .int .u64 0, .string ⟨#[]⟩, .int .i64 0, .int .i64 0, .int .i64 0, .slice AB body.length cB] 28))
  have K23 := Lib.hid (blk_alloc K22.out (.cells #[.int .i64 0, .int .i64 0, .int .u64 0, .string ⟨#[]⟩, .int .i64 0, .int .i64 0, .int .i64 0, .slice AB body.length cB] 28))
  have HB3 := Lib.hid (below_alloc HB2.out (.cells #[.int .i64 0, .int .i64 0, .int .u64 0, .string ⟨#[]⟩, .int .i64 0, .int .i64 0, .int .i64 0, .slice AB body.length cB] 28))
  have HBO3 := Lib.hid (Kd.R_alloc HBO2.out (.cells #[.int .i64 0, .int .i64 0, .int .u64 0, .string ⟨#[]⟩, .int .i64 0, .int .i64 0, .int .i64 0, .slice AB body.length cB] 28))
  have HC33 := Lib.hid (Kd.R_alloc HC3.out (.cells #[.int .i64 0, .int .i64 0, .int .u64 0, .string ⟨#[]⟩, .int .i64 0, .int .i64 0, .int .i64 0, .slice AB body.length cB] 28))
  have hlt2 := blk_lt K22.out
  have hc3 := (Kd.R_reads' HC3.out).2.1
  obtain ⟨ad, eA, _⟩ := word_at (Kd.R_reads' HC3.out).2.2 0 (by omega)
  subst eA
  go_upto_region 6 with (fail)
  obtain ⟨g8, hg8⟩ : ∃ g, w2.heap.size = g := ⟨_, rfl⟩
  rw [hg8] at K8 hlt2
  try simp only [hg8]
  clear hg8
  generalize w2.alloc (.cells #[.int .i64 0, .int .i64 0, .int .u64 0, .string ⟨#[]⟩, .int .i64 0, .int .i64 0, .int .i64 0, .slice AB body.length cB] 28) = w3 at K8 K23 HB3 HBO3 HC33 ⊢
  clear K22 HB2 HBO2 HC3 HCUT HW
  have hi0 : ((0 : Int) < (ws.length : Int)) = True := eq_true (by omega)
  have hi1 : ((1 : Int) < (ws.length : Int)) = True := eq_true (by omega)
  have hj0 : (0 < ws.length) = True := eq_true (by omega)
  have hj1 : (1 < ws.length) = True := eq_true (by omega)
  have hne : g8 ≠ g2 := by omega
  have HV0 := Lib.hid hV0
  clear hV0
  go_wp2_with fail
  go_loopg [9] 11 (fun kq v9 wr => RefLoop w W0 g2 g8 V AB cB body ad c3 ws kq v9 wr)
  case atStart => exact ⟨1, rfl, by omega, by omega, by rw [show verbAt V 1 = 0 by have := HV0.out; unfold verbAt; split <;> omega]; exact K8.out, K23.out, HB3.out, HBO3.out, HC33.out⟩
  case round =>
    clear K8 K23 HB3 HBO3 HC33
    obtain ⟨v, rfl, hv1, hvk, k8, k2, hB, hO, hC⟩ := hrel
    have K8 := Lib.hid k8
    have K2 := Lib.hid k2
    have HB := Lib.hid hB
    have HO := Lib.hid hO
    have HC := Lib.hid hC
    clear k8 k2 hB hO hC
    have hwv : wrap64 (v + 1) = v + 1 := w64 _ (by omega) (by omega)
    have HX0 := Lib.hid (word_0 (Kd.R_reads' HC.out).2.2 (by omega))
    cases gk with
    | succ k1 =>
      have d2 : decide (v ≤ 11) = true := decide_eq_true (by omega)
      have hst := HVV.out v hv1 (by omega)
      have HST := Lib.hid hst
      clear hst
      obtain ⟨q, hq⟩ : ∃ q, ((baOf (verbL v)).toList == (wdW ws 0).toList) = q := ⟨_, rfl⟩
      go_upto_region 9 with (fail)
      refine start_ (n := 6) (S := fun w' => Below wr.heap.size wr w') (ds := []) #[false, false, false, false, false, false] (by kernel_rfl) rfl rfl (below_drew (Below.refl _ _)) (fun hHeld => ?_); refine with_tabW rparse9.tab rparse9.bits (fun HT_ HW_ => ?_)
      refine pure_ (i := 0) (N := some 43) (v := ?_) (a' := ?_) #[true, false, false, false, false, false] rfl rfl (any_of HT_.out (by kernel_rfl)) (fun _ _ _ h => h) (Or.inl ⟨by rfl, ?_⟩) ?_ ?_; rotate_left; (intro w'; go_simp; with_reducible rfl); rotate_left; (simp only [Act.put, List.setIfInBounds_toArray, List.set_cons_zero, List.set_cons_succ, i64_w, i32_w]; rfl)
      refine pure_ (i := 2) (N := some 45) (v := ?_) (a' := ?_) #[true, false, true, false, false, false] rfl rfl (any_of HT_.out (by kernel_rfl)) (fun _ _ _ h => h) (Or.inl ⟨by rfl, ?_⟩) ?_ ?_; rotate_left; (intro w'; go_simp; with_reducible rfl); rotate_left; (simp only [Act.put, List.setIfInBounds_toArray, List.set_cons_zero, List.set_cons_succ, i64_w, i32_w]; rfl)
      refine pure_ (i := 3) (N := some 46) (v := ?_) (a' := ?_) #[true, false, true, true, false, false] rfl rfl (any_of HT_.out (by kernel_rfl)) (fun _ _ _ h => h) (Or.inl ⟨by rfl, ?_⟩) ?_ ?_; rotate_left; (intro w'; go_simp; with_reducible rfl); rotate_left; (simp only [Act.put, List.setIfInBounds_toArray, List.set_cons_zero, List.set_cons_succ, i64_w, i32_w]; rfl)
      refine take_ (i := 4) (N := some 47) (v := ?_) (a' := ?_) #[true, false, true, true, true, false] rfl rfl (take_ofW HT_.out HW_.out (by kernel_rfl)) (fun _ _ _ h => h) (Or.inl ⟨by rfl, ?_⟩) hHeld ?_ ?_; rotate_left; (intro w' s0; have sx := pw_cell_below s0 HX0.out; go_simp; with_reducible rfl); rotate_left; (simp only [Act.put, List.setIfInBounds_toArray, List.set_cons_zero, List.set_cons_succ, i64_w, i32_w]; rfl)
      refine one_ (i := 1) (N := some 44) #[true, true, true, true, true, false] rfl rfl (one_of HT_.out (by kernel_rfl)) (by decide) (fun K hK => ?_)
      refine goes_ Tryd.func23 (by kernel_rfl) rfl #[.int .i64 v] (by rfl) rfl rfl (by (try simp only [List.map_toArray, List.map_cons, List.map_nil]); first | done | rfl) ?_
      (with_reducible refine (jalousieref21_Word.calls v (baOf (verbL v)) _ (ref_Word_tells v)).mono ?_)
      rintro e w4 ⟨rfl, hb⟩
      refine ⟨_, rfl, ?_⟩
      have HBW := Lib.hid (below_step (below_drew (Below.refl _ _)) hb)
      clear hb
      refine hK.out _ _ (HBW.out) (fun hHeld => ?_); clear hK K; refine norm_ (a' := ?_) ?_ ?_; rotate_left; (show Act.put _ (some 44) _ = _; (simp only [Act.put, List.setIfInBounds_toArray, List.set_cons_zero, List.set_cons_succ, i64_w, i32_w]; rfl))
      refine pure_ (i := 5) (N := some 48) (v := ?_) (a' := ?_) #[true, true, true, true, true, true] rfl rfl (any_of HT_.out (by kernel_rfl)) (fun _ _ _ h => h) (Or.inl ⟨by rfl, ?_⟩) ?_ ?_; rotate_left; (intro w'; go_simp; with_reducible rfl); rotate_left; (simp only [Act.put, List.setIfInBounds_toArray, List.set_cons_zero, List.set_cons_succ, i64_w, i32_w]; rfl)
      refine done_ (done_of HT_.out (by kernel_rfl)) ?_
      have K84 := Lib.hid (blk_below K8.out HBW.out)
      have K24 := Lib.hid (blk_below K2.out HBW.out)
      have HB4 := Lib.hid (below_step HB.out HBW.out)
      have HO4 := Lib.hid (Kd.R_below HO.out HBW.out)
      have HC4 := Lib.hid (Kd.R_below HC.out HBW.out)
      clear K8 K2 HB HO HC HX0 HBW
      have q0 := (blk_cell K84.out 0).trans rfl
      have qf := blk_frozen K84.out 0
      by_cases e : baOf (verbL v) = wdW ws 0
      · obtain rfl : true = q := by rw [← hq, e]; simp
        have E := Lib.hid e
        clear e
        go_wp2
        go_roundg k1
        case measure => omega
        case rel => exact ⟨v + 1, rfl, by omega, by omega, blk_put K84.out 0 (.int .i64 v) (by have := HST.out; rw [if_pos E.out] at this; rw [← this]; rfl), blk_far K24.out (show g2 ≠ g8 by omega) _, below_set HB4.out (by omega), Kd.R_set HO4.out K84.out (by decide) 0 _, Kd.R_set HC4.out K84.out (by decide) 0 _⟩
      · obtain rfl : false = q := by rw [← hq]; exact (beq_eq_false_iff_ne.2 (fun h => e (toList_inj h))).symm
        have E := Lib.hid e
        clear e
        go_wp2
        go_roundg k1
        case measure => omega
        case rel => exact ⟨v + 1, rfl, by omega, by omega, by have := HST.out; rw [if_neg E.out] at this; rw [← this]; exact K84.out, K24.out, HB4.out, HO4.out, HC4.out⟩
    | zero =>
      have d2 : decide (v ≤ 11) = false := decide_eq_false (by omega)
      have hVe : verbAt V v = V := by have := HV0.out; unfold verbAt; rw [if_pos (by omega)]
      rw [hVe] at K8
      clear hVe
      have q0 := (blk_cell K8.out 0).trans rfl
      by_cases hV : V = 0
      · have b2 : (V == 0) = true := beq_iff_eq.2 hV
        have hE := HRE.out
        unfold rparseEnd at hE
        rw [if_neg (by omega)] at hE
        unfold noReq at hE
        simp only [Prod.mk.injEq] at hE
        obtain ⟨rfl, rfl, rfl, rfl, rfl, rfl, rfl, rfl, rfl⟩ := hE
        obtain ⟨z0, z1, z2, z3, z4, z5, z6, z7⟩ := req_cells K2.out
        obtain ⟨f0, f1, f2, f3, f4, f5, f6, f7⟩ := req_frozen K2.out
        go_wp2
        refine bodyPost_ret (results_ct rfl _ _ g2 28 #[.int .i64 0, .int .i64 0, .int .u64 0, .string ⟨#[]⟩, .int .i64 0, .int .i64 0, .int .i64 0, .slice none 0 0] (0, 0) _ rfl (put8_blk _ _ _ _ _ _ _ _ K2.out) Tryd.underlying28 rfl (by kernel_rfl)) rfl ?_
        exact ⟨.slice none 0 0, rfl, Kd.R_nil _ _ _ _ _, put8_below _ _ _ _ _ _ _ _ HB.out hwg⟩
      have b2 : (V == 0) = false := beq_eq_false_iff_ne.2 hV
      obtain ⟨ad', e', hx1⟩ := word_at (Kd.R_reads' HC.out).2.2 1 (by omega)
      obtain rfl := Option.some.inj e'
      clear e'
      have hx1b : wr.cell? ⟨ad.block, ad.off + 1, none⟩ = some (.string (wdW ws 1)) := hx1
      go_wp2_with fail
      (with_reducible refine (jalousieref02_Parse.calls kl (wdW ws 1) lab cats fine wr HLB.out).mono ?_)
      rintro e w5 ⟨rfl, hb⟩
      have K85 := Lib.hid (blk_below K8.out hb)
      have K25 := Lib.hid (blk_below K2.out hb)
      have HB5 := Lib.hid (below_step HB.out hb)
      have HO5 := Lib.hid (Kd.R_below HO.out hb)
      have HC5 := Lib.hid (Kd.R_below HC.out hb)
      have HVn := Lib.hid hV
      clear hb K8 K2 HB HO HC hx1 hx1b q0 HX0 hi0 hi1 hj0 hj1 hV b2 d2 hvk hv1 hwv
      go_upto_region 14 with (fail)
      have KL := Lib.hid (blk_new w5 (.cells #[.int .i64 lab, .int .u64 cats] 26))
      have K86 := Lib.hid (blk_alloc K85.out (.cells #[.int .i64 lab, .int .u64 cats] 26))
      have K26 := Lib.hid (blk_alloc K25.out (.cells #[.int .i64 lab, .int .u64 cats] 26))
      have HB6 := Lib.hid (below_alloc HB5.out (.cells #[.int .i64 lab, .int .u64 cats] 26))
      have HO6 := Lib.hid (Kd.R_alloc HO5.out (.cells #[.int .i64 lab, .int .u64 cats] 26))
      have HC6 := Lib.hid (Kd.R_alloc HC5.out (.cells #[.int .i64 lab, .int .u64 cats] 26))
      have hlt5 := blk_lt K85.out
      obtain ⟨gl, hgl⟩ : ∃ g, w5.heap.size = g := ⟨_, rfl⟩
      rw [hgl] at KL hlt5
      try simp only [hgl]
      clear hgl
      generalize w5.alloc (.cells #[.int .i64 lab, .int .u64 cats] 26) = w6 at KL K86 K26 HB6 HO6 HC6 ⊢
      clear K85 K25 HB5 HO5 HC5
      have hnl : g8 ≠ gl := by omega
      have hnl2 : gl ≠ g8 := by omega
      have l0 := (blk_cell KL.out 0).trans rfl
      have l1 := (blk_cell KL.out 1).trans rfl
      obtain ⟨q0, q1, q2, q3, q4, q5, q6, q7⟩ := req_cells K86.out
      obtain ⟨f0, f1, f2, f3, f4, f5, f6, f7⟩ := req_frozen K86.out
      go_upto_region 15 with (fail)
      have K87 := Lib.hid (blk_put (blk_put K86.out 1 (.int .i64 lab) rfl) 2 (.int .u64 cats) rfl)
      have K27 := Lib.hid (blk_far (blk_far K26.out (p := ⟨g8, 1, none⟩) (show g2 ≠ g8 by omega) (.int .i64 lab)) (p := ⟨g8, 2, none⟩) (show g2 ≠ g8 by omega) (.int .u64 cats))
      have HB7 := Lib.hid (below_set (g := g8) (j := 2) (v := .int .u64 cats) (below_set (g := g8) (j := 1) (v := .int .i64 lab) HB6.out (by omega)) (by omega))
      have K861 := blk_put K86.out 1 (.int .i64 lab) rfl
      have HO7 := Lib.hid (Kd.R_set (Kd.R_set HO6.out K86.out (by decide) 1 (.int .i64 lab)) K861 (by decide) 2 (.int .u64 cats))
      have HC7 := Lib.hid (Kd.R_set (Kd.R_set HC6.out K86.out (by decide) 1 (.int .i64 lab)) K861 (by decide) 2 (.int .u64 cats))
      simp only [List.setIfInBounds_toArray, List.set_cons_zero, List.set_cons_succ] at K87
      generalize (w6.setCell ⟨g8, 1, none⟩ (.int .i64 lab)).setCell ⟨g8, 2, none⟩ (.int .u64 cats) = w7 at K87 K27 HB7 HO7 HC7 ⊢
      clear KL K86 K861 K26 HB6 HO6 HC6 l0 l1 q0 q1 q2 q3 q4 q5 q6 q7 f0 f1 f2 f3 f4 f5 f6 f7 hnl hnl2
      have q0 := (blk_cell K87.out 0).trans rfl
      go_wp2_with fail
      (with_reducible refine (jalousieref21_Names.calls 2 V fl (n : Int) fz w7 HNM.out).mono ?_)
      rintro e w' ⟨rfl, ⟨nd, rfl⟩⟩
      have K88 := Lib.hid (blk_drewN K87.out nd)
      have K28 := Lib.hid (blk_drewN K27.out nd)
      have HB8 := Lib.hid (pw_below_drewN HB7.out nd)
      have HO8 := Lib.hid (Kd.R_drewN HO7.out nd)
      have HC8 := Lib.hid (Kd.R_drewN HC7.out nd)
      generalize w7.drewN nd = w8 at K88 K28 HB8 HO8 HC8 ⊢
      clear K87 K27 HB7 HO7 HC7 q0
      cases fl
      case false =>
        have eK : kW false = 2 := rfl
        by_cases hlen : ws.length = 2 + n
        case neg =>
          have d3 : ((ws.length : Int) != 2 + (n : Int)) = true := ne_2n ws.length n hlen
          have d4 : ((ws.length : Int) == 2 + (n : Int)) = false := by simpa using d3
          have hng := Lib.hid (show ¬ ws.length = kW false + n by rw [eK]; exact hlen)
          have hwn := wrap_2n n hn
          clear hlen hne hlt2 hlt5 hl2 hn
          cases fine
          all_goals
            have hE := HRE.out
            unfold rparseEnd at hE
            rw [if_neg (fun h => hng.out h.2.2.2.2)] at hE
            unfold noReq at hE
            simp only [Prod.mk.injEq] at hE
            obtain ⟨rfl, rfl, rfl, rfl, rfl, rfl, rfl, rfl, rfl⟩ := hE
            obtain ⟨z0, z1, z2, z3, z4, z5, z6, z7⟩ := req_cells K28.out
            obtain ⟨f0, f1, f2, f3, f4, f5, f6, f7⟩ := req_frozen K28.out
            go_wp2
            refine bodyPost_ret (results_ct rfl _ _ g2 28 #[.int .i64 0, .int .i64 0, .int .u64 0, .string ⟨#[]⟩, .int .i64 0, .int .i64 0, .int .i64 0, .slice none 0 0] (0, 0) _ rfl (put8_blk _ _ _ _ _ _ _ _ K28.out) Tryd.underlying28 rfl (by kernel_rfl)) rfl ?_
            exact ⟨.slice none 0 0, rfl, Kd.R_nil _ _ _ _ _, put8_below _ _ _ _ _ _ _ _ HB8.out hwg⟩
        have d3 : ((ws.length : Int) != 2 + (n : Int)) = false := eq_2n ws.length n hlen
        have hwn := wrap_2n n hn
        cases fine
        case false =>
          have hE := HRE.out
          unfold rparseEnd at hE
          rw [if_neg (by simp)] at hE
          unfold noReq at hE
          simp only [Prod.mk.injEq] at hE
          obtain ⟨rfl, rfl, rfl, rfl, rfl, rfl, rfl, rfl, rfl⟩ := hE
          obtain ⟨z0, z1, z2, z3, z4, z5, z6, z7⟩ := req_cells K28.out
          obtain ⟨f0, f1, f2, f3, f4, f5, f6, f7⟩ := req_frozen K28.out
          go_wp2
          refine bodyPost_ret (results_ct rfl _ _ g2 28 #[.int .i64 0, .int .i64 0, .int .u64 0, .string ⟨#[]⟩, .int .i64 0, .int .i64 0, .int .i64 0, .slice none 0 0] (0, 0) _ rfl (put8_blk _ _ _ _ _ _ _ _ K28.out) Tryd.underlying28 rfl (by kernel_rfl)) rfl ?_
          exact ⟨.slice none 0 0, rfl, Kd.R_nil _ _ _ _ _, put8_below _ _ _ _ _ _ _ _ HB8.out hwg⟩
        have hE := HRE.out
        unfold rparseEnd at hE
        rw [if_pos ⟨rfl, hl2, HVn.out, rfl, by rw [eK]; exact hlen⟩, eK] at hE
        have HE := Lib.hid hE
        clear hE HRE eK
        obtain ⟨F, hF⟩ : ∃ F, fileW ws false = F := ⟨_, rfl⟩
        rw [hF] at HE HCK
        obtain ⟨NR, hNR⟩ : ∃ NR, numsR ws 2 n 0 0 0 0 = NR := ⟨_, rfl⟩
        rw [hNR] at HE
        have HNR := Lib.hid hNR
        clear hNR d3
        obtain rfl : ⟨#[]⟩ = F := hF
        go_upto_region 23 with (fail)
        have K89 := K88
        have K29 := K28
        have HB9 := HB8
        have HO9 := HO8
        have HC9 := HC8
        obtain ⟨w9, hw9⟩ : ∃ w9, w8 = w9 := ⟨_, rfl⟩
        rw [hw9] at K89 K29 HB9 HO9 HC9 ⊢
        clear K88 K28 HB8 HO8 HC8 hw9
        go_upto_region 24 with (fail)
        clear hwn
        have KA := Lib.hid (blk_new w9 (.cells #[.int .i64 0, .int .i64 0, .int .i64 0] 62))
        have K80 := Lib.hid (blk_alloc K89.out (.cells #[.int .i64 0, .int .i64 0, .int .i64 0] 62))
        have K20 := Lib.hid (blk_alloc K29.out (.cells #[.int .i64 0, .int .i64 0, .int .i64 0] 62))
        have HB10 := Lib.hid (below_alloc HB9.out (.cells #[.int .i64 0, .int .i64 0, .int .i64 0] 62))
        have HO10 := Lib.hid (Kd.R_alloc HO9.out (.cells #[.int .i64 0, .int .i64 0, .int .i64 0] 62))
        have HC10 := Lib.hid (Kd.R_alloc HC9.out (.cells #[.int .i64 0, .int .i64 0, .int .i64 0] 62))
        have hlt9 := blk_lt K89.out
        obtain ⟨ga, hga⟩ : ∃ g, w9.heap.size = g := ⟨_, rfl⟩
        rw [hga] at KA hlt9
        try simp only [hga]
        clear hga
        generalize w9.alloc (.cells #[.int .i64 0, .int .i64 0, .int .i64 0] 62) = w10 at KA K80 K20 HB10 HO10 HC10 ⊢
        clear K89 K29 HB9 HO9 HC9
        have hna : g8 ≠ ga := by omega
        have hna2 : ga ≠ g8 := by omega
        go_wp2_with fail
        go_loopg [17] n (fun kq v17 wr => RefLoop2 w W0 g2 g8 ga V lab cats ⟨#[]⟩ AB cB body ad c3 ws 2 n NR kq v17 wr)
        case atStart => exact ⟨0, 0, 0, 0, 0, rfl, rfl, by omega, KA.out, K80.out, K20.out, HB10.out, HO10.out, HC10.out, HNR.out⟩
        case round =>
          clear KA K80 K20 HB10 HO10 HC10 HNR
          obtain ⟨i, v, a, b, c, rfl, hvi, hik, ka, k8, k2, hB, hO, hC, hN⟩ := hrel
          have KA := Lib.hid ka
          have K8 := Lib.hid k8
          have K2 := Lib.hid k2
          have HB := Lib.hid hB
          have HO := Lib.hid hO
          have HC := Lib.hid hC
          have HN := Lib.hid hN
          clear ka k8 k2 hB hO hC hN
          have hnlen : ws.length = 2 + n := hlen
          cases gk with
          | succ k1 =>
            have hi3 : i = 0 ∨ i = 1 ∨ i = 2 := by omega
            rcases hi3 with rfl | rfl | rfl
            · obtain rfl : v = 0 := by simpa using hvi
              have d5 : decide ((0 : Int) < (n : Int)) = true := decide_eq_true (by omega)
              obtain ⟨x, ok, hx⟩ : ∃ x ok, numOf (wdW ws 2) = (x, ok) := ⟨_, _, rfl⟩
              have hNb := Lib.hid (show jalousieref01_Number.f 13 (wdW ws 2) = some (x, ok) by rw [ref_Number_tells, hx])
              have hNN : (if ok = true then numsR ws 2 k1 1 x b c else none) = NR := by
                have h := HN.out
                simp [numsR, hx] at h
                exact h
              have HNN := Lib.hid hNN
              obtain ⟨ad', e', hxw⟩ := word_at (Kd.R_reads' HC.out).2.2 2 (by omega)
              obtain rfl := Option.some.inj e'
              clear e'
              have hxb : wr.cell? ⟨ad.block, ad.off + 2, none⟩ = some (.string (wdW ws 2)) := hxw
              have hi2 : ((2 : Int) < (ws.length : Int)) = True := eq_true (by omega)
              have hj2 : (2 < ws.length) = True := eq_true (by omega)
              clear hNN hxw hvi hx hlen
              go_wp2_with fail
              (with_reducible refine (jalousieref01_Number.calls 13 (wdW ws 2) x ok wr hNb.out).mono ?_)
              rintro e w' ⟨rfl, ⟨nd, rfl⟩⟩
              have KA1 := Lib.hid (blk_drewN KA.out nd)
              have K81 := Lib.hid (blk_drewN K8.out nd)
              have K21 := Lib.hid (blk_drewN K2.out nd)
              have HB1 := Lib.hid (pw_below_drewN HB.out nd)
              have HO1 := Lib.hid (Kd.R_drewN HO.out nd)
              have HC1 := Lib.hid (Kd.R_drewN HC.out nd)
              generalize wr.drewN nd = w1 at KA1 K81 K21 HB1 HO1 HC1 ⊢
              clear KA K8 K2 HB HO HC hxb hi2 hj2
              cases ok
              case false =>
                have hE := HE.out
                rw [← HNN.out, if_neg (by decide)] at hE
                simp only [rparseLast] at hE
                unfold noReq at hE
                simp only [Prod.mk.injEq] at hE
                obtain ⟨rfl, rfl, rfl, rfl, rfl, rfl, rfl, rfl, rfl⟩ := hE
                obtain ⟨z0, z1, z2, z3, z4, z5, z6, z7⟩ := req_cells K21.out
                obtain ⟨f0, f1, f2, f3, f4, f5, f6, f7⟩ := req_frozen K21.out
                clear hik hnlen
                go_wp2
                refine bodyPost_ret (results_ct rfl _ _ g2 28 #[.int .i64 0, .int .i64 0, .int .u64 0, .string ⟨#[]⟩, .int .i64 0, .int .i64 0, .int .i64 0, .slice none 0 0] (0, 0) _ rfl (put8_blk _ _ _ _ _ _ _ _ K21.out) Tryd.underlying28 rfl (by kernel_rfl)) rfl ?_
                exact ⟨.slice none 0 0, rfl, Kd.R_nil _ _ _ _ _, put8_below _ _ _ _ _ _ _ _ HB1.out hwg⟩
              case true =>
                have a0 := (blk_cell KA1.out 0).trans rfl
                have af := blk_frozen KA1.out 0
                go_wp2
                go_roundg k1
                case measure => omega
                case rel => exact ⟨1, 1, x, b, c, rfl, rfl, by omega, blk_put KA1.out 0 (.int .i64 x) rfl, blk_far K81.out (show g8 ≠ ga by omega) _, blk_far K21.out (show g2 ≠ ga by omega) _, below_set HB1.out (by omega), Kd.R_set HO1.out KA1.out (by decide) 0 _, Kd.R_set HC1.out KA1.out (by decide) 0 _, by have := HNN.out; simpa using this⟩
            · obtain rfl : v = 1 := by simpa using hvi
              have d5 : decide ((1 : Int) < (n : Int)) = true := decide_eq_true (by omega)
              obtain ⟨x, ok, hx⟩ : ∃ x ok, numOf (wdW ws 3) = (x, ok) := ⟨_, _, rfl⟩
              have hNb := Lib.hid (show jalousieref01_Number.f 13 (wdW ws 3) = some (x, ok) by rw [ref_Number_tells, hx])
              have hNN : (if ok = true then numsR ws 2 k1 2 a x c else none) = NR := by
                have h := HN.out
                simp [numsR, hx] at h
                exact h
              have HNN := Lib.hid hNN
              obtain ⟨ad', e', hxw⟩ := word_at (Kd.R_reads' HC.out).2.2 3 (by omega)
              obtain rfl := Option.some.inj e'
              clear e'
              have hxb : wr.cell? ⟨ad.block, ad.off + 3, none⟩ = some (.string (wdW ws 3)) := hxw
              have hi2 : ((3 : Int) < (ws.length : Int)) = True := eq_true (by omega)
              have hj2 : (3 < ws.length) = True := eq_true (by omega)
              clear hNN hxw hvi hx hlen
              go_wp2_with fail
              (with_reducible refine (jalousieref01_Number.calls 13 (wdW ws 3) x ok wr hNb.out).mono ?_)
              rintro e w' ⟨rfl, ⟨nd, rfl⟩⟩
              have KA1 := Lib.hid (blk_drewN KA.out nd)
              have K81 := Lib.hid (blk_drewN K8.out nd)
              have K21 := Lib.hid (blk_drewN K2.out nd)
              have HB1 := Lib.hid (pw_below_drewN HB.out nd)
              have HO1 := Lib.hid (Kd.R_drewN HO.out nd)
              have HC1 := Lib.hid (Kd.R_drewN HC.out nd)
              generalize wr.drewN nd = w1 at KA1 K81 K21 HB1 HO1 HC1 ⊢
              clear KA K8 K2 HB HO HC hxb hi2 hj2
              cases ok
              case false =>
                have hE := HE.out
                rw [← HNN.out, if_neg (by decide)] at hE
                simp only [rparseLast] at hE
                unfold noReq at hE
                simp only [Prod.mk.injEq] at hE
                obtain ⟨rfl, rfl, rfl, rfl, rfl, rfl, rfl, rfl, rfl⟩ := hE
                obtain ⟨z0, z1, z2, z3, z4, z5, z6, z7⟩ := req_cells K21.out
                obtain ⟨f0, f1, f2, f3, f4, f5, f6, f7⟩ := req_frozen K21.out
                clear hik hnlen
                go_wp2
                refine bodyPost_ret (results_ct rfl _ _ g2 28 #[.int .i64 0, .int .i64 0, .int .u64 0, .string ⟨#[]⟩, .int .i64 0, .int .i64 0, .int .i64 0, .slice none 0 0] (0, 0) _ rfl (put8_blk _ _ _ _ _ _ _ _ K21.out) Tryd.underlying28 rfl (by kernel_rfl)) rfl ?_
                exact ⟨.slice none 0 0, rfl, Kd.R_nil _ _ _ _ _, put8_below _ _ _ _ _ _ _ _ HB1.out hwg⟩
              case true =>
                have a0 := (blk_cell KA1.out 1).trans rfl
                have af := blk_frozen KA1.out 1
                go_wp2
                go_roundg k1
                case measure => omega
                case rel => exact ⟨2, 2, a, x, c, rfl, rfl, by omega, blk_put KA1.out 1 (.int .i64 x) rfl, blk_far K81.out (show g8 ≠ ga by omega) _, blk_far K21.out (show g2 ≠ ga by omega) _, below_set HB1.out (by omega), Kd.R_set HO1.out KA1.out (by decide) 1 _, Kd.R_set HC1.out KA1.out (by decide) 1 _, by have := HNN.out; simpa using this⟩
            · obtain rfl : v = 2 := by simpa using hvi
              have d5 : decide ((2 : Int) < (n : Int)) = true := decide_eq_true (by omega)
              obtain ⟨x, ok, hx⟩ : ∃ x ok, numOf (wdW ws 4) = (x, ok) := ⟨_, _, rfl⟩
              have hNb := Lib.hid (show jalousieref01_Number.f 13 (wdW ws 4) = some (x, ok) by rw [ref_Number_tells, hx])
              have hNN : (if ok = true then numsR ws 2 k1 3 a b x else none) = NR := by
                have h := HN.out
                simp [numsR, hx] at h
                exact h
              have HNN := Lib.hid hNN
              obtain ⟨ad', e', hxw⟩ := word_at (Kd.R_reads' HC.out).2.2 4 (by omega)
              obtain rfl := Option.some.inj e'
              clear e'
              have hxb : wr.cell? ⟨ad.block, ad.off + 4, none⟩ = some (.string (wdW ws 4)) := hxw
              have hi2 : ((4 : Int) < (ws.length : Int)) = True := eq_true (by omega)
              have hj2 : (4 < ws.length) = True := eq_true (by omega)
              clear hNN hxw hvi hx hlen
              go_wp2_with fail
              (with_reducible refine (jalousieref01_Number.calls 13 (wdW ws 4) x ok wr hNb.out).mono ?_)
              rintro e w' ⟨rfl, ⟨nd, rfl⟩⟩
              have KA1 := Lib.hid (blk_drewN KA.out nd)
              have K81 := Lib.hid (blk_drewN K8.out nd)
              have K21 := Lib.hid (blk_drewN K2.out nd)
              have HB1 := Lib.hid (pw_below_drewN HB.out nd)
              have HO1 := Lib.hid (Kd.R_drewN HO.out nd)
              have HC1 := Lib.hid (Kd.R_drewN HC.out nd)
              generalize wr.drewN nd = w1 at KA1 K81 K21 HB1 HO1 HC1 ⊢
              clear KA K8 K2 HB HO HC hxb hi2 hj2
              cases ok
              case false =>
                have hE := HE.out
                rw [← HNN.out, if_neg (by decide)] at hE
                simp only [rparseLast] at hE
                unfold noReq at hE
                simp only [Prod.mk.injEq] at hE
                obtain ⟨rfl, rfl, rfl, rfl, rfl, rfl, rfl, rfl, rfl⟩ := hE
                obtain ⟨z0, z1, z2, z3, z4, z5, z6, z7⟩ := req_cells K21.out
                obtain ⟨f0, f1, f2, f3, f4, f5, f6, f7⟩ := req_frozen K21.out
                clear hik hnlen
                go_wp2
                refine bodyPost_ret (results_ct rfl _ _ g2 28 #[.int .i64 0, .int .i64 0, .int .u64 0, .string ⟨#[]⟩, .int .i64 0, .int .i64 0, .int .i64 0, .slice none 0 0] (0, 0) _ rfl (put8_blk _ _ _ _ _ _ _ _ K21.out) Tryd.underlying28 rfl (by kernel_rfl)) rfl ?_
                exact ⟨.slice none 0 0, rfl, Kd.R_nil _ _ _ _ _, put8_below _ _ _ _ _ _ _ _ HB1.out hwg⟩
              case true =>
                have a0 := (blk_cell KA1.out 2).trans rfl
                have af := blk_frozen KA1.out 2
                go_wp2
                go_roundg k1
                case measure => omega
                case rel => exact ⟨3, 3, a, b, x, rfl, rfl, by omega, blk_put KA1.out 2 (.int .i64 x) rfl, blk_far K81.out (show g8 ≠ ga by omega) _, blk_far K21.out (show g2 ≠ ga by omega) _, below_set HB1.out (by omega), Kd.R_set HO1.out KA1.out (by decide) 2 _, Kd.R_set HC1.out KA1.out (by decide) 2 _, by have := HNN.out; simpa using this⟩
          | zero =>
            have d5 : decide (v < (n : Int)) = false := decide_eq_false (by omega)
            have hNN := HN.out
            simp only [numsR] at hNN
            have hE := HE.out
            rw [← hNN] at hE
            simp only [rparseLast] at hE
            unfold endW at hE
            have HE1 := Lib.hid hE
            clear hNN hE hvi hik
            have a0 := (blk_cell KA.out 0).trans rfl
            have a1 := (blk_cell KA.out 1).trans rfl
            have a2 := (blk_cell KA.out 2).trans rfl
            obtain ⟨q0, q1, q2, q3, q4, q5, q6, q7⟩ := req_cells K8.out
            obtain ⟨f0, f1, f2, f3, f4, f5, f6, f7⟩ := req_frozen K8.out
            go_upto_region 34 with (fail)
            have K81 := blk_put K8.out 4 (.int .i64 a) rfl
            have K82 := blk_put K81 5 (.int .i64 b) rfl
            have K83 := Lib.hid (blk_put K82 6 (.int .i64 c) rfl)
            have K23 := Lib.hid (blk_far (blk_far (blk_far K2.out (p := ⟨g8, 4, none⟩) (show g2 ≠ g8 by omega) (.int .i64 a)) (p := ⟨g8, 5, none⟩) (show g2 ≠ g8 by omega) (.int .i64 b)) (p := ⟨g8, 6, none⟩) (show g2 ≠ g8 by omega) (.int .i64 c))
            have HB3 := Lib.hid (below_set (g := g8) (j := 6) (v := .int .i64 c) (below_set (g := g8) (j := 5) (v := .int .i64 b) (below_set (g := g8) (j := 4) (v := .int .i64 a) HB.out (by omega)) (by omega)) (by omega))
            have HO3 := Lib.hid (Kd.R_set (Kd.R_set (Kd.R_set HO.out K8.out (by decide) 4 (.int .i64 a)) K81 (by decide) 5 (.int .i64 b)) K82 (by decide) 6 (.int .i64 c))
            simp only [List.setIfInBounds_toArray, List.set_cons_zero, List.set_cons_succ] at K83
            generalize ((wr.setCell ⟨g8, 4, none⟩ (.int .i64 a)).setCell ⟨g8, 5, none⟩ (.int .i64 b)).setCell ⟨g8, 6, none⟩ (.int .i64 c) = w3 at K83 K23 HB3 HO3 ⊢
            clear KA K8 K81 K82 K2 HB HO HC a0 a1 a2 q0 q1 q2 q3 q4 q5 q6 q7 f0 f1 f2 f3 f4 f5 f6 f7
            obtain ⟨q0, q1, q2, q3, q4, q5, q6, q7⟩ := req_cells K83.out
            go_wp2_with fail
            (with_reducible refine (jalousieref21_Check.calls V lab cats ⟨#[]⟩ a b c AB cB body _ w3 (Kd.R_reads' HO3.out).2.2 (Kd.R_reads' HO3.out).2.1 (HCK.out a b c)).mono ?_)
            rintro e w4 ⟨rfl, hb⟩
            have K84 := Lib.hid (blk_below K83.out hb)
            have K24 := Lib.hid (blk_below K23.out hb)
            have HB4 := Lib.hid (below_step HB3.out hb)
            have HO4 := Lib.hid (Kd.R_below HO3.out hb)
            clear hb K83 K23 HB3 HO3 q0 q1 q2 q3 q4 q5 q6 q7
            obtain ⟨er, her⟩ : ∃ er, checkR V lab ⟨#[]⟩ a b c body.length = er := ⟨_, rfl⟩
            rw [her] at HE1 ⊢
            clear her
            obtain ⟨q0, q1, q2, q3, q4, q5, q6, q7⟩ := req_cells K84.out
            obtain ⟨z0, z1, z2, z3, z4, z5, z6, z7⟩ := req_cells K24.out
            obtain ⟨f0, f1, f2, f3, f4, f5, f6, f7⟩ := req_frozen K24.out
            by_cases he : er = 0
            · subst he
              have hE := HE1.out
              rw [if_pos rfl] at hE
              simp only [Prod.mk.injEq] at hE
              obtain ⟨rfl, rfl, rfl, rfl, rfl, rfl, rfl, rfl, rfl⟩ := hE
              go_wp2
              refine bodyPost_ret (results_ct rfl _ _ g2 28 #[.int .i64 V, .int .i64 lab, .int .u64 cats, .string ⟨#[]⟩, .int .i64 a, .int .i64 b, .int .i64 c, .slice AB body.length cB] (0, 0) _ rfl (put8_blk _ _ _ _ _ _ _ _ K24.out) Tryd.underlying28 rfl (by kernel_rfl)) rfl ?_
              exact ⟨.slice AB body.length cB, rfl, Kd.R_lower (R_set (R_set (R_set (R_set (R_set (R_set (R_set (R_set HO4.out hgb.out _ _) hgb.out _ _) hgb.out _ _) hgb.out _ _) hgb.out _ _) hgb.out _ _) hgb.out _ _) hgb.out _ _) hbw.out, put8_below _ _ _ _ _ _ _ _ HB4.out hwg⟩
            · have b1 : (er != 0) = true := bne_iff_ne.2 he
              have b2 : (er == 0) = false := beq_eq_false_iff_ne.2 he
              have hE := HE1.out
              rw [if_neg he] at hE
              unfold noReq at hE
              simp only [Prod.mk.injEq] at hE
              obtain ⟨rfl, rfl, rfl, rfl, rfl, rfl, rfl, rfl, rfl⟩ := hE
              go_wp2
              refine bodyPost_ret (results_ct rfl _ _ g2 28 #[.int .i64 0, .int .i64 0, .int .u64 0, .string ⟨#[]⟩, .int .i64 0, .int .i64 0, .int .i64 0, .slice none 0 0] (0, 0) _ rfl (put8_blk _ _ _ _ _ _ _ _ K24.out) Tryd.underlying28 rfl (by kernel_rfl)) rfl ?_
              exact ⟨.slice none 0 0, rfl, Kd.R_nil _ _ _ _ _, put8_below _ _ _ _ _ _ _ _ HB4.out hwg⟩
      case true =>
        have eK : kW true = 3 := rfl
        by_cases hlen : ws.length = 3 + n
        case neg =>
          have d3 : ((ws.length : Int) != 3 + (n : Int)) = true := ne_3n ws.length n hlen
          have d4 : ((ws.length : Int) == 3 + (n : Int)) = false := by simpa using d3
          have hng := Lib.hid (show ¬ ws.length = kW true + n by rw [eK]; exact hlen)
          have hwn := wrap_3n n hn
          clear hlen hne hlt2 hlt5 hl2 hn
          cases fine
          all_goals
            have hE := HRE.out
            unfold rparseEnd at hE
            rw [if_neg (fun h => hng.out h.2.2.2.2)] at hE
            unfold noReq at hE
            simp only [Prod.mk.injEq] at hE
            obtain ⟨rfl, rfl, rfl, rfl, rfl, rfl, rfl, rfl, rfl⟩ := hE
            obtain ⟨z0, z1, z2, z3, z4, z5, z6, z7⟩ := req_cells K28.out
            obtain ⟨f0, f1, f2, f3, f4, f5, f6, f7⟩ := req_frozen K28.out
            go_wp2
            refine bodyPost_ret (results_ct rfl _ _ g2 28 #[.int .i64 0, .int .i64 0, .int .u64 0, .string ⟨#[]⟩, .int .i64 0, .int .i64 0, .int .i64 0, .slice none 0 0] (0, 0) _ rfl (put8_blk _ _ _ _ _ _ _ _ K28.out) Tryd.underlying28 rfl (by kernel_rfl)) rfl ?_
            exact ⟨.slice none 0 0, rfl, Kd.R_nil _ _ _ _ _, put8_below _ _ _ _ _ _ _ _ HB8.out hwg⟩
        have d3 : ((ws.length : Int) != 3 + (n : Int)) = false := eq_3n ws.length n hlen
        have hwn := wrap_3n n hn
        cases fine
        case false =>
          have hE := HRE.out
          unfold rparseEnd at hE
          rw [if_neg (by simp)] at hE
          unfold noReq at hE
          simp only [Prod.mk.injEq] at hE
          obtain ⟨rfl, rfl, rfl, rfl, rfl, rfl, rfl, rfl, rfl⟩ := hE
          obtain ⟨z0, z1, z2, z3, z4, z5, z6, z7⟩ := req_cells K28.out
          obtain ⟨f0, f1, f2, f3, f4, f5, f6, f7⟩ := req_frozen K28.out
          go_wp2
          refine bodyPost_ret (results_ct rfl _ _ g2 28 #[.int .i64 0, .int .i64 0, .int .u64 0, .string ⟨#[]⟩, .int .i64 0, .int .i64 0, .int .i64 0, .slice none 0 0] (0, 0) _ rfl (put8_blk _ _ _ _ _ _ _ _ K28.out) Tryd.underlying28 rfl (by kernel_rfl)) rfl ?_
          exact ⟨.slice none 0 0, rfl, Kd.R_nil _ _ _ _ _, put8_below _ _ _ _ _ _ _ _ HB8.out hwg⟩
        have hE := HRE.out
        unfold rparseEnd at hE
        rw [if_pos ⟨rfl, hl2, HVn.out, rfl, by rw [eK]; exact hlen⟩, eK] at hE
        have HE := Lib.hid hE
        clear hE HRE eK
        obtain ⟨F, hF⟩ : ∃ F, fileW ws true = F := ⟨_, rfl⟩
        rw [hF] at HE HCK
        obtain ⟨NR, hNR⟩ : ∃ NR, numsR ws 3 n 0 0 0 0 = NR := ⟨_, rfl⟩
        rw [hNR] at HE
        have HNR := Lib.hid hNR
        clear hNR d3
        have hF2 : wdW ws 2 = F := hF
        obtain ⟨ad', e', hx2⟩ := word_at (Kd.R_reads' HC8.out).2.2 2 (by omega)
        obtain rfl := Option.some.inj e'
        clear e'
        rw [hF2] at hx2
        have hx2b : w8.cell? ⟨ad.block, ad.off + 2, none⟩ = some (.string F) := hx2
        have hi2 : ((2 : Int) < (ws.length : Int)) = True := eq_true (by omega)
        have hj2 : (2 < ws.length) = True := eq_true (by omega)
        have q3 := (blk_cell K88.out 3).trans rfl
        have qf3 := blk_frozen K88.out 3
        go_upto_region 23 with (fail)
        have K89 := Lib.hid (blk_put K88.out 3 (.string F) rfl)
        have K29 := Lib.hid (blk_far K28.out (p := ⟨g8, 3, none⟩) (show g2 ≠ g8 by omega) (.string F))
        have HB9 := Lib.hid (below_set (g := g8) (j := 3) (v := .string F) HB8.out (by omega))
        have HO9 := Lib.hid (Kd.R_set HO8.out K88.out (by decide) 3 (.string F))
        have HC9 := Lib.hid (Kd.R_set HC8.out K88.out (by decide) 3 (.string F))
        simp only [List.setIfInBounds_toArray, List.set_cons_zero, List.set_cons_succ] at K89
        generalize w8.setCell ⟨g8, 3, none⟩ (.string F) = w9 at K89 K29 HB9 HO9 HC9 ⊢
        clear K88 K28 HB8 HO8 HC8 q3 qf3 hx2 hx2b hF hF2
        go_upto_region 24 with (fail)
        clear hwn
        have KA := Lib.hid (blk_new w9 (.cells #[.int .i64 0, .int .i64 0, .int .i64 0] 62))
        have K80 := Lib.hid (blk_alloc K89.out (.cells #[.int .i64 0, .int .i64 0, .int .i64 0] 62))
        have K20 := Lib.hid (blk_alloc K29.out (.cells #[.int .i64 0, .int .i64 0, .int .i64 0] 62))
        have HB10 := Lib.hid (below_alloc HB9.out (.cells #[.int .i64 0, .int .i64 0, .int .i64 0] 62))
        have HO10 := Lib.hid (Kd.R_alloc HO9.out (.cells #[.int .i64 0, .int .i64 0, .int .i64 0] 62))
        have HC10 := Lib.hid (Kd.R_alloc HC9.out (.cells #[.int .i64 0, .int .i64 0, .int .i64 0] 62))
        have hlt9 := blk_lt K89.out
        obtain ⟨ga, hga⟩ : ∃ g, w9.heap.size = g := ⟨_, rfl⟩
        rw [hga] at KA hlt9
        try simp only [hga]
        clear hga
        generalize w9.alloc (.cells #[.int .i64 0, .int .i64 0, .int .i64 0] 62) = w10 at KA K80 K20 HB10 HO10 HC10 ⊢
        clear K89 K29 HB9 HO9 HC9
        have hna : g8 ≠ ga := by omega
        have hna2 : ga ≠ g8 := by omega
        go_wp2_with fail
        go_loopg [17] n (fun kq v17 wr => RefLoop2 w W0 g2 g8 ga V lab cats F AB cB body ad c3 ws 3 n NR kq v17 wr)
        case atStart => exact ⟨0, 0, 0, 0, 0, rfl, rfl, by omega, KA.out, K80.out, K20.out, HB10.out, HO10.out, HC10.out, HNR.out⟩
        case round =>
          clear KA K80 K20 HB10 HO10 HC10 HNR
          obtain ⟨i, v, a, b, c, rfl, hvi, hik, ka, k8, k2, hB, hO, hC, hN⟩ := hrel
          have KA := Lib.hid ka
          have K8 := Lib.hid k8
          have K2 := Lib.hid k2
          have HB := Lib.hid hB
          have HO := Lib.hid hO
          have HC := Lib.hid hC
          have HN := Lib.hid hN
          clear ka k8 k2 hB hO hC hN
          have hnlen : ws.length = 3 + n := hlen
          cases gk with
          | succ k1 =>
            have hi3 : i = 0 ∨ i = 1 ∨ i = 2 := by omega
            rcases hi3 with rfl | rfl | rfl
            · obtain rfl : v = 0 := by simpa using hvi
              have d5 : decide ((0 : Int) < (n : Int)) = true := decide_eq_true (by omega)
              obtain ⟨x, ok, hx⟩ : ∃ x ok, numOf (wdW ws 3) = (x, ok) := ⟨_, _, rfl⟩
              have hNb := Lib.hid (show jalousieref01_Number.f 13 (wdW ws 3) = some (x, ok) by rw [ref_Number_tells, hx])
              have hNN : (if ok = true then numsR ws 3 k1 1 x b c else none) = NR := by
                have h := HN.out
                simp [numsR, hx] at h
                exact h
              have HNN := Lib.hid hNN
              obtain ⟨ad', e', hxw⟩ := word_at (Kd.R_reads' HC.out).2.2 3 (by omega)
              obtain rfl := Option.some.inj e'
              clear e'
              have hxb : wr.cell? ⟨ad.block, ad.off + 3, none⟩ = some (.string (wdW ws 3)) := hxw
              have hi2 : ((3 : Int) < (ws.length : Int)) = True := eq_true (by omega)
              have hj2 : (3 < ws.length) = True := eq_true (by omega)
              clear hNN hxw hvi hx hlen
              go_wp2_with fail
              (with_reducible refine (jalousieref01_Number.calls 13 (wdW ws 3) x ok wr hNb.out).mono ?_)
              rintro e w' ⟨rfl, ⟨nd, rfl⟩⟩
              have KA1 := Lib.hid (blk_drewN KA.out nd)
              have K81 := Lib.hid (blk_drewN K8.out nd)
              have K21 := Lib.hid (blk_drewN K2.out nd)
              have HB1 := Lib.hid (pw_below_drewN HB.out nd)
              have HO1 := Lib.hid (Kd.R_drewN HO.out nd)
              have HC1 := Lib.hid (Kd.R_drewN HC.out nd)
              generalize wr.drewN nd = w1 at KA1 K81 K21 HB1 HO1 HC1 ⊢
              clear KA K8 K2 HB HO HC hxb hi2 hj2
              cases ok
              case false =>
                have hE := HE.out
                rw [← HNN.out, if_neg (by decide)] at hE
                simp only [rparseLast] at hE
                unfold noReq at hE
                simp only [Prod.mk.injEq] at hE
                obtain ⟨rfl, rfl, rfl, rfl, rfl, rfl, rfl, rfl, rfl⟩ := hE
                obtain ⟨z0, z1, z2, z3, z4, z5, z6, z7⟩ := req_cells K21.out
                obtain ⟨f0, f1, f2, f3, f4, f5, f6, f7⟩ := req_frozen K21.out
                clear hik hnlen
                go_wp2
                refine bodyPost_ret (results_ct rfl _ _ g2 28 #[.int .i64 0, .int .i64 0, .int .u64 0, .string ⟨#[]⟩, .int .i64 0, .int .i64 0, .int .i64 0, .slice none 0 0] (0, 0) _ rfl (put8_blk _ _ _ _ _ _ _ _ K21.out) Tryd.underlying28 rfl (by kernel_rfl)) rfl ?_
                exact ⟨.slice none 0 0, rfl, Kd.R_nil _ _ _ _ _, put8_below _ _ _ _ _ _ _ _ HB1.out hwg⟩
              case true =>
                have a0 := (blk_cell KA1.out 0).trans rfl
                have af := blk_frozen KA1.out 0
                go_wp2
                go_roundg k1
                case measure => omega
                case rel => exact ⟨1, 1, x, b, c, rfl, rfl, by omega, blk_put KA1.out 0 (.int .i64 x) rfl, blk_far K81.out (show g8 ≠ ga by omega) _, blk_far K21.out (show g2 ≠ ga by omega) _, below_set HB1.out (by omega), Kd.R_set HO1.out KA1.out (by decide) 0 _, Kd.R_set HC1.out KA1.out (by decide) 0 _, by have := HNN.out; simpa using this⟩
            · obtain rfl : v = 1 := by simpa using hvi
              have d5 : decide ((1 : Int) < (n : Int)) = true := decide_eq_true (by omega)
              obtain ⟨x, ok, hx⟩ : ∃ x ok, numOf (wdW ws 4) = (x, ok) := ⟨_, _, rfl⟩
              have hNb := Lib.hid (show jalousieref01_Number.f 13 (wdW ws 4) = some (x, ok) by rw [ref_Number_tells, hx])
              have hNN : (if ok = true then numsR ws 3 k1 2 a x c else none) = NR := by
                have h := HN.out
                simp [numsR, hx] at h
                exact h
              have HNN := Lib.hid hNN
              obtain ⟨ad', e', hxw⟩ := word_at (Kd.R_reads' HC.out).2.2 4 (by omega)
              obtain rfl := Option.some.inj e'
              clear e'
              have hxb : wr.cell? ⟨ad.block, ad.off + 4, none⟩ = some (.string (wdW ws 4)) := hxw
              have hi2 : ((4 : Int) < (ws.length : Int)) = True := eq_true (by omega)
              have hj2 : (4 < ws.length) = True := eq_true (by omega)
              clear hNN hxw hvi hx hlen
              go_wp2_with fail
              (with_reducible refine (jalousieref01_Number.calls 13 (wdW ws 4) x ok wr hNb.out).mono ?_)
              rintro e w' ⟨rfl, ⟨nd, rfl⟩⟩
              have KA1 := Lib.hid (blk_drewN KA.out nd)
              have K81 := Lib.hid (blk_drewN K8.out nd)
              have K21 := Lib.hid (blk_drewN K2.out nd)
              have HB1 := Lib.hid (pw_below_drewN HB.out nd)
              have HO1 := Lib.hid (Kd.R_drewN HO.out nd)
              have HC1 := Lib.hid (Kd.R_drewN HC.out nd)
              generalize wr.drewN nd = w1 at KA1 K81 K21 HB1 HO1 HC1 ⊢
              clear KA K8 K2 HB HO HC hxb hi2 hj2
              cases ok
              case false =>
                have hE := HE.out
                rw [← HNN.out, if_neg (by decide)] at hE
                simp only [rparseLast] at hE
                unfold noReq at hE
                simp only [Prod.mk.injEq] at hE
                obtain ⟨rfl, rfl, rfl, rfl, rfl, rfl, rfl, rfl, rfl⟩ := hE
                obtain ⟨z0, z1, z2, z3, z4, z5, z6, z7⟩ := req_cells K21.out
                obtain ⟨f0, f1, f2, f3, f4, f5, f6, f7⟩ := req_frozen K21.out
                clear hik hnlen
                go_wp2
                refine bodyPost_ret (results_ct rfl _ _ g2 28 #[.int .i64 0, .int .i64 0, .int .u64 0, .string ⟨#[]⟩, .int .i64 0, .int .i64 0, .int .i64 0, .slice none 0 0] (0, 0) _ rfl (put8_blk _ _ _ _ _ _ _ _ K21.out) Tryd.underlying28 rfl (by kernel_rfl)) rfl ?_
                exact ⟨.slice none 0 0, rfl, Kd.R_nil _ _ _ _ _, put8_below _ _ _ _ _ _ _ _ HB1.out hwg⟩
              case true =>
                have a0 := (blk_cell KA1.out 1).trans rfl
                have af := blk_frozen KA1.out 1
                go_wp2
                go_roundg k1
                case measure => omega
                case rel => exact ⟨2, 2, a, x, c, rfl, rfl, by omega, blk_put KA1.out 1 (.int .i64 x) rfl, blk_far K81.out (show g8 ≠ ga by omega) _, blk_far K21.out (show g2 ≠ ga by omega) _, below_set HB1.out (by omega), Kd.R_set HO1.out KA1.out (by decide) 1 _, Kd.R_set HC1.out KA1.out (by decide) 1 _, by have := HNN.out; simpa using this⟩
            · obtain rfl : v = 2 := by simpa using hvi
              have d5 : decide ((2 : Int) < (n : Int)) = true := decide_eq_true (by omega)
              obtain ⟨x, ok, hx⟩ : ∃ x ok, numOf (wdW ws 5) = (x, ok) := ⟨_, _, rfl⟩
              have hNb := Lib.hid (show jalousieref01_Number.f 13 (wdW ws 5) = some (x, ok) by rw [ref_Number_tells, hx])
              have hNN : (if ok = true then numsR ws 3 k1 3 a b x else none) = NR := by
                have h := HN.out
                simp [numsR, hx] at h
                exact h
              have HNN := Lib.hid hNN
              obtain ⟨ad', e', hxw⟩ := word_at (Kd.R_reads' HC.out).2.2 5 (by omega)
              obtain rfl := Option.some.inj e'
              clear e'
              have hxb : wr.cell? ⟨ad.block, ad.off + 5, none⟩ = some (.string (wdW ws 5)) := hxw
              have hi2 : ((5 : Int) < (ws.length : Int)) = True := eq_true (by omega)
              have hj2 : (5 < ws.length) = True := eq_true (by omega)
              clear hNN hxw hvi hx hlen
              go_wp2_with fail
              (with_reducible refine (jalousieref01_Number.calls 13 (wdW ws 5) x ok wr hNb.out).mono ?_)
              rintro e w' ⟨rfl, ⟨nd, rfl⟩⟩
              have KA1 := Lib.hid (blk_drewN KA.out nd)
              have K81 := Lib.hid (blk_drewN K8.out nd)
              have K21 := Lib.hid (blk_drewN K2.out nd)
              have HB1 := Lib.hid (pw_below_drewN HB.out nd)
              have HO1 := Lib.hid (Kd.R_drewN HO.out nd)
              have HC1 := Lib.hid (Kd.R_drewN HC.out nd)
              generalize wr.drewN nd = w1 at KA1 K81 K21 HB1 HO1 HC1 ⊢
              clear KA K8 K2 HB HO HC hxb hi2 hj2
              cases ok
              case false =>
                have hE := HE.out
                rw [← HNN.out, if_neg (by decide)] at hE
                simp only [rparseLast] at hE
                unfold noReq at hE
                simp only [Prod.mk.injEq] at hE
                obtain ⟨rfl, rfl, rfl, rfl, rfl, rfl, rfl, rfl, rfl⟩ := hE
                obtain ⟨z0, z1, z2, z3, z4, z5, z6, z7⟩ := req_cells K21.out
                obtain ⟨f0, f1, f2, f3, f4, f5, f6, f7⟩ := req_frozen K21.out
                clear hik hnlen
                go_wp2
                refine bodyPost_ret (results_ct rfl _ _ g2 28 #[.int .i64 0, .int .i64 0, .int .u64 0, .string ⟨#[]⟩, .int .i64 0, .int .i64 0, .int .i64 0, .slice none 0 0] (0, 0) _ rfl (put8_blk _ _ _ _ _ _ _ _ K21.out) Tryd.underlying28 rfl (by kernel_rfl)) rfl ?_
                exact ⟨.slice none 0 0, rfl, Kd.R_nil _ _ _ _ _, put8_below _ _ _ _ _ _ _ _ HB1.out hwg⟩
              case true =>
                have a0 := (blk_cell KA1.out 2).trans rfl
                have af := blk_frozen KA1.out 2
                go_wp2
                go_roundg k1
                case measure => omega
                case rel => exact ⟨3, 3, a, b, x, rfl, rfl, by omega, blk_put KA1.out 2 (.int .i64 x) rfl, blk_far K81.out (show g8 ≠ ga by omega) _, blk_far K21.out (show g2 ≠ ga by omega) _, below_set HB1.out (by omega), Kd.R_set HO1.out KA1.out (by decide) 2 _, Kd.R_set HC1.out KA1.out (by decide) 2 _, by have := HNN.out; simpa using this⟩
          | zero =>
            have d5 : decide (v < (n : Int)) = false := decide_eq_false (by omega)
            have hNN := HN.out
            simp only [numsR] at hNN
            have hE := HE.out
            rw [← hNN] at hE
            simp only [rparseLast] at hE
            unfold endW at hE
            have HE1 := Lib.hid hE
            clear hNN hE hvi hik
            have a0 := (blk_cell KA.out 0).trans rfl
            have a1 := (blk_cell KA.out 1).trans rfl
            have a2 := (blk_cell KA.out 2).trans rfl
            obtain ⟨q0, q1, q2, q3, q4, q5, q6, q7⟩ := req_cells K8.out
            obtain ⟨f0, f1, f2, f3, f4, f5, f6, f7⟩ := req_frozen K8.out
            go_upto_region 34 with (fail)
            have K81 := blk_put K8.out 4 (.int .i64 a) rfl
            have K82 := blk_put K81 5 (.int .i64 b) rfl
            have K83 := Lib.hid (blk_put K82 6 (.int .i64 c) rfl)
            have K23 := Lib.hid (blk_far (blk_far (blk_far K2.out (p := ⟨g8, 4, none⟩) (show g2 ≠ g8 by omega) (.int .i64 a)) (p := ⟨g8, 5, none⟩) (show g2 ≠ g8 by omega) (.int .i64 b)) (p := ⟨g8, 6, none⟩) (show g2 ≠ g8 by omega) (.int .i64 c))
            have HB3 := Lib.hid (below_set (g := g8) (j := 6) (v := .int .i64 c) (below_set (g := g8) (j := 5) (v := .int .i64 b) (below_set (g := g8) (j := 4) (v := .int .i64 a) HB.out (by omega)) (by omega)) (by omega))
            have HO3 := Lib.hid (Kd.R_set (Kd.R_set (Kd.R_set HO.out K8.out (by decide) 4 (.int .i64 a)) K81 (by decide) 5 (.int .i64 b)) K82 (by decide) 6 (.int .i64 c))
            simp only [List.setIfInBounds_toArray, List.set_cons_zero, List.set_cons_succ] at K83
            generalize ((wr.setCell ⟨g8, 4, none⟩ (.int .i64 a)).setCell ⟨g8, 5, none⟩ (.int .i64 b)).setCell ⟨g8, 6, none⟩ (.int .i64 c) = w3 at K83 K23 HB3 HO3 ⊢
            clear KA K8 K81 K82 K2 HB HO HC a0 a1 a2 q0 q1 q2 q3 q4 q5 q6 q7 f0 f1 f2 f3 f4 f5 f6 f7
            obtain ⟨q0, q1, q2, q3, q4, q5, q6, q7⟩ := req_cells K83.out
            go_wp2_with fail
            (with_reducible refine (jalousieref21_Check.calls V lab cats F a b c AB cB body _ w3 (Kd.R_reads' HO3.out).2.2 (Kd.R_reads' HO3.out).2.1 (HCK.out a b c)).mono ?_)
            rintro e w4 ⟨rfl, hb⟩
            have K84 := Lib.hid (blk_below K83.out hb)
            have K24 := Lib.hid (blk_below K23.out hb)
            have HB4 := Lib.hid (below_step HB3.out hb)
            have HO4 := Lib.hid (Kd.R_below HO3.out hb)
            clear hb K83 K23 HB3 HO3 q0 q1 q2 q3 q4 q5 q6 q7
            obtain ⟨er, her⟩ : ∃ er, checkR V lab F a b c body.length = er := ⟨_, rfl⟩
            rw [her] at HE1 ⊢
            clear her
            obtain ⟨q0, q1, q2, q3, q4, q5, q6, q7⟩ := req_cells K84.out
            obtain ⟨z0, z1, z2, z3, z4, z5, z6, z7⟩ := req_cells K24.out
            obtain ⟨f0, f1, f2, f3, f4, f5, f6, f7⟩ := req_frozen K24.out
            by_cases he : er = 0
            · subst he
              have hE := HE1.out
              rw [if_pos rfl] at hE
              simp only [Prod.mk.injEq] at hE
              obtain ⟨rfl, rfl, rfl, rfl, rfl, rfl, rfl, rfl, rfl⟩ := hE
              go_wp2
              refine bodyPost_ret (results_ct rfl _ _ g2 28 #[.int .i64 V, .int .i64 lab, .int .u64 cats, .string F, .int .i64 a, .int .i64 b, .int .i64 c, .slice AB body.length cB] (0, 0) _ rfl (put8_blk _ _ _ _ _ _ _ _ K24.out) Tryd.underlying28 rfl (by kernel_rfl)) rfl ?_
              exact ⟨.slice AB body.length cB, rfl, Kd.R_lower (R_set (R_set (R_set (R_set (R_set (R_set (R_set (R_set HO4.out hgb.out _ _) hgb.out _ _) hgb.out _ _) hgb.out _ _) hgb.out _ _) hgb.out _ _) hgb.out _ _) hgb.out _ _) hbw.out, put8_below _ _ _ _ _ _ _ _ HB4.out hwg⟩
            · have b1 : (er != 0) = true := bne_iff_ne.2 he
              have b2 : (er == 0) = false := beq_eq_false_iff_ne.2 he
              have hE := HE1.out
              rw [if_neg he] at hE
              unfold noReq at hE
              simp only [Prod.mk.injEq] at hE
              obtain ⟨rfl, rfl, rfl, rfl, rfl, rfl, rfl, rfl, rfl⟩ := hE
              go_wp2
              refine bodyPost_ret (results_ct rfl _ _ g2 28 #[.int .i64 0, .int .i64 0, .int .u64 0, .string ⟨#[]⟩, .int .i64 0, .int .i64 0, .int .i64 0, .slice none 0 0] (0, 0) _ rfl (put8_blk _ _ _ _ _ _ _ _ K24.out) Tryd.underlying28 rfl (by kernel_rfl)) rfl ?_
              exact ⟨.slice none 0 0, rfl, Kd.R_nil _ _ _ _ _, put8_below _ _ _ _ _ _ _ _ HB4.out hwg⟩
end Go.Proofs.YthaimkdnddmokaaDoor.P

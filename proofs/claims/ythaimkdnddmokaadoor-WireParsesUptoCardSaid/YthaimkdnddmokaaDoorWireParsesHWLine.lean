/- wire.line's walk: the request of a line's words; condition: words of fewer than 2^32 - 15 bytes, at most 2^40 of them. -/
import Derived.Test.YthaimkdnddmokaaDoorWireParsesHWRead
import Derived.Test.YthaimkdnddmokaaDoorWireParsesHWIter
import Derived.Test.YthaimkdnddmokaaDoorWireParsesHLParse
import Derived.Test.YthaimkdnddmokaaDoorWireParsesGHEqLabel
import Derived.Test.YthaimkdnddmokaaDoorWireParsesPxWire
namespace Go.Proofs.YthaimkdnddmokaaDoor.P
open Go.RowKit Go.Proofs.YthaimkdnddmokaaDoorW.PrintWords Go.Proofs.YthaimkdnddmokaaDoorW.PrintLast Go.Proofs.YthaimkdnddmokaaDoorW.PrintMore
set_option linter.unusedVariables false
set_option linter.unusedSimpArgs false
abbrev LineR := ByteArray × Int × Int × Int × Bool
def goL : List UInt8 → List ByteArray → ByteArray → Int → Int → Int → Bool → LineR
  | [], ws, f, a, b, d, is => (f, a, b, d, is && decide (ws.length = 0))
  | x :: F, ws, f, a, b, d, is => if x = 43 then goL F ws f a b d is else match ws with
    | [] => (f, a, b, d, false)
    | y :: ws => if x = 102 then goL F ws y a b d is else if x = 97 then goL F ws f (numOf y).1 b d (is && (numOf y).2) else if x = 98 then goL F ws f a (numOf y).1 d (is && (numOf y).2) else goL F ws f a b (numOf y).1 (is && (numOf y).2)
theorem goL_plus (F : List UInt8) (ws : List ByteArray) (f : ByteArray) (a b d : Int) (is : Bool) : goL (43 :: F) ws f a b d is = goL F ws f a b d is := by cases ws <;> simp [goL]
theorem goL_none (x : UInt8) (F : List UInt8) (f : ByteArray) (a b d : Int) (is : Bool) (h : x ≠ 43) : goL (x :: F) [] f a b d is = (f, a, b, d, false) := by simp [goL, h]
theorem goL_f (F : List UInt8) (y : ByteArray) (ws : List ByteArray) (f : ByteArray) (a b d : Int) (is : Bool) : goL (102 :: F) (y :: ws) f a b d is = goL F ws y a b d is := by simp [goL]
theorem goL_a (F : List UInt8) (y : ByteArray) (ws : List ByteArray) (f : ByteArray) (a b d : Int) (is : Bool) : goL (97 :: F) (y :: ws) f a b d is = goL F ws f (numOf y).1 b d (is && (numOf y).2) := by simp [goL]
theorem goL_b (F : List UInt8) (y : ByteArray) (ws : List ByteArray) (f : ByteArray) (a b d : Int) (is : Bool) : goL (98 :: F) (y :: ws) f a b d is = goL F ws f a (numOf y).1 d (is && (numOf y).2) := by simp [goL]
theorem goL_c (F : List UInt8) (y : ByteArray) (ws : List ByteArray) (f : ByteArray) (a b d : Int) (is : Bool) : goL (99 :: F) (y :: ws) f a b d is = goL F ws f a b (numOf y).1 (is && (numOf y).2) := by simp [goL]
def letterF (x : UInt8) : Bool := decide (x = 43) || decide (x = 102) || decide (x = 97) || decide (x = 98) || decide (x = 99)
def line4.T : Bool × List (List Nat × List Nat) := (true, [([], []), ([], []), ([1], [1]), ([2], [2]), ([0, 3, 0], [0, 3]), ([4], [4]), ([0, 1, 2, 3, 4, 5], []), ([6, 5, 4, 0, 1, 2, 3, 4, 5], [5, 6])])
def line4.B : List Nat := [0, 0, 2, 6, 15, 31, 63, 127]
theorem line4.tab : rtab .any (opsOf Tryd.f25 4) = line4.T := by kernel_rfl
theorem line4.bits : waitsOk line4.T.2 line4.B = true := by kernel_rfl
def zeroReq : Array Value := #[.int .i64 0, .int .i64 0, .int .u64 0, .string ⟨#[]⟩, .int .i64 0, .int .i64 0, .int .i64 0, .slice none 0 0]
def reqCells (v l c : Int) (f : ByteArray) (a b d : Int) : Array Value := #[.int .i64 v, .int .i64 l, .int .u64 c, .string f, .int .i64 a, .int .i64 b, .int .i64 d, .slice none 0 0]
theorem req_cells {W : World} {g : Nat} {x0 x1 x2 x3 x4 x5 x6 x7 : Value} {t : TypeId} (h : W.heap[g]? = some (.cells #[x0, x1, x2, x3, x4, x5, x6, x7] t (0, 0))) :
    W.cell? ⟨g, 0, none⟩ = some x0 ∧ W.cell? ⟨g, 1, none⟩ = some x1 ∧ W.cell? ⟨g, 2, none⟩ = some x2 ∧ W.cell? ⟨g, 3, none⟩ = some x3 ∧ W.cell? ⟨g, 4, none⟩ = some x4 ∧ W.cell? ⟨g, 5, none⟩ = some x5 ∧ W.cell? ⟨g, 6, none⟩ = some x6 ∧ W.cell? ⟨g, 7, none⟩ = some x7 :=
  ⟨(blk_cell h 0).trans rfl, (blk_cell h 1).trans rfl, (blk_cell h 2).trans rfl, (blk_cell h 3).trans rfl, (blk_cell h 4).trans rfl, (blk_cell h 5).trans rfl, (blk_cell h 6).trans rfl, (blk_cell h 7).trans rfl⟩
theorem req_frozen {W : World} {g : Nat} {cs : Array Value} {t : TypeId} (h : W.heap[g]? = some (.cells cs t (0, 0))) :
    W.frozen? ⟨g, 0, none⟩ = false ∧ W.frozen? ⟨g, 1, none⟩ = false ∧ W.frozen? ⟨g, 2, none⟩ = false ∧ W.frozen? ⟨g, 3, none⟩ = false ∧ W.frozen? ⟨g, 4, none⟩ = false ∧ W.frozen? ⟨g, 5, none⟩ = false ∧ W.frozen? ⟨g, 6, none⟩ = false ∧ W.frozen? ⟨g, 7, none⟩ = false :=
  ⟨blk_frozen h 0, blk_frozen h 1, blk_frozen h 2, blk_frozen h 3, blk_frozen h 4, blk_frozen h 5, blk_frozen h 6, blk_frozen h 7⟩
def put8 (W : World) (g : Nat) (y0 y1 y2 y3 y4 y5 y6 y7 : Value) : World := (((((((W.setCell ⟨g, 0, none⟩ y0).setCell ⟨g, 1, none⟩ y1).setCell ⟨g, 2, none⟩ y2).setCell ⟨g, 3, none⟩ y3).setCell ⟨g, 4, none⟩ y4).setCell ⟨g, 5, none⟩ y5).setCell ⟨g, 6, none⟩ y6).setCell ⟨g, 7, none⟩ y7
theorem put8_blk {W : World} {g : Nat} {x0 x1 x2 x3 x4 x5 x6 x7 : Value} (y0 y1 y2 y3 y4 y5 y6 y7 : Value) {t : TypeId} (h : W.heap[g]? = some (.cells #[x0, x1, x2, x3, x4, x5, x6, x7] t (0, 0))) : (put8 W g y0 y1 y2 y3 y4 y5 y6 y7).heap[g]? = some (.cells #[y0, y1, y2, y3, y4, y5, y6, y7] t (0, 0)) := by
  have h7 := blk_set (blk_set (blk_set (blk_set (blk_set (blk_set (blk_set (blk_set h 0 y0) 1 y1) 2 y2) 3 y3) 4 y4) 5 y5) 6 y6) 7 y7
  have e : ((((((((#[x0, x1, x2, x3, x4, x5, x6, x7] : Array Value).setIfInBounds 0 y0).setIfInBounds 1 y1).setIfInBounds 2 y2).setIfInBounds 3 y3).setIfInBounds 4 y4).setIfInBounds 5 y5).setIfInBounds 6 y6).setIfInBounds 7 y7 = #[y0, y1, y2, y3, y4, y5, y6, y7] := by simp
  rw [e] at h7
  exact h7
theorem put8_below {w W : World} {g : Nat} (y0 y1 y2 y3 y4 y5 y6 y7 : Value) (hb : Below w.heap.size w W) (hg : w.heap.size ≤ g) : Below w.heap.size w (put8 W g y0 y1 y2 y3 y4 y5 y6 y7) :=
  below_set (below_set (below_set (below_set (below_set (below_set (below_set (below_set hb hg) hg) hg) hg) hg) hg) hg) hg
def LineRel (w : World) (g2 g4 gi : Nat) (F : ByteArray) (v l c : Int) (R : LineR) (kq : Nat) (v0 v6 : Value) (wr : World) : Prop := ∃ (i : Nat) (A : Option Addr) (cp : Nat) (ws : List ByteArray) (f : ByteArray) (a b d : Int) (is : Bool), v0 = .slice A ws.length cp ∧ Kd.C Kd.string w A ws.length ws ∧ ws.length ≤ cp ∧ v6 = .bool is ∧ i + kq = F.size ∧
  wr.heap[gi]? = some (.stringIter F i) ∧ wr.heap[g2]? = some (.cells zeroReq 28 (0, 0)) ∧ wr.heap[g4]? = some (.cells (reqCells v l c f a b d) 28 (0, 0)) ∧ Below w.heap.size w wr ∧ goL (F.data.toList.drop i) ws f a b d is = R
set_option maxHeartbeats 4000000 in
set_option maxRecDepth 100000 in
theorem line.walk (A0 : Option Addr) (c0 : Nat) (x0 x1 : ByteArray) (ws : List ByteArray) (F : ByteArray) (v l c : Int) (is : Bool) (R : LineR) (kx : Nat) (w : World) (hT : Tabs w) (hr0 : Kd.C Kd.string w A0 (x0 :: x1 :: ws).length (x0 :: x1 :: ws)) (hc0 : (x0 :: x1 :: ws).length ≤ c0) (hl : ws.length ≤ 1099511627776)
    (hix : slices_Index_string_string.f kx (verbT.map baOf) x0 = some (v - 1)) (hv : 0 ≤ v ∧ v ≤ 11) (hp : label_Parse.f x1 = some (l, c, is)) (hF : wire_form.f 4 v = some F) (hFs : F.size ≤ 10) (hFl : F.data.toList.all letterF = true) (hR : goL F.data.toList ws ⟨#[]⟩ 0 0 0 is = R) :
    Calls Tryd.prog 25 #[.slice A0 (x0 :: x1 :: ws).length c0] w fun e w' => e = .returned (.tuple #[.agg (reqCells v l c R.1 R.2.1 R.2.2.1 R.2.2.2.1), .bool R.2.2.2.2]) ∧ Below w.heap.size w w' := by
  obtain ⟨rf, ra, rb, rd, ro⟩ := R
  simp only
  have HT := Lib.hid hT
  have HR0 := Lib.hid hr0
  have HIX := Lib.hid hix
  have HP := Lib.hid hp
  have HF := Lib.hid hF
  have HFL := Lib.hid hFl
  have HRR := Lib.hid hR
  obtain ⟨ad, eA, hx0⟩ := Kd.at_string hr0 0 (by decide) (by simp; omega)
  obtain ⟨ad', eA', hx1⟩ := Kd.at_string hr0 1 (by decide) (by simp; omega)
  subst eA
  obtain rfl := Option.some.inj eA'
  have hx0 : w.cell? ad = some (.string x0) := by
    have h0 : w.cell? (ad.add 0) = some (.string x0) := hx0
    rwa [show ad.add 0 = ad from by simp [Addr.add]] at h0
  have hx1 : w.cell? (ad.add 1) = some (.string x1) := hx1
  have HX0 := Lib.hid hx0
  have HX1 := Lib.hid hx1
  have hlen : (x0 :: x1 :: ws).length = ws.length + 2 := rfl
  clear hT hr0 hix hp hF hFl hR hx0 hx1
  have K2 := Lib.hid (show ((w.alloc (.cells zeroReq 28)).alloc (.cells zeroReq 28)).heap[w.heap.size]? = some (.cells zeroReq 28 (0, 0)) from blk_alloc (blk_new w _) _)
  have K4 := Lib.hid (show ((w.alloc (.cells zeroReq 28)).alloc (.cells zeroReq 28)).heap[w.heap.size + 1]? = some (.cells zeroReq 28 (0, 0)) by have := blk_new (w.alloc (.cells zeroReq 28)) (.cells zeroReq 28); simpa using this)
  have HB0 := Lib.hid (below_alloc (below_alloc (Below.refl w.heap.size w) (.cells zeroReq 28)) (.cells zeroReq 28))
  rw [hlen] at hc0 ⊢
  go_enter Tryd.func25, Tryd.ntmps25
  go_wp2_with fail
  have hi0 : ((0 : Int) < (ws.length : Int) + 2) = True := eq_true (by omega)
  have hi1 : ((1 : Int) < (ws.length : Int) + 2) = True := eq_true (by omega)
  obtain ⟨g2, hg2⟩ : ∃ g, w.heap.size = g := ⟨_, rfl⟩
  rw [hg2] at K2 K4
  obtain ⟨g4, hg4⟩ : ∃ g, g2 + 1 = g := ⟨_, rfl⟩
  rw [hg4] at K4
  have hwv : wrap64 v = v := w64 _ (by omega) (by omega)
  obtain ⟨W0, hW0⟩ : ∃ W0, (w.alloc (.cells zeroReq 28)).alloc (.cells zeroReq 28) = W0 := ⟨_, rfl⟩
  rw [hW0] at K2 K4 HB0
  unfold zeroReq at hW0
  rw [hW0]
  have hu := hW0
  clear hW0 hu
  simp only [hg2, hg4]
  refine start_ (n := 8) (S := fun w' => w'.cell? ad = some (.string x0)) (ds := []) #[false, false, false, false, false, false, false, false] (by kernel_rfl) rfl rfl (pw_cell_below (below_drew HB0.out) HX0.out) (fun hHeld => ?_); refine with_tabW line4.tab line4.bits (fun HT_ HW_ => ?_)
  refine pure_ (i := 1) (N := some 16) (v := ?_) (a' := ?_) #[false, true, false, false, false, false, false, false] rfl rfl (any_of HT_.out (by kernel_rfl)) (fun _ _ _ h => h) (Or.inl ⟨by rfl, ?_⟩) ?_ ?_; rotate_left; (intro w'; go_simp; with_reducible rfl); rotate_left; (simp only [Act.put, List.setIfInBounds_toArray, List.set_cons_zero, List.set_cons_succ, i64_w, i32_w]; rfl)
  refine pure_ (i := 2) (N := some 17) (v := ?_) (a' := ?_) #[false, true, true, false, false, false, false, false] rfl rfl (any_of HT_.out (by kernel_rfl)) (fun _ _ _ h => h) (Or.inl ⟨by rfl, ?_⟩) ?_ ?_; rotate_left; (intro w'; go_simp; with_reducible rfl); rotate_left; (simp only [Act.put, List.setIfInBounds_toArray, List.set_cons_zero, List.set_cons_succ, i64_w, i32_w]; rfl)
  refine take_ (i := 3) (N := some 18) (v := ?_) (a' := ?_) #[false, true, true, true, false, false, false, false] rfl rfl (take_ofW HT_.out HW_.out (by kernel_rfl)) (fun _ _ _ h => h) (Or.inl ⟨by rfl, ?_⟩) hHeld ?_ ?_; rotate_left; (intro w' s0; skip; go_simp; with_reducible rfl); rotate_left; (simp only [Act.put, List.setIfInBounds_toArray, List.set_cons_zero, List.set_cons_succ, i64_w, i32_w]; rfl)
  refine one_ (i := 0) (N := some 15) #[true, true, true, true, false, false, false, false] rfl rfl (one_of HT_.out (by kernel_rfl)) (by decide) (fun K hK => ?_)
  refine goes_ Tryd.func35 (by kernel_rfl) rfl #[] (by rfl) rfl rfl (by (try simp only [List.map_toArray, List.map_cons, List.map_nil]); first | done | rfl) ?_
  (with_reducible refine (wire_words.calls _ _ (HT.out.below (below_drew HB0.out)) words_is).mono ?_)
  rintro e w2 ⟨v2, rfl, hr, hb⟩
  obtain ⟨A3, c3, rfl, hc3, hC3⟩ := Kd.R_reads hr
  refine ⟨_, rfl, ?_⟩
  have K22 := Lib.hid (blk_below (blk_drew K2.out) hb)
  have K42 := Lib.hid (blk_below (blk_drew K4.out) hb)
  have HB2 := Lib.hid (below_step (below_drew HB0.out) hb)
  have HC3 := Lib.hid hC3
  clear hb hr hC3
  refine hK.out _ _ (pw_cell_below HB2.out HX0.out) (fun hHeld => ?_); clear hK K; refine norm_ (a' := ?_) ?_ ?_; rotate_left; (show Act.put _ (some 15) _ = _; (simp only [Act.put, List.setIfInBounds_toArray, List.set_cons_zero, List.set_cons_succ, i64_w, i32_w]; rfl))
  refine one_ (i := 4) (N := some 19) #[true, true, true, true, true, false, false, false] rfl rfl (one_of HT_.out (by kernel_rfl)) (by decide) (fun K hK => ?_)
  refine goes_ Tryd.func33 (by kernel_rfl) rfl #[.slice A3 (verbT.map baOf).length c3, .string x0] (by rfl) rfl rfl (by (try simp only [List.map_toArray, List.map_cons, List.map_nil]); first | done | rfl) ?_
  (with_reducible refine (slices_Index_string_string.calls kx A3 c3 (verbT.map baOf) x0 (v - 1) _ HC3.out hc3 HIX.out).mono ?_)
  rintro e w3 ⟨rfl, ⟨q3, rfl⟩⟩
  refine ⟨_, rfl, ?_⟩
  have K23 := Lib.hid (blk_drewN K22.out q3)
  have K43 := Lib.hid (blk_drewN K42.out q3)
  have HB3 := Lib.hid (pw_below_drewN HB2.out q3)
  generalize w2.drewN q3 = w4 at K23 K43 HB3 ⊢
  have k0 : w4.cell? ⟨g4, 0, none⟩ = some (.int .i64 0) := (blk_cell K43.out 0).trans rfl
  have f0 := blk_frozen K43.out 0
  refine hK.out _ _ (pw_cell_below HB3.out HX0.out) (fun hHeld => ?_); clear hK K; refine norm_ (a' := ?_) ?_ ?_; rotate_left; (show Act.put _ (some 19) _ = _; (simp only [Act.put, List.setIfInBounds_toArray, List.set_cons_zero, List.set_cons_succ, i64_w, i32_w]; rfl))
  refine pure_ (i := 5) (N := some 20) (v := ?_) (a' := ?_) #[true, true, true, true, true, true, false, false] rfl rfl (any_of HT_.out (by kernel_rfl)) (fun _ _ _ h => h) (Or.inl ⟨by rfl, ?_⟩) ?_ ?_; rotate_left; (intro w'; go_simp; with_reducible rfl); rotate_left; (simp only [Act.put, List.setIfInBounds_toArray, List.set_cons_zero, List.set_cons_succ, i64_w, i32_w]; rfl)
  refine pure_ (i := 6) (N := some 21) (v := ?_) (a' := ?_) #[true, true, true, true, true, true, true, false] rfl rfl (any_of HT_.out (by kernel_rfl)) (fun _ _ _ h => h) (Or.inl ⟨by rfl, ?_⟩) ?_ ?_; rotate_left; (intro w'; go_simp; with_reducible rfl); rotate_left; (simp only [Act.put, List.setIfInBounds_toArray, List.set_cons_zero, List.set_cons_succ, i64_w, i32_w]; rfl)
  refine one_ (i := 7) (N := none) #[true, true, true, true, true, true, true, true] rfl rfl (one_of HT_.out (by kernel_rfl)) (by decide) (fun K hK => ?_)
  go_simp
  refine hK.out _ _ (pw_cell_below (below_set (g := g4) (j := 0) (v := .int .i64 v) HB3.out (by omega)) HX0.out) (fun hHeld => ?_); clear hK K
  refine done_ (done_of HT_.out (by kernel_rfl)) ?_
  have K25 := Lib.hid (blk_far K23.out (p := ⟨g4, 0, none⟩) (show g2 ≠ g4 by omega) (.int .i64 v))
  have K45 := Lib.hid (blk_put K43.out 0 (.int .i64 v) (cs' := reqCells v 0 0 ⟨#[]⟩ 0 0 0) rfl)
  have HB5 := Lib.hid (below_set (g := g4) (j := 0) (v := .int .i64 v) HB3.out (by omega))
  generalize w4.setCell ⟨g4, 0, none⟩ (.int .i64 v) = w5 at K25 K45 HB5 ⊢
  clear hHeld k0 f0 K22 K42 K23 K43 HC3 hc3 HB2 HB3
  have hx1_ : w5.cell? ⟨ad.block, ad.off + 1, none⟩ = some (.string x1) := pw_cell_below HB5.out HX1.out
  go_wp2_with fail
  (with_reducible refine (label_Parse.calls x1 l c is w5 (HT.out.below HB5.out) HP.out).mono ?_)
  rintro e w6 ⟨rfl, hb⟩
  have K26 := Lib.hid (blk_below K25.out hb)
  have K46 := Lib.hid (blk_below K45.out hb)
  have HB6 := Lib.hid (below_step HB5.out hb)
  clear hb hx1_ K25 K45 HB5
  have k0 : w6.cell? ⟨g4, 0, none⟩ = some (.int .i64 v) := (blk_cell K46.out 0).trans rfl
  have k1 : w6.cell? ⟨g4, 1, none⟩ = some (.int .i64 0) := (blk_cell K46.out 1).trans rfl
  have k2 : w6.cell? ⟨g4, 2, none⟩ = some (.int .u64 0) := (blk_cell K46.out 2).trans rfl
  have f1 := blk_frozen K46.out 1
  have f2 := blk_frozen K46.out 2
  have hlt := blk_lt K46.out
  obtain ⟨i0, hi0_, _, hsz_, _⟩ := info_parts info9
  obtain ⟨A2, hcut2, hA2, hC2⟩ := print_drop_of (P := Tryd.prog) Value.string (⟨#[]⟩ : ByteArray) 53 9 .i64 Tryd.underlying53 hi0_ hsz_ (some ad) c0 (x0 :: x1 :: ws) 2 (by omega) (by rw [hlen]; omega) (by rw [hlen]; exact hc0)
  have HRW := Lib.hid (Kd.C_of_reads (h1 := fun _ => rfl) (hA2 _ (Kd.reads_of_C HR0.out)))
  have HCW := Lib.hid hC2
  have e2 : (2 : Int).toNat = 2 := rfl
  rw [e2, show (x0 :: x1 :: ws).drop 2 = ws from rfl] at hcut2 HRW HCW
  rw [hlen] at hcut2
  clear hA2 hC2 e2
  have hne : w6.heap.size ≠ g4 := by omega
  have hne2 : g4 ≠ w6.heap.size := by omega
  go_wp2_with (go_at_call 37; (with_reducible refine (wire_form.calls 4 v F _ HF.out).mono ?_); rintro e w' ⟨rfl, ⟨nd, rfl⟩⟩)
  have hsz1 : (((w6.setCell ⟨g4, 1, none⟩ (.int .i64 l)).setCell ⟨g4, 2, none⟩ (.int .u64 c)).alloc (.cells #[.int .i64 l, .int .u64 c] 26)).heap.size = w6.heap.size + 1 := by simp
  have KI := Lib.hid (show (((((w6.setCell ⟨g4, 1, none⟩ (.int .i64 l)).setCell ⟨g4, 2, none⟩ (.int .u64 c)).alloc (.cells #[.int .i64 l, .int .u64 c] 26)).drewN nd).iter F 0).heap[w6.heap.size + 1]? = some (.stringIter F 0) by rw [← hsz1]; exact World.iter_heap ((((w6.setCell ⟨g4, 1, none⟩ (.int .i64 l)).setCell ⟨g4, 2, none⟩ (.int .u64 c)).alloc (.cells #[.int .i64 l, .int .u64 c] 26)).drewN nd) F 0)
  have K27 := Lib.hid (show (((((w6.setCell ⟨g4, 1, none⟩ (.int .i64 l)).setCell ⟨g4, 2, none⟩ (.int .u64 c)).alloc (.cells #[.int .i64 l, .int .u64 c] 26)).drewN nd).iter F 0).heap[g2]? = some (.cells zeroReq 28 (0, 0)) from blk_alloc (blk_drewN (blk_alloc (blk_far (blk_far K26.out (show g2 ≠ g4 by omega) _) (show g2 ≠ g4 by omega) _) _) nd) _)
  have K47 := Lib.hid (show (((((w6.setCell ⟨g4, 1, none⟩ (.int .i64 l)).setCell ⟨g4, 2, none⟩ (.int .u64 c)).alloc (.cells #[.int .i64 l, .int .u64 c] 26)).drewN nd).iter F 0).heap[g4]? = some (.cells (reqCells v l c ⟨#[]⟩ 0 0 0) 28 (0, 0)) from blk_alloc (blk_drewN (blk_alloc (blk_put (blk_put K46.out 1 (.int .i64 l) (cs' := reqCells v l 0 ⟨#[]⟩ 0 0 0) rfl) 2 (.int .u64 c) rfl) _) nd) _)
  have HB7 := Lib.hid (show Below w.heap.size w (((((w6.setCell ⟨g4, 1, none⟩ (.int .i64 l)).setCell ⟨g4, 2, none⟩ (.int .u64 c)).alloc (.cells #[.int .i64 l, .int .u64 c] 26)).drewN nd).iter F 0) from below_alloc (pw_below_drewN (below_alloc (below_set (below_set HB6.out (by omega)) (by omega)) _) nd) _)
  have hgi4 : g4 < w6.heap.size + 1 := by omega
  obtain ⟨gi, hgi⟩ : ∃ g, w6.heap.size + 1 = g := ⟨_, rfl⟩
  rw [hgi] at KI hgi4
  simp only [hgi]
  generalize ((((w6.setCell ⟨g4, 1, none⟩ (.int .i64 l)).setCell ⟨g4, 2, none⟩ (.int .u64 c)).alloc (.cells #[.int .i64 l, .int .u64 c] 26)).drewN nd).iter F 0 = w7 at KI K27 K47 HB7 ⊢
  clear k0 k1 k2 f1 f2 hlt hne hne2 hsz1 K26 K46 HB6
  have hg24 : g2 < g4 := by omega
  have hwg : w.heap.size ≤ g2 := by omega
  clear hg2 hg4 hgi
  go_loopg [0, 6] F.size (fun kq v0 v6 wr => LineRel w g2 g4 gi F v l c (rf, ra, rb, rd, ro) kq v0 v6 wr)
  case atStart => exact ⟨0, A2, c0 - 2, ws, ⟨#[]⟩, 0, 0, 0, is, rfl, HRW.out, HCW.out, rfl, by omega, KI.out, K27.out, K47.out, HB7.out, by rw [List.drop_zero]; exact HRR.out⟩
  case round =>
    clear KI K27 K47 HB7 HRW HCW HRR HIX HP HX0 HX1 HR0
    obtain ⟨i, A, cp, vs, f, a, b, d, is', rfl, hC, hcp, rfl, hik, kI, kZ, kQ, hB, hG⟩ := hrel
    have HC := Lib.hid hC
    have KI := Lib.hid kI
    have KZ := Lib.hid kZ
    have KQ := Lib.hid kQ
    have HB := Lib.hid hB
    have HG := Lib.hid hG
    clear hC kI kZ kQ hB hG
    cases gk with
    | zero =>
      have hno : ¬ i < F.size := by omega
      have hnx : ∀ ty, (Instr.next (.pointer (some ⟨gi, 0, none⟩)) true ty).run Tryd.prog wr = .ok (.tuple #[.bool false]) wr := fun ty => next_over wr ty KI.out hno
      obtain ⟨q0, q1, q2, q3, q4, q5, q6, q7⟩ := req_cells KQ.out
      obtain ⟨z0, z1, z2, z3, z4, z5, z6, z7⟩ := req_cells KZ.out
      obtain ⟨f0, f1, f2, f3, f4, f5, f6, f7⟩ := req_frozen KZ.out
      have hne : g4 ≠ g2 := by omega
      have hRE := HG.out
      rw [List.drop_eq_nil_of_le (by rw [data_length]; omega), goL] at hRE
      injection hRE with g1 g5
      injection g5 with g5 g6
      injection g6 with g6 g7
      injection g7 with g7 g8
      subst g1 g5 g6 g7
      have HOK := Lib.hid g8
      clear g8 HG
      cases is' <;> by_cases hv0 : vs.length = 0
      all_goals
        first
          | have d1 : ((vs.length : Int) == 0) = true := by simpa using hv0
          | have d1 : ((vs.length : Int) == 0) = false := by simpa using hv0
        have HV := Lib.hid hv0
        clear hv0
        go_wp2
        refine bodyPost_ret (results_ct rfl _ _ g2 28 (reqCells v l c f a b d) (0, 0) _ rfl (put8_blk _ _ _ _ _ _ _ _ KZ.out) Tryd.underlying28 rfl (by kernel_rfl)) rfl ?_
        exact ⟨by rw [← HOK.out]; first | rfl | (rw [decide_eq_true HV.out]; rfl) | (rw [decide_eq_false HV.out]; rfl), put8_below _ _ _ _ _ _ _ _ HB.out hwg⟩
    | succ k1 =>
      have hlt : i < F.size := by omega
      have hlx : i < F.data.toList.length := by rw [data_length]; exact hlt
      have hG := HG.out
      rw [List.drop_eq_getElem_cons hlx] at hG
      have hlet := (List.all_eq_true.1 HFL.out) (F.data.toList[i]) (List.getElem_mem hlx)
      have hgl : gi < wr.heap.size := (Array.getElem?_eq_some_iff.1 KI.out).1
      have hnx0 : ∀ ty, (F.data.toList[i]).toNat < 128 → (Instr.next (.pointer (some ⟨gi, 0, none⟩)) true ty).run Tryd.prog wr = .ok (.tuple #[.bool true, .int .i64 i, .int .i32 (F.data.toList[i]).toNat]) (seti wr gi F (i + 1)) := fun ty h => next_at wr ty KI.out hlt h
      have KI2 := Lib.hid (seti_at hgl F (i + 1))
      have KZ2 := Lib.hid ((seti_blk wr (show g2 ≠ gi by omega) F (i + 1)).trans KZ.out)
      have KQ2 := Lib.hid ((seti_blk wr (show g4 ≠ gi by omega) F (i + 1)).trans KQ.out)
      have HB2 := Lib.hid (seti_below HB.out (show w.heap.size ≤ gi by omega) F (i + 1))
      have HC2 := Lib.hid HC.out
      clear HG KI KZ KQ HB HC
      generalize seti wr gi F (i + 1) = W2 at hnx0 KI2 KZ2 KQ2 HB2
      generalize F.data.toList[i] = x at hG hlet hnx0
      unfold letterF at hlet
      simp only [Bool.or_eq_true, decide_eq_true_eq] at hlet
      have hne : g4 ≠ g2 := by omega
      have hne4 : gi ≠ g4 := by omega
      rcases hlet with (((rfl | rfl) | rfl) | rfl) | rfl
      · have hnx : ∀ ty, (Instr.next (.pointer (some ⟨gi, 0, none⟩)) true ty).run Tryd.prog wr = .ok (.tuple #[.bool true, .int .i64 i, .int .i32 43]) W2 := fun ty => hnx0 ty (by decide)
        have HG := Lib.hid hG
        clear hnx0 hG
        go_wp2
        go_roundg k1
        case measure => omega
        case rel => exact ⟨i + 1, A, cp, vs, f, a, b, d, is', rfl, HC2.out, hcp, rfl, by omega, KI2.out, KZ2.out, KQ2.out, HB2.out, by have h9 := HG.out; rw [goL_plus] at h9; exact h9⟩
      · have hnx : ∀ ty, (Instr.next (.pointer (some ⟨gi, 0, none⟩)) true ty).run Tryd.prog wr = .ok (.tuple #[.bool true, .int .i64 i, .int .i32 102]) W2 := fun ty => hnx0 ty (by decide)
        have HG := Lib.hid hG
        clear hnx0 hG
        rcases vs with _ | ⟨y, vs⟩
        · have hRE := HG.out
          rw [goL_none _ _ _ _ _ _ _ (by decide)] at hRE
          injection hRE with g1 g5
          injection g5 with g5 g6
          injection g6 with g6 g7
          injection g7 with g7 g8
          subst g1 g5 g6 g7 g8
          obtain ⟨q0, q1, q2, q3, q4, q5, q6, q7⟩ := req_cells KQ2.out
          obtain ⟨z0, z1, z2, z3, z4, z5, z6, z7⟩ := req_cells KZ2.out
          obtain ⟨f0, f1, f2, f3, f4, f5, f6, f7⟩ := req_frozen KZ2.out
          go_wp2
          refine bodyPost_ret (results_ct rfl _ _ g2 28 (reqCells v l c f a b d) (0, 0) _ rfl (put8_blk _ _ _ _ _ _ _ _ KZ2.out) Tryd.underlying28 rfl (by kernel_rfl)) rfl ?_
          exact ⟨rfl, put8_below _ _ _ _ _ _ _ _ HB2.out hwg⟩
        · obtain ⟨ad2, e2, hy⟩ := Kd.at_string HC2.out 0 (by decide) (by simp)
          subst e2
          have hy : W2.cell? ad2 = some (.string y) := by
            have h0 : w.cell? (ad2.add 0) = some (.string y) := hy
            rw [show ad2.add 0 = ad2 from by simp [Addr.add]] at h0
            exact pw_cell_below HB2.out h0
          obtain ⟨j0, hj0, _, hjs, _⟩ := info_parts info9
          obtain ⟨A4, hcut4, hA4, hC4⟩ := print_drop_of (P := Tryd.prog) Value.string (⟨#[]⟩ : ByteArray) 53 9 .i64 Tryd.underlying53 hj0 hjs (some ad2) cp (y :: vs) 1 (by omega) (by simp; omega) hcp
          have HC4 := Lib.hid (Kd.C_of_reads (h1 := fun _ => rfl) (hA4 _ (Kd.reads_of_C HC2.out)))
          have HL4 := Lib.hid hC4
          have e3 : (1 : Int).toNat = 1 := rfl
          rw [e3, show (y :: vs).drop 1 = vs from rfl] at hcut4 HC4 HL4
          have e4 : (y :: vs).length = vs.length + 1 := rfl
          rw [e4] at hcut4 hcp ⊢
          clear hA4 hC4 e3 e4
          obtain ⟨n, fine, hn⟩ : ∃ n b, numOf y = (n, b) := ⟨_, _, rfl⟩
          have HN := Lib.hid ((text_Number_tells y).trans (congrArg some hn))
          have HNN := Lib.hid hn
          clear hn
          have q0 : ((0 : Int) < (vs.length : Int) + 1) = True := eq_true (by omega)
          have q1 : ((vs.length : Int) + 1 == 0) = false := beq_eq_false_iff_ne.2 (by omega)
          have qc : W2.cell? ⟨g4, 3, none⟩ = some (.string f) := (blk_cell KQ2.out 3).trans rfl
          have qf := blk_frozen KQ2.out 3
          have qlt := blk_lt KQ2.out
          cases is' <;> cases fine
          all_goals
            go_wp2_with (go_at_call 51; (with_reducible refine (text_Number.calls 13 y n _ _ HN.out).mono ?_); rintro e w3 ⟨rfl, ⟨nd3, rfl⟩⟩)
            go_roundg k1
            case measure => omega
            case rel => exact ⟨i + 1, A4, _, vs, y, a, b, d, _, rfl, HC4.out, HL4.out, rfl, by omega, (Below.heap_setCell _ _ _ _ hne4).trans (blk_drewN KI2.out nd3), blk_far (blk_drewN KZ2.out nd3) (show g2 ≠ g4 by omega) _, blk_put (blk_drewN KQ2.out nd3) 3 _ rfl, below_set (pw_below_drewN HB2.out nd3) (by omega), by
              have h9 := HG.out
              simp only [goL_f, goL_a, goL_b, goL_c, HNN.out] at h9
              first | exact h9 | simpa using h9⟩
      · have hnx : ∀ ty, (Instr.next (.pointer (some ⟨gi, 0, none⟩)) true ty).run Tryd.prog wr = .ok (.tuple #[.bool true, .int .i64 i, .int .i32 97]) W2 := fun ty => hnx0 ty (by decide)
        have HG := Lib.hid hG
        clear hnx0 hG
        rcases vs with _ | ⟨y, vs⟩
        · have hRE := HG.out
          rw [goL_none _ _ _ _ _ _ _ (by decide)] at hRE
          injection hRE with g1 g5
          injection g5 with g5 g6
          injection g6 with g6 g7
          injection g7 with g7 g8
          subst g1 g5 g6 g7 g8
          obtain ⟨q0, q1, q2, q3, q4, q5, q6, q7⟩ := req_cells KQ2.out
          obtain ⟨z0, z1, z2, z3, z4, z5, z6, z7⟩ := req_cells KZ2.out
          obtain ⟨f0, f1, f2, f3, f4, f5, f6, f7⟩ := req_frozen KZ2.out
          go_wp2
          refine bodyPost_ret (results_ct rfl _ _ g2 28 (reqCells v l c f a b d) (0, 0) _ rfl (put8_blk _ _ _ _ _ _ _ _ KZ2.out) Tryd.underlying28 rfl (by kernel_rfl)) rfl ?_
          exact ⟨rfl, put8_below _ _ _ _ _ _ _ _ HB2.out hwg⟩
        · obtain ⟨ad2, e2, hy⟩ := Kd.at_string HC2.out 0 (by decide) (by simp)
          subst e2
          have hy : W2.cell? ad2 = some (.string y) := by
            have h0 : w.cell? (ad2.add 0) = some (.string y) := hy
            rw [show ad2.add 0 = ad2 from by simp [Addr.add]] at h0
            exact pw_cell_below HB2.out h0
          obtain ⟨j0, hj0, _, hjs, _⟩ := info_parts info9
          obtain ⟨A4, hcut4, hA4, hC4⟩ := print_drop_of (P := Tryd.prog) Value.string (⟨#[]⟩ : ByteArray) 53 9 .i64 Tryd.underlying53 hj0 hjs (some ad2) cp (y :: vs) 1 (by omega) (by simp; omega) hcp
          have HC4 := Lib.hid (Kd.C_of_reads (h1 := fun _ => rfl) (hA4 _ (Kd.reads_of_C HC2.out)))
          have HL4 := Lib.hid hC4
          have e3 : (1 : Int).toNat = 1 := rfl
          rw [e3, show (y :: vs).drop 1 = vs from rfl] at hcut4 HC4 HL4
          have e4 : (y :: vs).length = vs.length + 1 := rfl
          rw [e4] at hcut4 hcp ⊢
          clear hA4 hC4 e3 e4
          obtain ⟨n, fine, hn⟩ : ∃ n b, numOf y = (n, b) := ⟨_, _, rfl⟩
          have HN := Lib.hid ((text_Number_tells y).trans (congrArg some hn))
          have HNN := Lib.hid hn
          clear hn
          have q0 : ((0 : Int) < (vs.length : Int) + 1) = True := eq_true (by omega)
          have q1 : ((vs.length : Int) + 1 == 0) = false := beq_eq_false_iff_ne.2 (by omega)
          have qc : W2.cell? ⟨g4, 4, none⟩ = some (.int .i64 a) := (blk_cell KQ2.out 4).trans rfl
          have qf := blk_frozen KQ2.out 4
          have qlt := blk_lt KQ2.out
          cases is' <;> cases fine
          all_goals
            go_wp2_with (go_at_call 51; (with_reducible refine (text_Number.calls 13 y n _ _ HN.out).mono ?_); rintro e w3 ⟨rfl, ⟨nd3, rfl⟩⟩)
            go_roundg k1
            case measure => omega
            case rel => exact ⟨i + 1, A4, _, vs, f, n, b, d, _, rfl, HC4.out, HL4.out, rfl, by omega, (Below.heap_setCell _ _ _ _ hne4).trans (blk_drewN KI2.out nd3), blk_far (blk_drewN KZ2.out nd3) (show g2 ≠ g4 by omega) _, blk_put (blk_drewN KQ2.out nd3) 4 _ rfl, below_set (pw_below_drewN HB2.out nd3) (by omega), by
              have h9 := HG.out
              simp only [goL_f, goL_a, goL_b, goL_c, HNN.out] at h9
              first | exact h9 | simpa using h9⟩
      · have hnx : ∀ ty, (Instr.next (.pointer (some ⟨gi, 0, none⟩)) true ty).run Tryd.prog wr = .ok (.tuple #[.bool true, .int .i64 i, .int .i32 98]) W2 := fun ty => hnx0 ty (by decide)
        have HG := Lib.hid hG
        clear hnx0 hG
        rcases vs with _ | ⟨y, vs⟩
        · have hRE := HG.out
          rw [goL_none _ _ _ _ _ _ _ (by decide)] at hRE
          injection hRE with g1 g5
          injection g5 with g5 g6
          injection g6 with g6 g7
          injection g7 with g7 g8
          subst g1 g5 g6 g7 g8
          obtain ⟨q0, q1, q2, q3, q4, q5, q6, q7⟩ := req_cells KQ2.out
          obtain ⟨z0, z1, z2, z3, z4, z5, z6, z7⟩ := req_cells KZ2.out
          obtain ⟨f0, f1, f2, f3, f4, f5, f6, f7⟩ := req_frozen KZ2.out
          go_wp2
          refine bodyPost_ret (results_ct rfl _ _ g2 28 (reqCells v l c f a b d) (0, 0) _ rfl (put8_blk _ _ _ _ _ _ _ _ KZ2.out) Tryd.underlying28 rfl (by kernel_rfl)) rfl ?_
          exact ⟨rfl, put8_below _ _ _ _ _ _ _ _ HB2.out hwg⟩
        · obtain ⟨ad2, e2, hy⟩ := Kd.at_string HC2.out 0 (by decide) (by simp)
          subst e2
          have hy : W2.cell? ad2 = some (.string y) := by
            have h0 : w.cell? (ad2.add 0) = some (.string y) := hy
            rw [show ad2.add 0 = ad2 from by simp [Addr.add]] at h0
            exact pw_cell_below HB2.out h0
          obtain ⟨j0, hj0, _, hjs, _⟩ := info_parts info9
          obtain ⟨A4, hcut4, hA4, hC4⟩ := print_drop_of (P := Tryd.prog) Value.string (⟨#[]⟩ : ByteArray) 53 9 .i64 Tryd.underlying53 hj0 hjs (some ad2) cp (y :: vs) 1 (by omega) (by simp; omega) hcp
          have HC4 := Lib.hid (Kd.C_of_reads (h1 := fun _ => rfl) (hA4 _ (Kd.reads_of_C HC2.out)))
          have HL4 := Lib.hid hC4
          have e3 : (1 : Int).toNat = 1 := rfl
          rw [e3, show (y :: vs).drop 1 = vs from rfl] at hcut4 HC4 HL4
          have e4 : (y :: vs).length = vs.length + 1 := rfl
          rw [e4] at hcut4 hcp ⊢
          clear hA4 hC4 e3 e4
          obtain ⟨n, fine, hn⟩ : ∃ n b, numOf y = (n, b) := ⟨_, _, rfl⟩
          have HN := Lib.hid ((text_Number_tells y).trans (congrArg some hn))
          have HNN := Lib.hid hn
          clear hn
          have q0 : ((0 : Int) < (vs.length : Int) + 1) = True := eq_true (by omega)
          have q1 : ((vs.length : Int) + 1 == 0) = false := beq_eq_false_iff_ne.2 (by omega)
          have qc : W2.cell? ⟨g4, 5, none⟩ = some (.int .i64 b) := (blk_cell KQ2.out 5).trans rfl
          have qf := blk_frozen KQ2.out 5
          have qlt := blk_lt KQ2.out
          cases is' <;> cases fine
          all_goals
            go_wp2_with (go_at_call 51; (with_reducible refine (text_Number.calls 13 y n _ _ HN.out).mono ?_); rintro e w3 ⟨rfl, ⟨nd3, rfl⟩⟩)
            go_roundg k1
            case measure => omega
            case rel => exact ⟨i + 1, A4, _, vs, f, a, n, d, _, rfl, HC4.out, HL4.out, rfl, by omega, (Below.heap_setCell _ _ _ _ hne4).trans (blk_drewN KI2.out nd3), blk_far (blk_drewN KZ2.out nd3) (show g2 ≠ g4 by omega) _, blk_put (blk_drewN KQ2.out nd3) 5 _ rfl, below_set (pw_below_drewN HB2.out nd3) (by omega), by
              have h9 := HG.out
              simp only [goL_f, goL_a, goL_b, goL_c, HNN.out] at h9
              first | exact h9 | simpa using h9⟩
      · have hnx : ∀ ty, (Instr.next (.pointer (some ⟨gi, 0, none⟩)) true ty).run Tryd.prog wr = .ok (.tuple #[.bool true, .int .i64 i, .int .i32 99]) W2 := fun ty => hnx0 ty (by decide)
        have HG := Lib.hid hG
        clear hnx0 hG
        rcases vs with _ | ⟨y, vs⟩
        · have hRE := HG.out
          rw [goL_none _ _ _ _ _ _ _ (by decide)] at hRE
          injection hRE with g1 g5
          injection g5 with g5 g6
          injection g6 with g6 g7
          injection g7 with g7 g8
          subst g1 g5 g6 g7 g8
          obtain ⟨q0, q1, q2, q3, q4, q5, q6, q7⟩ := req_cells KQ2.out
          obtain ⟨z0, z1, z2, z3, z4, z5, z6, z7⟩ := req_cells KZ2.out
          obtain ⟨f0, f1, f2, f3, f4, f5, f6, f7⟩ := req_frozen KZ2.out
          go_wp2
          refine bodyPost_ret (results_ct rfl _ _ g2 28 (reqCells v l c f a b d) (0, 0) _ rfl (put8_blk _ _ _ _ _ _ _ _ KZ2.out) Tryd.underlying28 rfl (by kernel_rfl)) rfl ?_
          exact ⟨rfl, put8_below _ _ _ _ _ _ _ _ HB2.out hwg⟩
        · obtain ⟨ad2, e2, hy⟩ := Kd.at_string HC2.out 0 (by decide) (by simp)
          subst e2
          have hy : W2.cell? ad2 = some (.string y) := by
            have h0 : w.cell? (ad2.add 0) = some (.string y) := hy
            rw [show ad2.add 0 = ad2 from by simp [Addr.add]] at h0
            exact pw_cell_below HB2.out h0
          obtain ⟨j0, hj0, _, hjs, _⟩ := info_parts info9
          obtain ⟨A4, hcut4, hA4, hC4⟩ := print_drop_of (P := Tryd.prog) Value.string (⟨#[]⟩ : ByteArray) 53 9 .i64 Tryd.underlying53 hj0 hjs (some ad2) cp (y :: vs) 1 (by omega) (by simp; omega) hcp
          have HC4 := Lib.hid (Kd.C_of_reads (h1 := fun _ => rfl) (hA4 _ (Kd.reads_of_C HC2.out)))
          have HL4 := Lib.hid hC4
          have e3 : (1 : Int).toNat = 1 := rfl
          rw [e3, show (y :: vs).drop 1 = vs from rfl] at hcut4 HC4 HL4
          have e4 : (y :: vs).length = vs.length + 1 := rfl
          rw [e4] at hcut4 hcp ⊢
          clear hA4 hC4 e3 e4
          obtain ⟨n, fine, hn⟩ : ∃ n b, numOf y = (n, b) := ⟨_, _, rfl⟩
          have HN := Lib.hid ((text_Number_tells y).trans (congrArg some hn))
          have HNN := Lib.hid hn
          clear hn
          have q0 : ((0 : Int) < (vs.length : Int) + 1) = True := eq_true (by omega)
          have q1 : ((vs.length : Int) + 1 == 0) = false := beq_eq_false_iff_ne.2 (by omega)
          have qc : W2.cell? ⟨g4, 6, none⟩ = some (.int .i64 d) := (blk_cell KQ2.out 6).trans rfl
          have qf := blk_frozen KQ2.out 6
          have qlt := blk_lt KQ2.out
          cases is' <;> cases fine
          all_goals
            go_wp2_with (go_at_call 51; (with_reducible refine (text_Number.calls 13 y n _ _ HN.out).mono ?_); rintro e w3 ⟨rfl, ⟨nd3, rfl⟩⟩)
            go_roundg k1
            case measure => omega
            case rel => exact ⟨i + 1, A4, _, vs, f, a, b, n, _, rfl, HC4.out, HL4.out, rfl, by omega, (Below.heap_setCell _ _ _ _ hne4).trans (blk_drewN KI2.out nd3), blk_far (blk_drewN KZ2.out nd3) (show g2 ≠ g4 by omega) _, blk_put (blk_drewN KQ2.out nd3) 6 _ rfl, below_set (pw_below_drewN HB2.out nd3) (by omega), by
              have h9 := HG.out
              simp only [goL_f, goL_a, goL_b, goL_c, HNN.out] at h9
              first | exact h9 | simpa using h9⟩
end Go.Proofs.YthaimkdnddmokaaDoor.P

/- jalousieref21.Print's walk: a request's bytes, as the document has them -/
import Derived.Test.YthaimkdnddmokaaDoorWireRequestsHWRefCheck
import Derived.Test.YthaimkdnddmokaaDoorWireRequestsHWPrintFit
import Derived.Test.YthaimkdnddmokaaDoorWireRequestsPxJalousieref02
import Derived.Test.YthaimkdnddmokaaDoorWireRequestsPxJalousieref01
import Derived.Test.YthaimkdnddmokaaDoorWireRequestsPxJalousieref21
namespace Go.Proofs.YthaimkdnddmokaaDoor.P
open Go.RowKit Go.Proofs.YthaimkdnddmokaaDoorW.PrintWords Go.Proofs.YthaimkdnddmokaaDoorW.PrintLast Go.Proofs.YthaimkdnddmokaaDoorW.PrintMore
set_option linter.unusedVariables false
set_option linter.unusedSimpArgs false
def addNums (out : ByteArray) (a b d : Int) : Nat → ByteArray
  | 0 => out
  | i + 1 => addNums out a b d i ++ ⟨#[32]⟩ ++ decOf (nums3 a b d i)
theorem addNums_size (out : ByteArray) (a b d : Int) : ∀ i, (addNums out a b d i).size ≤ out.size + 21 * i
  | 0 => Nat.le_refl _
  | i + 1 => by
    have h1 := addNums_size out a b d i
    have h2 := dec_small (nums3 a b d i)
    have h3 : (⟨#[32]⟩ : ByteArray).size = 1 := rfl
    unfold addNums
    rw [ByteArray.size_append, ByteArray.size_append]
    omega
def headO (WD LB f : ByteArray) (hasF : Bool) : ByteArray := if hasF = true then WD ++ ⟨#[32]⟩ ++ LB ++ ⟨#[32]⟩ ++ f else WD ++ ⟨#[32]⟩ ++ LB
def refprint4.T : Bool × List (List Nat × List Nat) := (true, [([], []), ([0], [0]), ([1], [1]), ([2], [2]), ([], []), ([4], [4]), ([5, 2], [5]), ([3, 6], [3, 6]), ([7, 6, 0, 1, 2, 3, 4, 5, 6, 7], [7])])
def refprint4.B : List Nat := [0, 1, 3, 7, 0, 16, 55, 127, 255]
theorem refprint4.tab : rtab .any (opsOf Tryd.f20 4) = refprint4.T := by kernel_rfl
theorem refprint4.bits : waitsOk refprint4.T.2 refprint4.B = true := by kernel_rfl
def RefPrintRel (w : World) (gA gL : Nat) (cells : Array Value) (O : ByteArray) (a b d : Int) (n : Nat) (v5 v10 : Value) (wr : World) : Prop := ∃ i : Nat, v10 = .int .i64 i ∧ i ≤ n ∧ v5 = .string (addNums O a b d i) ∧ wr.heap[gA]? = some (.cells cells 28 (0, 0)) ∧ wr.heap[gL]? = some (.cells #[.int .i64 a, .int .i64 b, .int .i64 d] 62 (0, 0)) ∧ Below w.heap.size w wr
set_option maxHeartbeats 8000000 in
set_option maxRecDepth 100000 in
theorem RefPrint.walk (v l c : Int) (f : ByteArray) (a b d : Int) (A0 : Option Addr) (c0 : Nat) (l0 : List Int) (er : Int) (WD LB : ByteArray) (f1 f2 : Bool) (n : Nat) (w : World) (hr0 : Kd.C (Kd.int .u8) w A0 l0.length l0) (hc0 : l0.length ≤ c0) (hl0 : l0.length ≤ 1099511627776) (hfs : f.size ≤ 1099511627776)
    (hck : jalousieref21_Check.f v l c f a b d l0 = some er) (hwd : jalousieref21_Word.f v = some WD) (hws : WD.size ≤ 100) (kl : Nat) (hlb : jalousieref02_Print.f kl l c = some LB) (hls : LB.size ≤ 3000) (hN : jalousieref21_Names.f 2 v = some (f1, ((n : Nat) : Int), f2)) (hn : n ≤ 3) :
    Calls Tryd.prog 20 #[.agg #[.int .i64 v, .int .i64 l, .int .u64 c, .string f, .int .i64 a, .int .i64 b, .int .i64 d, .slice A0 l0.length c0]] w fun e w' => ∃ A cc, e = .returned (.tuple #[.slice A (if er = 0 then bytesOf (addNums (headO WD LB f f1) a b d n ++ ⟨#[10]⟩) ++ l0 else []).length cc, .int .i64 er]) ∧ Kd.C (Kd.int .u8) w' A (if er = 0 then bytesOf (addNums (headO WD LB f f1) a b d n ++ ⟨#[10]⟩) ++ l0 else []).length (if er = 0 then bytesOf (addNums (headO WD LB f f1) a b d n ++ ⟨#[10]⟩) ++ l0 else []) ∧ (if er = 0 then bytesOf (addNums (headO WD LB f f1) a b d n ++ ⟨#[10]⟩) ++ l0 else []).length ≤ cc ∧ Below w.heap.size w w' := by
  have HR0 := Lib.hid hr0
  have HCK := Lib.hid hck
  have HWD := Lib.hid hwd
  have HLB := Lib.hid hlb
  have HN := Lib.hid hN
  have hsz := addNums_size (headO WD LB f f1) a b d
  have hh : (headO WD LB f f1).size ≤ 1099511631000 := by
    have h3 : (⟨#[32]⟩ : ByteArray).size = 1 := rfl
    unfold headO
    split <;> simp only [ByteArray.size_append] <;> omega
  obtain ⟨OUT, hOUT⟩ : ∃ OUT, (if er = 0 then bytesOf (addNums (headO WD LB f f1) a b d n ++ ⟨#[10]⟩) ++ l0 else []) = OUT := ⟨_, rfl⟩
  rw [hOUT]
  have HOUT := Lib.hid hOUT
  have HSZ := Lib.hid hsz
  clear hr0 hck hwd hlb hN hOUT hsz
  obtain ⟨gA, hgA⟩ : ∃ g, w.heap.size = g := ⟨_, rfl⟩
  have KA := Lib.hid (blk_new w (.cells #[.int .i64 v, .int .i64 l, .int .u64 c, .string f, .int .i64 a, .int .i64 b, .int .i64 d, .slice A0 l0.length c0] 28))
  have HB0 := Lib.hid (below_alloc (Below.refl w.heap.size w) (.cells #[.int .i64 v, .int .i64 l, .int .u64 c, .string f, .int .i64 a, .int .i64 b, .int .i64 d, .slice A0 l0.length c0] 28))
  go_enter Tryd.func20, Tryd.ntmps20
  go_wp2_with fail
  rw [hgA] at KA
  try simp only [hgA]
  generalize w.alloc (.cells #[.int .i64 v, .int .i64 l, .int .u64 c, .string f, .int .i64 a, .int .i64 b, .int .i64 d, .slice A0 l0.length c0] 28) = W0 at KA HB0 ⊢
  have HgA := Lib.hid hgA
  clear hgA
  (with_reducible refine (jalousieref21_Check.calls v l c f a b d A0 c0 l0 er W0 (Kd.C_below HR0.out HB0.out) hc0 HCK.out).mono ?_)
  rintro e w1 ⟨rfl, hb⟩
  have KA1 := Lib.hid (blk_below KA.out hb)
  have HB1 := Lib.hid (below_step HB0.out hb)
  clear hb KA HB0
  by_cases he : er = 0
  case neg =>
    have b1 : (er != 0) = true := bne_iff_ne.2 he
    have b2 : (er == 0) = false := beq_eq_false_iff_ne.2 he
    have hO := HOUT.out
    rw [if_neg he] at hO
    subst hO
    clear he
    go_wp2
    go_ret2
    exact ⟨none, 0, rfl, Kd.C_nil _ _, Nat.le_refl _, HB1.out⟩
  subst he
  have b1 : (9223372036854775807 < WD.size + 1) = False := eq_false (by omega)
  have b2 : (9223372036854775807 < WD.size + 1 + LB.size) = False := eq_false (by omega)
  have b3 : (9223372036854775807 < WD.size + 1 + LB.size + 1) = False := eq_false (by omega)
  have b4 : (9223372036854775807 < WD.size + 1 + LB.size + 1 + f.size) = False := eq_false (by omega)
  go_wp2_with fail
  refine start_ (n := 9) (S := fun w' => w'.heap[gA]? = some (.cells #[.int .i64 v, .int .i64 l, .int .u64 c, .string f, .int .i64 a, .int .i64 b, .int .i64 d, .slice A0 l0.length c0] 28 (0, 0))) (ds := []) #[false, false, false, false, false, false, false, false, false] (by kernel_rfl) rfl rfl (blk_drew KA1.out) (fun hHeld => ?_); refine with_tabW refprint4.tab refprint4.bits (fun HT_ HW_ => ?_)
  refine pure_ (i := 0) (N := some 16) (v := ?_) (a' := ?_) #[true, false, false, false, false, false, false, false, false] rfl rfl (any_of HT_.out (by kernel_rfl)) (fun _ _ _ h => h) (Or.inl ⟨by rfl, ?_⟩) ?_ ?_; rotate_left; (intro w'; go_simp; with_reducible rfl); rotate_left; (simp only [Act.put, List.setIfInBounds_toArray, List.set_cons_zero, List.set_cons_succ, i64_w, i32_w]; rfl)
  refine pure_ (i := 4) (N := some 20) (v := ?_) (a' := ?_) #[true, false, false, false, true, false, false, false, false] rfl rfl (any_of HT_.out (by kernel_rfl)) (fun _ _ _ h => h) (Or.inl ⟨by rfl, ?_⟩) ?_ ?_; rotate_left; (intro w'; go_simp; with_reducible rfl); rotate_left; (simp only [Act.put, List.setIfInBounds_toArray, List.set_cons_zero, List.set_cons_succ, i64_w, i32_w]; rfl)
  refine take_ (i := 1) (N := some 17) (v := ?_) (a' := ?_) #[true, true, false, false, true, false, false, false, false] rfl rfl (take_ofW HT_.out HW_.out (by kernel_rfl)) (fun _ _ _ h => h) (Or.inl ⟨by rfl, ?_⟩) hHeld ?_ ?_; rotate_left; (intro w' s0; have e0 : w'.cell? ⟨gA, 0, none⟩ = some (.int .i64 v) := (blk_cell s0 0).trans rfl; go_simp; with_reducible rfl); rotate_left; (simp only [Act.put, List.setIfInBounds_toArray, List.set_cons_zero, List.set_cons_succ, i64_w, i32_w]; rfl)
  refine take_ (i := 5) (N := some 21) (v := ?_) (a' := ?_) #[true, true, false, false, true, true, false, false, false] rfl rfl (take_ofW HT_.out HW_.out (by kernel_rfl)) (fun _ _ _ h => h) (Or.inl ⟨by rfl, ?_⟩) hHeld ?_ ?_; rotate_left; (intro w' s0; have e1 : w'.cell? ⟨gA, 1, none⟩ = some (.int .i64 l) := (blk_cell s0 1).trans rfl; have e2 : w'.cell? ⟨gA, 2, none⟩ = some (.int .u64 c) := (blk_cell s0 2).trans rfl; go_simp; with_reducible rfl); rotate_left; (simp only [Act.put, List.setIfInBounds_toArray, List.set_cons_zero, List.set_cons_succ, i64_w, i32_w]; rfl)
  refine one_ (i := 2) (N := some 18) #[true, true, true, false, true, true, false, false, false] rfl rfl (one_of HT_.out (by kernel_rfl)) (by decide) (fun K hK => ?_)
  refine goes_ Tryd.func23 (by kernel_rfl) rfl #[.int .i64 v] (by rfl) rfl rfl (by (try simp only [List.map_toArray, List.map_cons, List.map_nil]); first | done | rfl) ?_
  (with_reducible refine (jalousieref21_Word.calls v WD _ HWD.out).mono ?_)
  rintro e w2 ⟨rfl, hb⟩
  refine ⟨_, rfl, ?_⟩
  have KA2 := Lib.hid (blk_below (blk_drew KA1.out) hb)
  have HB2 := Lib.hid (below_step (below_drew HB1.out) hb)
  clear hb
  refine hK.out _ _ (KA2.out) (fun hHeld => ?_); clear hK K; refine norm_ (a' := ?_) ?_ ?_; rotate_left; (show Act.put _ (some 18) _ = _; (simp only [Act.put, List.setIfInBounds_toArray, List.set_cons_zero, List.set_cons_succ, i64_w, i32_w]; rfl))
  refine pure_ (i := 3) (N := some 19) (v := ?_) (a' := ?_) #[true, true, true, true, true, true, false, false, false] rfl rfl (any_of HT_.out (by kernel_rfl)) (fun _ _ _ h => h) (Or.inl ⟨by rfl, ?_⟩) ?_ ?_; rotate_left; (intro w'; go_simp; with_reducible rfl); rotate_left; (simp only [Act.put, List.setIfInBounds_toArray, List.set_cons_zero, List.set_cons_succ, i64_w, i32_w]; rfl)
  refine one_ (i := 6) (N := some 22) #[true, true, true, true, true, true, true, false, false] rfl rfl (one_of HT_.out (by kernel_rfl)) (by decide) (fun K hK => ?_)
  refine goes_ Tryd.func40 (by kernel_rfl) rfl #[.agg #[.int .i64 l, .int .u64 c]] (by rfl) rfl rfl (by (try simp only [List.map_toArray, List.map_cons, List.map_nil]); first | done | rfl) ?_
  (with_reducible refine (jalousieref02_Print.calls kl l c LB _ HLB.out).mono ?_)
  rintro e w3 ⟨rfl, hb⟩
  refine ⟨_, rfl, ?_⟩
  have KA3 := Lib.hid (blk_below KA2.out hb)
  have HB3 := Lib.hid (below_step HB2.out hb)
  clear hb
  refine hK.out _ _ (KA3.out) (fun hHeld => ?_); clear hK K; refine norm_ (a' := ?_) ?_ ?_; rotate_left; (show Act.put _ (some 22) _ = _; (simp only [Act.put, List.setIfInBounds_toArray, List.set_cons_zero, List.set_cons_succ, i64_w, i32_w]; rfl))
  refine pure_ (i := 7) (N := some 23) (v := ?_) (a' := ?_) #[true, true, true, true, true, true, true, true, false] rfl rfl (any_of HT_.out (by kernel_rfl)) (fun _ _ _ h => h) (Or.inl ⟨by rfl, ?_⟩) ?_ ?_; rotate_left; (intro w'; go_simp; with_reducible rfl); rotate_left; (simp only [Act.put, List.setIfInBounds_toArray, List.set_cons_zero, List.set_cons_succ, i64_w, i32_w]; rfl)
  refine pure_ (i := 8) (N := some 5) (v := ?_) (a' := ?_) #[true, true, true, true, true, true, true, true, true] rfl rfl (any_of HT_.out (by kernel_rfl)) (fun _ _ _ h => h) (Or.inl ⟨by rfl, ?_⟩) ?_ ?_; rotate_left; (intro w'; go_simp; with_reducible rfl); rotate_left; (simp only [Act.put, List.setIfInBounds_toArray, List.set_cons_zero, List.set_cons_succ, i64_w, i32_w]; rfl)
  refine done_ (done_of HT_.out (by kernel_rfl)) ?_
  have k0_ : w3.cell? ⟨gA, 0, none⟩ = some (.int .i64 v) := (blk_cell KA3.out 0).trans rfl
  go_upto_region 6 with (first | (go_at_call 31; (with_reducible refine (jalousieref21_Names.calls 2 v f1 _ f2 _ HN.out).mono ?_); rintro e w' ⟨rfl, ⟨nd, rfl⟩⟩))
  have KA4 := Lib.hid (blk_drewN KA3.out nd)
  have HB4 := Lib.hid (pw_below_drewN HB3.out nd)
  clear k0_
  generalize w3.drewN nd = w4 at KA4 HB4 ⊢
  obtain ⟨q0, q1, q2, q3, q4, q5, q6, q7⟩ := req_cells KA4.out
  have hAl := blk_lt KA4.out
  have KA5 := Lib.hid (blk_alloc KA4.out (.cells #[.int .i64 a, .int .i64 b, .int .i64 d] 62))
  have KL5 := Lib.hid (blk_new w4 (.cells #[.int .i64 a, .int .i64 b, .int .i64 d] 62))
  have HB5 := Lib.hid (below_alloc HB4.out (.cells #[.int .i64 a, .int .i64 b, .int .i64 d] 62))
  have hwg := Lib.hid (show w.heap.size ≤ gA by rw [HgA.out]; exact Nat.le_refl _)
  cases f1
  all_goals
    go_wp2
    obtain ⟨gL, hgL⟩ : ∃ g, w4.heap.size = g := ⟨_, rfl⟩
    rw [hgL] at KL5
    try simp only [hgL]
    generalize w4.alloc (.cells #[.int .i64 a, .int .i64 b, .int .i64 d] 62) = w5 at KA5 KL5 HB5 ⊢
    have HgL := Lib.hid hgL
    clear q0 q1 q2 q3 q4 q5 q6 q7 hAl hgL b1 b2 b3 b4
    first
      | (obtain ⟨O, hO⟩ : ∃ O, headO WD LB f true = O := ⟨_, rfl⟩
         have hO' : WD ++ ⟨#[32]⟩ ++ LB ++ ⟨#[32]⟩ ++ f = O := hO
         rw [hO'])
      | (obtain ⟨O, hO⟩ : ∃ O, headO WD LB f false = O := ⟨_, rfl⟩
         have hO' : WD ++ ⟨#[32]⟩ ++ LB = O := hO
         rw [hO'])
    clear hO'
    have hsz := HSZ.out
    have hou := HOUT.out
    rw [hO] at hsz hou hh
    rw [if_pos trivial] at hou
    have HSZ2 := Lib.hid hsz
    have HOU2 := Lib.hid hou
    clear hO hsz hou HSZ HOUT
    go_loopw [5, 10] (fun s5 s10 wr => RefPrintRel w gA gL #[.int .i64 v, .int .i64 l, .int .u64 c, .string f, .int .i64 a, .int .i64 b, .int .i64 d, .slice A0 l0.length c0] O a b d n s5 s10 wr) (fun _ s10 _ => n - (intOf s10).toNat)
    case atStart => exact ⟨0, rfl, Nat.zero_le _, rfl, KA5.out, KL5.out, HB5.out⟩
    case round =>
      clear KA5 KL5 HB5
      obtain ⟨i, rfl, hi, rfl, kA, kL, hB⟩ := hrel
      have KA := Lib.hid kA
      have KL := Lib.hid kL
      have HB := Lib.hid hB
      clear kA kL hB
      have hX := HSZ2.out i
      by_cases hlt : i < n
      · have dlt : decide ((i : Int) < (n : Int)) = true := decide_eq_true (by omega)
        have hD := dec_small (nums3 a b d i)
        have HD := Lib.hid (ref_Decimal_tells (nums3 a b d i))
        obtain ⟨X2, hX2⟩ : ∃ X2, addNums O a b d (i + 1) = X2 := ⟨_, rfl⟩
        have hX2' : addNums O a b d i ++ ⟨#[32]⟩ ++ decOf (nums3 a b d i) = X2 := hX2
        have HX2 := Lib.hid hX2
        clear hX2
        generalize decOf (nums3 a b d i) = D at hD HD hX2'
        generalize addNums O a b d i = X at hX hX2'
        have HXX := Lib.hid hX2'
        clear hX2'
        have e1 : (9223372036854775807 < X.size + 1) = False := eq_false (by omega)
        have e2 : (9223372036854775807 < X.size + 1 + D.size) = False := eq_false (by omega)
        have hcl : wr.cell? ⟨gL, i, none⟩ = some (.int .i64 (nums3 a b d i)) := by
          have hi3 : i = 0 ∨ i = 1 ∨ i = 2 := by omega
          rcases hi3 with rfl | rfl | rfl
          · exact (blk_cell KL.out 0).trans rfl
          · exact (blk_cell KL.out 1).trans rfl
          · exact (blk_cell KL.out 2).trans rfl
        have hi3 : i = 0 ∨ i = 1 ∨ i = 2 := by omega
        have HLT := Lib.hid hlt
        clear hlt
        rcases hi3 with rfl | rfl | rfl
        · have dl : decide ((0 : Int) < (n : Int)) = true := decide_eq_true (by have := HLT.out; omega)
          go_wp2_with (go_at_call 41; (with_reducible refine (jalousieref01_Decimal.calls 20 _ D _ HD.out).mono ?_); rintro e w7 ⟨rfl, hb⟩; have KA7 := Lib.hid (blk_below KA.out hb); have KL7 := Lib.hid (blk_below KL.out hb); have HB7 := Lib.hid (below_step HB.out hb); clear hb)
          go_roundw
          case rel => exact ⟨0 + 1, by first | rfl | go_num, HLT.out, by rw [HX2.out, ← HXX.out], KA7.out, KL7.out, HB7.out⟩
          case measure => have := HLT.out; simp [intOf]; omega
        · have dl : decide ((1 : Int) < (n : Int)) = true := decide_eq_true (by have := HLT.out; omega)
          go_wp2_with (go_at_call 41; (with_reducible refine (jalousieref01_Decimal.calls 20 _ D _ HD.out).mono ?_); rintro e w7 ⟨rfl, hb⟩; have KA7 := Lib.hid (blk_below KA.out hb); have KL7 := Lib.hid (blk_below KL.out hb); have HB7 := Lib.hid (below_step HB.out hb); clear hb)
          go_roundw
          case rel => exact ⟨1 + 1, by first | rfl | go_num, HLT.out, by rw [HX2.out, ← HXX.out], KA7.out, KL7.out, HB7.out⟩
          case measure => have := HLT.out; simp [intOf]; omega
        · have dl : decide ((2 : Int) < (n : Int)) = true := decide_eq_true (by have := HLT.out; omega)
          go_wp2_with (go_at_call 41; (with_reducible refine (jalousieref01_Decimal.calls 20 _ D _ HD.out).mono ?_); rintro e w7 ⟨rfl, hb⟩; have KA7 := Lib.hid (blk_below KA.out hb); have KL7 := Lib.hid (blk_below KL.out hb); have HB7 := Lib.hid (below_step HB.out hb); clear hb)
          go_roundw
          case rel => exact ⟨2 + 1, by first | rfl | go_num, HLT.out, by rw [HX2.out, ← HXX.out], KA7.out, KL7.out, HB7.out⟩
          case measure => have := HLT.out; simp [intOf]; omega
      · obtain rfl : i = n := by omega
        have dlt : decide ((i : Int) < (i : Int)) = false := decide_eq_false (by omega)
        generalize addNums O a b d i = X at hX HOU2
        have e1 : (9223372036854775807 < X.size + 1) = False := eq_false (by omega)
        obtain ⟨T, hTT⟩ : ∃ T, X ++ (⟨#[10]⟩ : ByteArray) = T := ⟨_, rfl⟩
        have hTs : T.size = X.size + 1 := by rw [← hTT, ByteArray.size_append]; rfl
        have hou := HOU2.out
        rw [hTT] at hou
        have HOU3 := Lib.hid hou
        have HTS := Lib.hid hTs
        have hTb : T.size ≤ 2199023255552 := by omega
        clear hou hTs HOU2 HSZ2
        have hkb := print_bytes (P := Tryd.prog) 9 22 5 Tryd.underlying9 Tryd.underlying22 Tryd.underlying5 T wr
        obtain ⟨i0, hi0, hz0, hsz0, hb0⟩ := info_parts info5
        have HB8 := Lib.hid (bytes_below HB.out HB.out.size 5 T)
        have KA8 := Lib.hid (show (Lib.bytesWorld wr 5 T).heap[gA]? = some (.cells #[.int .i64 v, .int .i64 l, .int .u64 c, .string f, .int .i64 a, .int .i64 b, .int .i64 d, .slice A0 l0.length c0] 28 (0, 0)) from (Lib.bytesWorld_at_old wr 5 T gA (blk_lt KA.out)).trans KA.out)
        have qc : (Lib.bytesWorld wr 5 T).cell? ⟨gA, 7, none⟩ = some (.slice A0 l0.length c0) := (blk_cell KA8.out 7).trans rfl
        obtain ⟨A9, c9, w9, hrun, hC9, hc9, hb9⟩ := bytes_append (t := 22) (ty := 22) (c := c0) Tryd.underlying22 hi0 hz0 hsz0 hb0 (Lib.bytesWorld_at_new wr 5 T) (Kd.C_below HR0.out HB8.out) (by omega)
        have HRUN := Lib.hid hrun
        have HB9 := Lib.hid (HB8.out.trans (hb9.mono HB.out.size))
        have HC9 := Lib.hid hC9
        have HL9 := Lib.hid hc9
        clear hrun hC9 hc9 hb9
        go_wp2_with ((with_reducible refine gate_builtin (b := .append) (xs := #[.tmp 58, .tmp 60]) rfl ?_); at_builtin; refine Kd.event_run rfl (append_run rfl rfl rfl rfl HRUN.out) ?_)
        go_ret2
        have e2 : OUT.length = T.size + l0.length := by rw [← HOU3.out, List.length_append, bytesOf_length]
        exact ⟨A9, c9, by rw [e2]; rfl, by rw [e2, ← HOU3.out]; exact HC9.out, by rw [e2]; exact HL9.out, HB9.out⟩
end Go.Proofs.YthaimkdnddmokaaDoor.P

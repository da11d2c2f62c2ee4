/- jalousieref21.Check: what is wrong with a request, as the document has it -/
import Derived.Test.YthaimkdnddmokaaDoorWireParsesGHTabs
import Derived.Test.YthaimkdnddmokaaDoorWireParsesHWCheck
import Derived.Test.YthaimkdnddmokaaDoorWireParsesPxJalousieref21
import Derived.Test.YthaimkdnddmokaaDoorWireParsesPxJalousieref02
import Derived.Deep.DeepCutAuto
namespace Go.Proofs.YthaimkdnddmokaaDoor.P
open Go.RowKit Go.Proofs.YthaimkdnddmokaaDoorW.PrintWords Go.Proofs.YthaimkdnddmokaaDoorW.PrintLast Go.Proofs.YthaimkdnddmokaaDoorW.PrintMore
set_option linter.unusedVariables false
set_option linter.unusedSimpArgs false
def okR (x : Int) (named : Bool) : Bool := decide (0 ≤ x) && (decide (x ≤ 2147483647) && (named || decide (x = 0)))
def badF (f1 fk fz f2 bz : Bool) : Bool := (f1 && !fk) || (!f1 && fz) || (!f2 && bz)
def checkC (em rt bad o1 o2 o3 : Bool) (n : Nat) : Int := if em = true then 3 else if rt = false then 3 else if bad = true then 3 else if o1 = false then 3 else if o2 = false then 3 else if o3 = false then 3 else if 32768 < n then 4 else 0
theorem okR_cases (x : Int) (i n : Nat) : (x < 0 ∧ okR x (decide (i < n)) = false) ∨ (0 ≤ x ∧ 2147483647 < x ∧ okR x (decide (i < n)) = false) ∨ (0 ≤ x ∧ x ≤ 2147483647 ∧ n ≤ i ∧ ¬ x = 0 ∧ okR x (decide (i < n)) = false) ∨ (0 ≤ x ∧ x ≤ 2147483647 ∧ n ≤ i ∧ x = 0 ∧ okR x (decide (i < n)) = true) ∨ (0 ≤ x ∧ x ≤ 2147483647 ∧ i < n ∧ okR x (decide (i < n)) = true) := by
  by_cases h0 : 0 ≤ x
  · by_cases h1 : x ≤ 2147483647
    · by_cases h2 : i < n
      · exact .inr (.inr (.inr (.inr ⟨h0, h1, h2, by simp [okR, h0, h1, h2]⟩)))
      · by_cases h3 : x = 0
        · exact .inr (.inr (.inr (.inl ⟨h0, h1, by omega, h3, by simp [okR, h0, h1, h2, h3]⟩)))
        · exact .inr (.inr (.inl ⟨h0, h1, by omega, h3, by simp [okR, h0, h1, h2, h3]⟩))
    · exact .inr (.inl ⟨h0, by omega, by simp [okR, h1]⟩)
  · exact .inl ⟨by omega, by simp [okR, h0]⟩
theorem checkC_num (o1 o2 o3 : Bool) (n : Nat) (h : o1 = false ∨ o2 = false ∨ o3 = false) : checkC false true false o1 o2 o3 n = 3 := by
  unfold checkC
  rcases h with rfl | rfl | rfl
  · simp
  · cases o1 <;> simp
  · cases o1 <;> cases o2 <;> simp
def nums3 (a b d : Int) (i : Nat) : Int := if i = 0 then a else if i = 1 then b else d
def RefCheckRel (a b d : Int) (n : Nat) (v7 : Value) : Prop := ∃ i : Nat, v7 = .int .i64 i ∧ i ≤ 3 ∧ ∀ j, j < i → okR (nums3 a b d j) (decide (j < n)) = true
set_option maxHeartbeats 4000000 in
set_option maxRecDepth 100000 in
theorem RefCheck.walk (v l c : Int) (file : ByteArray) (a b d : Int) (A0 : Option Addr) (n0 c0 : Nat) (S : ByteArray) (rt f1 f2 fk : Bool) (n : Nat) (kf : Nat) (w : World) (hn0 : n0 ≤ 9223372036854775807) (hf0 : file.size ≤ 9223372036854775807) (hn : n ≤ 3) (hW : jalousieref21_Word.f v = some S) (hSz : S.size ≤ 100) (hR : jalousieref02_Right.f l c = some rt)
    (hN : jalousieref21_Names.f 2 v = some (f1, ((n : Nat) : Int), f2)) (hk : jalousieref21_File.f kf file = some fk) :
    Calls Tryd.prog 22 #[.agg #[.int .i64 v, .int .i64 l, .int .u64 c, .string file, .int .i64 a, .int .i64 b, .int .i64 d, .slice A0 n0 c0]] w fun e w' => e = .returned (.int .i64 (checkC (decide (S.size = 0)) rt (badF f1 fk (decide (0 < file.size)) f2 (decide (0 < n0))) (okR a (decide (0 < n))) (okR b (decide (1 < n))) (okR d (decide (2 < n))) n0)) ∧ Below w.heap.size w w' := by
  obtain ⟨RES, hRES⟩ : ∃ R, checkC (decide (S.size = 0)) rt (badF f1 fk (decide (0 < file.size)) f2 (decide (0 < n0))) (okR a (decide (0 < n))) (okR b (decide (1 < n))) (okR d (decide (2 < n))) n0 = R := ⟨_, rfl⟩
  rw [hRES]
  have HRES := Lib.hid hRES
  clear hRES
  have HW := Lib.hid hW
  have HR := Lib.hid hR
  have HN := Lib.hid hN
  have HK := Lib.hid hk
  clear hW hR hN hk
  obtain ⟨gA, hgA⟩ : ∃ g, w.heap.size = g := ⟨_, rfl⟩
  have KA := Lib.hid (blk_new w (.cells #[.int .i64 v, .int .i64 l, .int .u64 c, .string file, .int .i64 a, .int .i64 b, .int .i64 d, .slice A0 n0 c0] 28))
  have HB0 := Lib.hid (below_alloc (Below.refl w.heap.size w) (.cells #[.int .i64 v, .int .i64 l, .int .u64 c, .string file, .int .i64 a, .int .i64 b, .int .i64 d, .slice A0 n0 c0] 28))
  go_enter Tryd.func22, Tryd.ntmps22
  go_wp2_with fail
  rw [hgA] at KA
  generalize w.alloc (.cells #[.int .i64 v, .int .i64 l, .int .u64 c, .string file, .int .i64 a, .int .i64 b, .int .i64 d, .slice A0 n0 c0] 28) = W0 at KA HB0 ⊢
  try simp only [hgA]
  have HgA := Lib.hid hgA
  clear hgA
  (with_reducible refine (jalousieref21_Word.calls v S W0 HW.out).mono ?_)
  rintro e w1 ⟨rfl, hb⟩
  have KA1 := Lib.hid (blk_below KA.out hb)
  have HB1 := Lib.hid (below_step HB0.out hb)
  clear hb
  have c1_ : w1.cell? ⟨gA, 1, none⟩ = some (.int .i64 l) := (blk_cell KA1.out 1).trans rfl
  have c2_ : w1.cell? ⟨gA, 2, none⟩ = some (.int .u64 c) := (blk_cell KA1.out 2).trans rfl
  by_cases hS : S.size = 0
  · have b1 : ((S.size : Int) == 0) = true := by simpa using hS
    go_wp2
    go_ret
    exact ⟨by rw [← HRES.out]; simp [checkC, hS], HB1.out⟩
  have b1 : ((S.size : Int) == 0) = false := by simpa using hS
  have HSD := Lib.hid (decide_eq_false hS)
  have HSS := Lib.hid hS
  clear hS
  go_wp2_with fail
  (with_reducible refine (jalousieref02_Right.calls l c rt w1 HR.out).mono ?_)
  rintro e w2 ⟨rfl, hb⟩
  have KA2 := Lib.hid (blk_below KA1.out hb)
  have HB2 := Lib.hid (below_step HB1.out hb)
  clear hb c1_ c2_
  have c0_ : w2.cell? ⟨gA, 0, none⟩ = some (.int .i64 v) := (blk_cell KA2.out 0).trans rfl
  have c3_ : w2.cell? ⟨gA, 3, none⟩ = some (.string file) := (blk_cell KA2.out 3).trans rfl
  have c4_ : w2.cell? ⟨gA, 4, none⟩ = some (.int .i64 a) := (blk_cell KA2.out 4).trans rfl
  have c5_ : w2.cell? ⟨gA, 5, none⟩ = some (.int .i64 b) := (blk_cell KA2.out 5).trans rfl
  have c6_ : w2.cell? ⟨gA, 6, none⟩ = some (.int .i64 d) := (blk_cell KA2.out 6).trans rfl
  have c7_ : w2.cell? ⟨gA, 7, none⟩ = some (.slice A0 n0 c0) := (blk_cell KA2.out 7).trans rfl
  cases rt with
  | false =>
    go_wp2
    go_ret
    exact ⟨by rw [← HRES.out, HSD.out]; rfl, HB2.out⟩
  | true =>
    go_upto_region 4 with (first | (go_at_call 31; (with_reducible refine (jalousieref21_Names.calls 2 v f1 _ f2 _ HN.out).mono ?_); rintro e w' ⟨rfl, ⟨nd, rfl⟩⟩))
    obtain ⟨bad, hbad⟩ : ∃ q, badF f1 fk (decide (0 < file.size)) f2 (decide (0 < n0)) = q := ⟨_, rfl⟩
    have HBAD := Lib.hid hbad
    clear hbad
    go_cut [52] (fun s52 wx => s52 = .bool bad ∧ ∃ m, wx = w2.drewN m)
    case first =>
      have hq0 : ∀ x : Nat, decide ((0 : Int) < (x : Int)) = decide (0 < x) := fun x => by simp
      obtain ⟨fz, hfz⟩ : ∃ q, decide (0 < file.size) = q := ⟨_, rfl⟩
      obtain ⟨bz, hbz⟩ : ∃ q, decide (0 < n0) = q := ⟨_, rfl⟩
      cases f1 <;> cases f2
      all_goals
        go_wp2_with (first | (go_at_call 48; (with_reducible refine (jalousieref21_File.calls kf file fk _ HK.out).mono ?_); rintro e w' ⟨rfl, ⟨nd, rfl⟩⟩))
      all_goals (go_meet; exact ⟨by rw [← HBAD.out]; simp_all [badF], by first | exact ⟨0, rfl⟩ | exact ⟨_, rfl⟩ | exact ⟨_, World.drewN_drewN _ _ _⟩⟩)
    case rest =>
      obtain ⟨rfl, m, rfl⟩ := hcut
      have HSD2 := Lib.hid (show decide (S.size = 0) = false from HSD.out)
      cases bad with
      | true =>
        go_wp2
        go_ret
        exact ⟨by rw [← HRES.out, HSD2.out, HBAD.out]; rfl, pw_below_drewN HB2.out m⟩
      | false =>
        have HB3 := Lib.hid (pw_below_drewN HB2.out m)
        have d4_ := cell_dn m c4_
        have d5_ := cell_dn m c5_
        have d6_ := cell_dn m c6_
        have d7_ := cell_dn m c7_
        clear c0_ c3_ c4_ c5_ c6_ c7_
        generalize w2.drewN m = w3 at HB3 d4_ d5_ d6_ d7_ ⊢
        have hlt := World.block_lt_of_cell? w3 _ d7_
        go_wp2
        go_loop [7] (fun v7 => RefCheckRel a b d n v7) (fun v7 => 3 - (intOf v7).toNat)
        case atStart => exact ⟨0, rfl, by omega, fun j hj => absurd hj (Nat.not_lt_zero _)⟩
        case round =>
        obtain ⟨i, rfl, hi, hno⟩ := hrel
        have HNO := Lib.hid hno
        clear hno
        have hi4 : i = 0 ∨ i = 1 ∨ i = 2 ∨ i = 3 := by omega
        clear hi
        rcases hi4 with rfl | rfl | rfl | rfl
        · obtain ⟨q1, q2⟩ | ⟨q0, q1, q2⟩ | ⟨q0, q1, q3, q4, q2⟩ | ⟨q0, q1, q3, q4, q2⟩ | ⟨q0, q1, q3, q2⟩ := okR_cases a 0 n
          · have q2 := Lib.hid q2
            have e1 : decide (a < 0) = true := decide_eq_true q1
            go_wp2
            go_ret
            exact ⟨by rw [← HRES.out, HSD2.out, HBAD.out, checkC_num _ _ _ _ (by first | exact .inl q2.out | exact .inr (.inl q2.out) | exact .inr (.inr q2.out))]; rfl, by repeat (first | exact HB3.out | apply below_alloc)⟩
          · have q2 := Lib.hid q2
            have e1 : decide (a < 0) = false := decide_eq_false (by omega)
            have e2 : decide (2147483647 < a) = true := decide_eq_true q1
            go_wp2
            go_ret
            exact ⟨by rw [← HRES.out, HSD2.out, HBAD.out, checkC_num _ _ _ _ (by first | exact .inl q2.out | exact .inr (.inl q2.out) | exact .inr (.inr q2.out))]; rfl, by repeat (first | exact HB3.out | apply below_alloc)⟩
          · have q2 := Lib.hid q2
            have e1 : decide (a < 0) = false := decide_eq_false (by omega)
            have e2 : decide (2147483647 < a) = false := decide_eq_false (by omega)
            have e3 : decide ((n : Int) ≤ 0) = true := decide_eq_true (by omega)
            have e4 : (a != 0) = true := bne_iff_ne.2 q4
            have e5 : (a == 0) = false := beq_eq_false_iff_ne.2 q4
            have q3 := Lib.hid q3
            go_wp2
            go_ret
            exact ⟨by rw [← HRES.out, HSD2.out, HBAD.out, checkC_num _ _ _ _ (by first | exact .inl q2.out | exact .inr (.inl q2.out) | exact .inr (.inr q2.out))]; rfl, by repeat (first | exact HB3.out | apply below_alloc)⟩
          · have q2 := Lib.hid q2
            have e1 : decide (a < 0) = false := decide_eq_false (by omega)
            have e2 : decide (2147483647 < a) = false := decide_eq_false (by omega)
            have e3 : decide ((n : Int) ≤ 0) = true := decide_eq_true (by omega)
            have e4 : (a != 0) = false := by rw [q4]; rfl
            have e5 : (a == 0) = true := by rw [q4]; rfl
            have q4 := Lib.hid q4
            have q3 := Lib.hid q3
            go_wp2
            go_round
            case rel => exact ⟨0 + 1, by go_num, by omega, fun j hj => by
              have h0 : okR (nums3 a b d j) (decide (j < n)) = true := by
                rcases Nat.lt_succ_iff_lt_or_eq.1 hj with hj | rfl
                · exact HNO.out j hj
                · exact q2.out
              first
                | exact h0
                | (rw [q4.out] at h0; exact h0)
                | (rw [q4.out, show n = 0 from by have := q3.out; omega] at h0; exact h0)⟩
            case measure => simp [intOf]
          · have q2 := Lib.hid q2
            have e1 : decide (a < 0) = false := decide_eq_false (by omega)
            have e2 : decide (2147483647 < a) = false := decide_eq_false (by omega)
            have e3 : decide ((n : Int) ≤ 0) = false := decide_eq_false (by omega)
            have q3 := Lib.hid q3
            go_wp2
            go_round
            case rel => exact ⟨0 + 1, by go_num, by omega, fun j hj => by
              have h0 : okR (nums3 a b d j) (decide (j < n)) = true := by
                rcases Nat.lt_succ_iff_lt_or_eq.1 hj with hj | rfl
                · exact HNO.out j hj
                · exact q2.out
              first
                | exact h0
                | (rw [q4.out] at h0; exact h0)
                | (rw [q4.out, show n = 0 from by have := q3.out; omega] at h0; exact h0)⟩
            case measure => simp [intOf]
        · obtain ⟨q1, q2⟩ | ⟨q0, q1, q2⟩ | ⟨q0, q1, q3, q4, q2⟩ | ⟨q0, q1, q3, q4, q2⟩ | ⟨q0, q1, q3, q2⟩ := okR_cases b 1 n
          · have q2 := Lib.hid q2
            have e1 : decide (b < 0) = true := decide_eq_true q1
            go_wp2
            go_ret
            exact ⟨by rw [← HRES.out, HSD2.out, HBAD.out, checkC_num _ _ _ _ (by first | exact .inl q2.out | exact .inr (.inl q2.out) | exact .inr (.inr q2.out))]; rfl, by repeat (first | exact HB3.out | apply below_alloc)⟩
          · have q2 := Lib.hid q2
            have e1 : decide (b < 0) = false := decide_eq_false (by omega)
            have e2 : decide (2147483647 < b) = true := decide_eq_true q1
            go_wp2
            go_ret
            exact ⟨by rw [← HRES.out, HSD2.out, HBAD.out, checkC_num _ _ _ _ (by first | exact .inl q2.out | exact .inr (.inl q2.out) | exact .inr (.inr q2.out))]; rfl, by repeat (first | exact HB3.out | apply below_alloc)⟩
          · have q2 := Lib.hid q2
            have e1 : decide (b < 0) = false := decide_eq_false (by omega)
            have e2 : decide (2147483647 < b) = false := decide_eq_false (by omega)
            have e3 : decide ((n : Int) ≤ 1) = true := decide_eq_true (by omega)
            have e4 : (b != 0) = true := bne_iff_ne.2 q4
            have e5 : (b == 0) = false := beq_eq_false_iff_ne.2 q4
            have q3 := Lib.hid q3
            go_wp2
            go_ret
            exact ⟨by rw [← HRES.out, HSD2.out, HBAD.out, checkC_num _ _ _ _ (by first | exact .inl q2.out | exact .inr (.inl q2.out) | exact .inr (.inr q2.out))]; rfl, by repeat (first | exact HB3.out | apply below_alloc)⟩
          · have q2 := Lib.hid q2
            have e1 : decide (b < 0) = false := decide_eq_false (by omega)
            have e2 : decide (2147483647 < b) = false := decide_eq_false (by omega)
            have e3 : decide ((n : Int) ≤ 1) = true := decide_eq_true (by omega)
            have e4 : (b != 0) = false := by rw [q4]; rfl
            have e5 : (b == 0) = true := by rw [q4]; rfl
            have q4 := Lib.hid q4
            have q3 := Lib.hid q3
            go_wp2
            go_round
            case rel => exact ⟨1 + 1, by go_num, by omega, fun j hj => by
              have h0 : okR (nums3 a b d j) (decide (j < n)) = true := by
                rcases Nat.lt_succ_iff_lt_or_eq.1 hj with hj | rfl
                · exact HNO.out j hj
                · exact q2.out
              first
                | exact h0
                | (rw [q4.out] at h0; exact h0)
                | (rw [q4.out, show n = 0 from by have := q3.out; omega] at h0; exact h0)⟩
            case measure => simp [intOf]
          · have q2 := Lib.hid q2
            have e1 : decide (b < 0) = false := decide_eq_false (by omega)
            have e2 : decide (2147483647 < b) = false := decide_eq_false (by omega)
            have e3 : decide ((n : Int) ≤ 1) = false := decide_eq_false (by omega)
            have q3 := Lib.hid q3
            go_wp2
            go_round
            case rel => exact ⟨1 + 1, by go_num, by omega, fun j hj => by
              have h0 : okR (nums3 a b d j) (decide (j < n)) = true := by
                rcases Nat.lt_succ_iff_lt_or_eq.1 hj with hj | rfl
                · exact HNO.out j hj
                · exact q2.out
              first
                | exact h0
                | (rw [q4.out] at h0; exact h0)
                | (rw [q4.out, show n = 0 from by have := q3.out; omega] at h0; exact h0)⟩
            case measure => simp [intOf]
        · obtain ⟨q1, q2⟩ | ⟨q0, q1, q2⟩ | ⟨q0, q1, q3, q4, q2⟩ | ⟨q0, q1, q3, q4, q2⟩ | ⟨q0, q1, q3, q2⟩ := okR_cases d 2 n
          · have q2 := Lib.hid q2
            have e1 : decide (d < 0) = true := decide_eq_true q1
            go_wp2
            go_ret
            exact ⟨by rw [← HRES.out, HSD2.out, HBAD.out, checkC_num _ _ _ _ (by first | exact .inl q2.out | exact .inr (.inl q2.out) | exact .inr (.inr q2.out))]; rfl, by repeat (first | exact HB3.out | apply below_alloc)⟩
          · have q2 := Lib.hid q2
            have e1 : decide (d < 0) = false := decide_eq_false (by omega)
            have e2 : decide (2147483647 < d) = true := decide_eq_true q1
            go_wp2
            go_ret
            exact ⟨by rw [← HRES.out, HSD2.out, HBAD.out, checkC_num _ _ _ _ (by first | exact .inl q2.out | exact .inr (.inl q2.out) | exact .inr (.inr q2.out))]; rfl, by repeat (first | exact HB3.out | apply below_alloc)⟩
          · have q2 := Lib.hid q2
            have e1 : decide (d < 0) = false := decide_eq_false (by omega)
            have e2 : decide (2147483647 < d) = false := decide_eq_false (by omega)
            have e3 : decide ((n : Int) ≤ 2) = true := decide_eq_true (by omega)
            have e4 : (d != 0) = true := bne_iff_ne.2 q4
            have e5 : (d == 0) = false := beq_eq_false_iff_ne.2 q4
            have q3 := Lib.hid q3
            go_wp2
            go_ret
            exact ⟨by rw [← HRES.out, HSD2.out, HBAD.out, checkC_num _ _ _ _ (by first | exact .inl q2.out | exact .inr (.inl q2.out) | exact .inr (.inr q2.out))]; rfl, by repeat (first | exact HB3.out | apply below_alloc)⟩
          · have q2 := Lib.hid q2
            have e1 : decide (d < 0) = false := decide_eq_false (by omega)
            have e2 : decide (2147483647 < d) = false := decide_eq_false (by omega)
            have e3 : decide ((n : Int) ≤ 2) = true := decide_eq_true (by omega)
            have e4 : (d != 0) = false := by rw [q4]; rfl
            have e5 : (d == 0) = true := by rw [q4]; rfl
            have q4 := Lib.hid q4
            have q3 := Lib.hid q3
            go_wp2
            go_round
            case rel => exact ⟨2 + 1, by go_num, by omega, fun j hj => by
              have h0 : okR (nums3 a b d j) (decide (j < n)) = true := by
                rcases Nat.lt_succ_iff_lt_or_eq.1 hj with hj | rfl
                · exact HNO.out j hj
                · exact q2.out
              first
                | exact h0
                | (rw [q4.out] at h0; exact h0)
                | (rw [q4.out, show n = 0 from by have := q3.out; omega] at h0; exact h0)⟩
            case measure => simp [intOf]
          · have q2 := Lib.hid q2
            have e1 : decide (d < 0) = false := decide_eq_false (by omega)
            have e2 : decide (2147483647 < d) = false := decide_eq_false (by omega)
            have e3 : decide ((n : Int) ≤ 2) = false := decide_eq_false (by omega)
            have q3 := Lib.hid q3
            go_wp2
            go_round
            case rel => exact ⟨2 + 1, by go_num, by omega, fun j hj => by
              have h0 : okR (nums3 a b d j) (decide (j < n)) = true := by
                rcases Nat.lt_succ_iff_lt_or_eq.1 hj with hj | rfl
                · exact HNO.out j hj
                · exact q2.out
              first
                | exact h0
                | (rw [q4.out] at h0; exact h0)
                | (rw [q4.out, show n = 0 from by have := q3.out; omega] at h0; exact h0)⟩
            case measure => simp [intOf]
        · have o1 : okR a (decide (0 < n)) = true := HNO.out 0 (by omega)
          have o2 : okR b (decide (1 < n)) = true := HNO.out 1 (by omega)
          have o3 : okR d (decide (2 < n)) = true := HNO.out 2 (by omega)
          have HO := Lib.hid (show checkC false true false (okR a (decide (0 < n))) (okR b (decide (1 < n))) (okR d (decide (2 < n))) n0 = if 32768 < n0 then 4 else 0 by rw [o1, o2, o3]; rfl)
          clear o1 o2 o3
          by_cases hz : 32768 < n0
          · have e1 : decide ((32768 : Int) < (n0 : Int)) = true := decide_eq_true (by omega)
            have HZ := Lib.hid hz
            clear hz
            go_wp2
            go_ret
            exact ⟨by rw [← HRES.out, HSD2.out, HBAD.out, HO.out, if_pos HZ.out]; rfl, by repeat (first | exact HB3.out | apply below_alloc)⟩
          · have e1 : decide ((32768 : Int) < (n0 : Int)) = false := decide_eq_false (by omega)
            have HZ := Lib.hid hz
            clear hz
            go_wp2
            go_ret
            exact ⟨by rw [← HRES.out, HSD2.out, HBAD.out, HO.out, if_neg HZ.out]; rfl, by repeat (first | exact HB3.out | apply below_alloc)⟩
end Go.Proofs.YthaimkdnddmokaaDoor.P

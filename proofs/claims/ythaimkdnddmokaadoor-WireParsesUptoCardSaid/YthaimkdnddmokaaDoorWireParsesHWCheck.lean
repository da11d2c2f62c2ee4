/- wire.Check: what is wrong with a request -/
import Derived.Test.YthaimkdnddmokaaDoorWireParsesGHTabs
import Derived.Test.YthaimkdnddmokaaDoorWireParsesGHWFields
import Derived.Test.YthaimkdnddmokaaDoorWireParsesPxWire
import Derived.Test.YthaimkdnddmokaaDoorWireParsesPxLabel
import Derived.Deep.QuietTactic
import Derived.BigQuiet
namespace Go.Proofs.YthaimkdnddmokaaDoor.P
open Go.RowKit Go.Proofs.YthaimkdnddmokaaDoorW.PrintWords Go.Proofs.YthaimkdnddmokaaDoorW.PrintLast Go.Proofs.YthaimkdnddmokaaDoorW.PrintMore
set_option linter.unusedVariables false
set_option linter.unusedSimpArgs false
theorem cell_dn {w : World} {a : Addr} {v : Value} (n : Nat) (h : w.cell? a = some v) : (w.drewN n).cell? a = some v := h
set_option maxHeartbeats 1000000 in
theorem Check1.calls (g : Nat) (s a0 : ByteArray) (r : Bool) (w : World) (hc : w.cell? ⟨g, 0, none⟩ = some (.string s)) (h : strings_Contains.f s a0 = some r) :
    Calls Tryd.prog 42 #[.string a0, .pointer (some ⟨g, 0, none⟩)] w fun e w' => e = .returned (.bool r) ∧ Drawn0 w w' := by
  have H := Lib.hid h
  clear h
  go_enter Tryd.func42, Tryd.ntmps42
  go_wp2_with (go_at_call 43; (with_reducible refine (strings_Contains.calls _ _ r _ H.out).mono ?_); rintro e w' ⟨rfl, ⟨nd, rfl⟩⟩)
  go_ret
  exact ⟨rfl, by repeat (first | exact Drawn0.refl _ | apply Drawn0.step)⟩
def checkB (em rt f1 fk ef o1 o2 o3 f2 : Bool) (n : Nat) : Int := if em = true then 3 else if rt = false then 3 else if f1 = true ∧ fk = false then 3 else if f1 = false ∧ ef = false then 3 else if o1 = false then 3 else if o2 = false then 3 else if o3 = false then 3 else if f2 = false ∧ 0 < n then 3 else if 32768 < n then 4 else 0
set_option maxHeartbeats 4000000 in
set_option maxRecDepth 100000 in
theorem Check.walk (v l c : Int) (file : ByteArray) (a b d : Int) (A0 : Option Addr) (n0 c0 : Nat) (S F : ByteArray) (rt f1 n1 n3 f2 fk o1 o2 o3 : Bool) (kf : Nat) (w : World) (hn : n0 ≤ 9223372036854775807) (hT : Tabs w) (hW : wire_Word.f v = some S) (hF : wire_form.f 4 v = some F) (hR : label_Right.f l c = some rt)
    (h1 : strings_Contains.f F ⟨#[102]⟩ = some f1) (h2 : strings_Contains.f F ⟨#[97]⟩ = some n1) (h3 : strings_Contains.f F ⟨#[98]⟩ = some n3) (h4 : strings_Contains.f F ⟨#[99]⟩ = some n3) (h5 : strings_Contains.f F ⟨#[43]⟩ = some f2) (hk : wire_file.f kf file = some fk) (ho1 : wire_number.f a n1 = some o1) (ho2 : wire_number.f b n3 = some o2) (ho3 : wire_number.f d n3 = some o3) :
    Calls Tryd.prog 21 #[.agg #[.int .i64 v, .int .i64 l, .int .u64 c, .string file, .int .i64 a, .int .i64 b, .int .i64 d, .slice A0 n0 c0]] w fun e w' => e = .returned (.int .i64 (checkB S.toList.isEmpty rt f1 fk file.toList.isEmpty o1 o2 o3 f2 n0)) ∧ Below w.heap.size w w' := by
  have HT := Lib.hid hT
  have HW := Lib.hid hW
  have HF := Lib.hid hF
  have HR := Lib.hid hR
  have H1 := Lib.hid h1
  have H2 := Lib.hid h2
  have H3 := Lib.hid h3
  have H4 := Lib.hid h4
  have H5 := Lib.hid h5
  have HK := Lib.hid hk
  have HO1 := Lib.hid ho1
  have HO2 := Lib.hid ho2
  have HO3 := Lib.hid ho3
  clear hT hW hF hR h1 h2 h3 h4 h5 hk ho1 ho2 ho3
  have hmf : ∀ (fn : Fn) (first cap : Array Value) (w : World), (Instr.makeFunc fn first cap).run Tryd.prog w = .ok (.func fn first cap) w := fun _ _ _ _ => rfl
  go_enter Tryd.func21, Tryd.ntmps21
  go_wp2_with (go_at_call 37; (with_reducible refine (wire_form.calls 4 v _ _ HF.out).mono ?_); rintro e w' ⟨rfl, ⟨nd, rfl⟩⟩)
  obtain ⟨W0, hW0⟩ : ∃ W0, ((w.alloc (.cells #[.int .i64 v, .int .i64 l, .int .u64 c, .string file, .int .i64 a, .int .i64 b, .int .i64 d, .slice A0 n0 c0] 28)).drewN nd).alloc (.cells #[.string F] 9) = W0 := ⟨_, rfl⟩
  have KA := Lib.hid (show W0.heap[w.heap.size]? = some (.cells #[.int .i64 v, .int .i64 l, .int .u64 c, .string file, .int .i64 a, .int .i64 b, .int .i64 d, .slice A0 n0 c0] 28 (0, 0)) by rw [← hW0]; exact blk_alloc (blk_drewN (blk_new w _) nd) _)
  have KB := Lib.hid (show W0.heap[w.heap.size + 1]? = some (.cells #[.string F] 9 (0, 0)) by rw [← hW0]; have := blk_new ((w.alloc (.cells #[.int .i64 v, .int .i64 l, .int .u64 c, .string file, .int .i64 a, .int .i64 b, .int .i64 d, .slice A0 n0 c0] 28)).drewN nd) (.cells #[.string F] 9); simpa using this)
  have HB0 := Lib.hid (show Below w.heap.size w W0 by rw [← hW0]; exact below_alloc (pw_below_drewN (below_alloc (Below.refl _ _) _) _) _)
  obtain ⟨gA, hgA⟩ : ∃ g, w.heap.size = g := ⟨_, rfl⟩
  obtain ⟨gB, hgB⟩ : ∃ g, w.heap.size + 1 = g := ⟨_, rfl⟩
  rw [hW0]
  rw [hgB] at KB ⊢
  rw [hgA] at KA
  simp only [hgA]
  clear hW0
  (with_reducible refine (wire_Word.calls v S W0 (HT.out.below HB0.out) HW.out).mono ?_)
  rintro e w1 ⟨rfl, hb⟩
  have KA1 := Lib.hid (blk_below KA.out hb)
  have KB1 := Lib.hid (blk_below KB.out hb)
  have HB1 := Lib.hid (below_step HB0.out hb)
  clear hb
  have c0_ : w1.cell? ⟨gA, 1, none⟩ = some (.int .i64 l) := (blk_cell KA1.out 1).trans rfl
  have c1_ : w1.cell? ⟨gA, 2, none⟩ = some (.int .u64 c) := (blk_cell KA1.out 2).trans rfl
  cases hS : S.toList.isEmpty with
  | true =>
    go_wp2
    go_ret
    exact ⟨by rw [hS]; rfl, HB1.out⟩
  | false =>
    go_wp2_with fail
    (with_reducible refine (label_Right.calls l c rt w1 HR.out).mono ?_)
    rintro e w2 ⟨rfl, hb⟩
    have KA2 := blk_below KA1.out hb
    have KB2 := Lib.hid (blk_below KB1.out hb)
    have HB2 := Lib.hid (below_step HB1.out hb)
    clear hb c0_ c1_
    have c3_ : w2.cell? ⟨gA, 3, none⟩ = some (.string file) := (blk_cell KA2 3).trans rfl
    have c4_ : w2.cell? ⟨gA, 4, none⟩ = some (.int .i64 a) := (blk_cell KA2 4).trans rfl
    have c5_ : w2.cell? ⟨gA, 5, none⟩ = some (.int .i64 b) := (blk_cell KA2 5).trans rfl
    have c6_ : w2.cell? ⟨gA, 6, none⟩ = some (.int .i64 d) := (blk_cell KA2 6).trans rfl
    have c7_ : w2.cell? ⟨gA, 7, none⟩ = some (.slice A0 n0 c0) := (blk_cell KA2 7).trans rfl
    have KC := Lib.hid (show w2.cell? ⟨gB, 0, none⟩ = some (.string F) from (blk_cell KB2.out 0).trans rfl)
    clear KA2
    generalize hE : file.toList.isEmpty = ef
    obtain ⟨qr, hqr⟩ : ∃ q, (!rt) = q := ⟨_, rfl⟩
    obtain ⟨qk, hqk⟩ : ∃ q, (!fk) = q := ⟨_, rfl⟩
    obtain ⟨qe, hqe⟩ : ∃ q, (!ef) = q := ⟨_, rfl⟩
    obtain ⟨q1, hq1⟩ : ∃ q, (!o1) = q := ⟨_, rfl⟩
    obtain ⟨q2, hq2⟩ : ∃ q, (!o2) = q := ⟨_, rfl⟩
    obtain ⟨q3, hq3⟩ : ∃ q, (!o3) = q := ⟨_, rfl⟩
    all_goals
      cases f1
    all_goals
      go_wp2_with (first
      | (go_at_call 42; (with_reducible refine (Check1.calls gB F _ _ _ (cell_dn _ KC.out) (by exact H1.out)).mono ?_); rintro e w' ⟨rfl, ⟨nd, rfl⟩⟩)
      | (go_at_call 42; (with_reducible refine (Check1.calls gB F _ _ _ KC.out (by exact H1.out)).mono ?_); rintro e w' ⟨rfl, ⟨nd, rfl⟩⟩)
      | (go_at_call 42; (with_reducible refine (Check1.calls gB F _ f2 _ (cell_dn _ KC.out) H5.out).mono ?_); rintro e w' ⟨rfl, ⟨nd, rfl⟩⟩)
      | (go_at_call 45; (with_reducible refine (wire_file.calls kf file fk _ HK.out).mono ?_); rintro e w' ⟨rfl, ⟨nd, rfl⟩⟩))
      all_goals try (go_ret; exact ⟨by simp_all [checkB], by repeat (first | exact HB2.out | apply pw_below_drewN)⟩)
      all_goals
        go_quiet (first | (go_at_call 42; (with_reducible refine (Check1.calls gB F _ n1 _ (cell_dn _ KC.out) H2.out).mono ?_); rintro e w' ⟨rfl, ⟨nd, rfl⟩⟩; (try first | exact ⟨rfl, _, World.drewN_drewN _ _ _⟩ | exact ⟨rfl, _, Eq.trans (World.drewN_drewN _ _ _) (congrArg (World.drewN _) (Nat.add_assoc _ _ _))⟩)) | (go_at_call 46; (with_reducible refine (wire_number.calls a n1 o1 _ HO1.out).mono ?_); rintro e w' ⟨rfl, ⟨nd, rfl⟩⟩; (try first | exact ⟨rfl, _, World.drewN_drewN _ _ _⟩ | exact ⟨rfl, _, Eq.trans (World.drewN_drewN _ _ _) (congrArg (World.drewN _) (Nat.add_assoc _ _ _))⟩)))
        go_wp2_with (first
        | (go_at_call 42; (with_reducible refine (Check1.calls gB F _ _ _ (cell_dn _ KC.out) (by exact H1.out)).mono ?_); rintro e w' ⟨rfl, ⟨nd, rfl⟩⟩)
        | (go_at_call 42; (with_reducible refine (Check1.calls gB F _ _ _ KC.out (by exact H1.out)).mono ?_); rintro e w' ⟨rfl, ⟨nd, rfl⟩⟩)
        | (go_at_call 42; (with_reducible refine (Check1.calls gB F _ f2 _ (cell_dn _ KC.out) H5.out).mono ?_); rintro e w' ⟨rfl, ⟨nd, rfl⟩⟩)
        | (go_at_call 45; (with_reducible refine (wire_file.calls kf file fk _ HK.out).mono ?_); rintro e w' ⟨rfl, ⟨nd, rfl⟩⟩))
        all_goals try (go_ret; exact ⟨by simp_all [checkB], by repeat (first | exact HB2.out | apply pw_below_drewN)⟩)
      all_goals
        go_quiet (first | (go_at_call 42; (with_reducible refine (Check1.calls gB F _ n3 _ (cell_dn _ KC.out) H3.out).mono ?_); rintro e w' ⟨rfl, ⟨nd, rfl⟩⟩; (try first | exact ⟨rfl, _, World.drewN_drewN _ _ _⟩ | exact ⟨rfl, _, Eq.trans (World.drewN_drewN _ _ _) (congrArg (World.drewN _) (Nat.add_assoc _ _ _))⟩)) | (go_at_call 46; (with_reducible refine (wire_number.calls b n3 o2 _ HO2.out).mono ?_); rintro e w' ⟨rfl, ⟨nd, rfl⟩⟩; (try first | exact ⟨rfl, _, World.drewN_drewN _ _ _⟩ | exact ⟨rfl, _, Eq.trans (World.drewN_drewN _ _ _) (congrArg (World.drewN _) (Nat.add_assoc _ _ _))⟩)))
        go_wp2_with (first
        | (go_at_call 42; (with_reducible refine (Check1.calls gB F _ _ _ (cell_dn _ KC.out) (by exact H1.out)).mono ?_); rintro e w' ⟨rfl, ⟨nd, rfl⟩⟩)
        | (go_at_call 42; (with_reducible refine (Check1.calls gB F _ _ _ KC.out (by exact H1.out)).mono ?_); rintro e w' ⟨rfl, ⟨nd, rfl⟩⟩)
        | (go_at_call 42; (with_reducible refine (Check1.calls gB F _ f2 _ (cell_dn _ KC.out) H5.out).mono ?_); rintro e w' ⟨rfl, ⟨nd, rfl⟩⟩)
        | (go_at_call 45; (with_reducible refine (wire_file.calls kf file fk _ HK.out).mono ?_); rintro e w' ⟨rfl, ⟨nd, rfl⟩⟩))
        all_goals try (go_ret; exact ⟨by simp_all [checkB], by repeat (first | exact HB2.out | apply pw_below_drewN)⟩)
      all_goals
        go_quiet (first | (go_at_call 42; (with_reducible refine (Check1.calls gB F _ n3 _ (cell_dn _ KC.out) H4.out).mono ?_); rintro e w' ⟨rfl, ⟨nd, rfl⟩⟩; (try first | exact ⟨rfl, _, World.drewN_drewN _ _ _⟩ | exact ⟨rfl, _, Eq.trans (World.drewN_drewN _ _ _) (congrArg (World.drewN _) (Nat.add_assoc _ _ _))⟩)) | (go_at_call 46; (with_reducible refine (wire_number.calls d n3 o3 _ HO3.out).mono ?_); rintro e w' ⟨rfl, ⟨nd, rfl⟩⟩; (try first | exact ⟨rfl, _, World.drewN_drewN _ _ _⟩ | exact ⟨rfl, _, Eq.trans (World.drewN_drewN _ _ _) (congrArg (World.drewN _) (Nat.add_assoc _ _ _))⟩)))
        by_cases hn0 : 32768 < n0
      all_goals try have hn1 : 0 < n0 := by omega
      all_goals
        go_wp2_with (first
        | (go_at_call 42; (with_reducible refine (Check1.calls gB F _ _ _ (cell_dn _ KC.out) (by exact H1.out)).mono ?_); rintro e w' ⟨rfl, ⟨nd, rfl⟩⟩)
        | (go_at_call 42; (with_reducible refine (Check1.calls gB F _ _ _ KC.out (by exact H1.out)).mono ?_); rintro e w' ⟨rfl, ⟨nd, rfl⟩⟩)
        | (go_at_call 42; (with_reducible refine (Check1.calls gB F _ f2 _ (cell_dn _ KC.out) H5.out).mono ?_); rintro e w' ⟨rfl, ⟨nd, rfl⟩⟩)
        | (go_at_call 45; (with_reducible refine (wire_file.calls kf file fk _ HK.out).mono ?_); rintro e w' ⟨rfl, ⟨nd, rfl⟩⟩))
        all_goals try (go_ret; exact ⟨by simp_all [checkB], by repeat (first | exact HB2.out | apply pw_below_drewN)⟩)
      all_goals trace_state
      all_goals sorry
end Go.Proofs.YthaimkdnddmokaaDoor.P

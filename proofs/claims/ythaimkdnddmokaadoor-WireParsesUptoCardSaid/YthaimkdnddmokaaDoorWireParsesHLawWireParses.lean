/- the walk of jalousielaw21.WireParses -/
import Derived.Test.YthaimkdnddmokaaDoorWireParsesHLive21
import Derived.Test.YthaimkdnddmokaaDoorWireParsesHWRefParseFit
import Derived.Test.YthaimkdnddmokaaDoorWireParsesPxJalousieref21
namespace Go.Proofs.YthaimkdnddmokaaDoor.P
open Go.RowKit Go.Proofs.YthaimkdnddmokaaDoorW.PrintWords Go.Proofs.YthaimkdnddmokaaDoorW.PrintLast Go.Proofs.YthaimkdnddmokaaDoorW.PrintMore
set_option linter.unusedVariables false
set_option linter.unusedSimpArgs false
theorem same_req (v l c : Int) (f : ByteArray) (a b d : Int) (body : List Int) : jalousieref21_Same.f v l c f a b d body v l c f a b d body = some true := by
  unfold jalousieref21_Same.f
  simp
theorem row_none {α : Type} {d : Kd α} {e : Nat} {w : World} {base : Nat} {ok : Nat → Prop} {A : Option Addr} {n c : Nat} {xs : List α} (h : d.R e w base ok (.slice A n c) xs) : A = none → c = 0 := by
  rintro rfl
  obtain ⟨inner, ho⟩ := Kd.R_own h
  rcases ho.2 with ⟨e1, _⟩ | ⟨g, cap, cur, e1, _⟩
  · injection e1
  · injection e1 with e1 _ _
    cases e1
theorem own_put {g n cap base : Nat} {W : World} {xs : List Int} (h : Kd.R (Kd.int .u8) 5 W base (fun _ => True) (.slice (some ⟨g, 0, none⟩) n cap) xs) (i : Nat) (x : Int) : Kd.R (Kd.int .u8) 5 (W.setCell ⟨g, i, none⟩ (.int .u8 x)) base (fun _ => True) (.slice (some ⟨g, 0, none⟩) n cap) (xs.set i x) := by
  have := (Kd.R_putg h (i : Int) x).1
  rwa [Int.toNat_natCast] at this
def OwnRel (w : World) (base gA : Nat) (cs : Array Value) (Ao : Option Addr) (n co : Nat) (A2 : Option Addr) (m c2 : Nat) (body : List Int) (kq : Nat) (v6 : Value) (wr : World) : Prop :=
  ∃ (i : Nat) (x : List Int), v6 = .int .i64 (i : Int) ∧ i + kq = n ∧ x.length = n ∧ Kd.R (Kd.int .u8) 5 wr w.heap.size (fun _ => True) (.slice Ao n co) x ∧ wr.heap[gA]? = some (.cells cs 28 (0, 0)) ∧ Kd.R (Kd.int .u8) 5 wr base (fun _ => True) (.slice A2 m c2) body ∧ Below w.heap.size w wr
set_option maxHeartbeats 8000000 in
set_option maxRecDepth 100000 in
theorem WireParses.walk (A0 : Option Addr) (c0 : Nat) (l0 : List Int) (w : World) (hT : Tabs w) (hr0 : Kd.C (Kd.int .u8) w A0 l0.length l0) (hc0 : l0.length ≤ c0) (hg0 : bytesB l0 = true) (hs0 : l0.length ≤ 2000000) :
    Calls Tryd.prog 3 #[.slice A0 l0.length c0] w fun e w' => e = .returned (.bool true) ∧ Below w.heap.size w w' := by
  have HT := Lib.hid hT
  have HR0 := Lib.hid hr0
  obtain ⟨s1, s2, s3, s4, s5, s6, s7, s8, s9, hP⟩ : ∃ s1 s2 s3 s4 s5 s6 s7 s8 s9, parseW l0 = (s1, s2, s3, s4, s5, s6, s7, s8, s9) := ⟨_, _, _, _, _, _, _, _, _, rfl⟩
  have HX := Lib.hid (show wire_Parse.f l0 = some (s1, s2, s3, s4, s5, s6, s7, s8, s9) by unfold wire_Parse.f; rw [if_pos (by unfold parseFit; rw [hg0, Bool.true_and, decide_eq_true_eq]; omega), hP])
  have HP := Lib.hid hP
  have HSM := Lib.hid (same_req s1 s2 s3 s4 s5 s6 s7 s8)
  have HB := Lib.hid (Below.refl w.heap.size w)
  clear hT hr0 hg0 hP
  go_enter Tryd.func3, Tryd.ntmps3
  go_wp2_with (first | ((with_reducible refine gate_dst (N := 9) rfl ?_); refine Kd.R_lit (Kd.int .u8) _ 5 ?hg (N := 9) ?hd (xs := ([] : List Int)) (inner := []) (ok := fun _ => True) (okp := fun _ => True) ?hr ?hp (fun _ hk => hk) trivial (Below.refl _ _) (Nat.le_refl _) (by simp) ?_; (case hd => rfl); (case hg => rfl); (case hr => first | (go_simp; done) | (go_simp; rfl)); (case hp => exact (Reps.none _ _)); intro v9 w1 ho hb hg_ hnew_; clear hg_ hnew_; have HO1 := Lib.hid ho; have HB1 := Lib.hid hb; clear ho hb) | ((with_reducible refine gate_builtin (b := .append) (xs := #[.tmp 9, .tmp 10]) rfl ?_); at_builtin; refine Kd.R_append_rows (Kd.int .u8) (w0 := w) w.heap.size rfl (.tmp 9) (.tmp 10) 22 5 (.int .u8 0) 1 rfl Tryd.underlying22 info5 rfl (by decide) (by omega) v9 ([] : List Int) l0 _ _ _ (fun _ => True) (fun _ => False) rfl rfl HO1.out (Kd.C_below HR0.out HB1.out) (fun _ _ h => h) (fun _ h => h.elim) (fun _ _ => trivial) HB1.out HB1.out.size (by simp; omega) ?_; intro v11 w2 ho hb hg hat; clear hg hat; simp only [List.nil_append] at ho; have HO2 := Lib.hid ho; have HB2 := Lib.hid hb; clear ho hb; obtain ⟨Ao, co, eo⟩ := Kd.R_slice HO2.out; subst eo))
  (with_reducible refine (wire_Parse.calls Ao co l0 s1 s2 s3 s4 s5 s6 s7 s8 s9 w2 (Kd.R_reads' HO2.out).2.2 (Kd.R_reads' HO2.out).2.1 (row_none HO2.out) (HT.out.below HB2.out) HX.out).mono ?_)
  rintro e w3 ⟨v3, rfl, hr, hb⟩
  obtain ⟨A2, c2, rfl, hc2, hC2⟩ := Kd.R_reads hr
  have HLT := Lib.hid (Kd.R_lt HO2.out)
  have HO3 := Lib.hid (Kd.R_alloc (Kd.R_below HO2.out hb) (.cells #[.int .i64 s1, .int .i64 s2, .int .u64 s3, .string s4, .int .i64 s5, .int .i64 s6, .int .i64 s7, .slice A2 s8.length c2] 28))
  have HY3 := Lib.hid (Kd.R_alloc hr (.cells #[.int .i64 s1, .int .i64 s2, .int .u64 s3, .string s4, .int .i64 s5, .int .i64 s6, .int .i64 s7, .slice A2 s8.length c2] 28))
  have KA3 := Lib.hid (blk_new w3 (.cells #[.int .i64 s1, .int .i64 s2, .int .u64 s3, .string s4, .int .i64 s5, .int .i64 s6, .int .i64 s7, .slice A2 s8.length c2] 28))
  have HB3 := Lib.hid (below_alloc (below_step HB2.out hb) (.cells #[.int .i64 s1, .int .i64 s2, .int .u64 s3, .string s4, .int .i64 s5, .int .i64 s6, .int .i64 s7, .slice A2 s8.length c2] 28))
  have hb3 := hb.size
  clear hr hb hC2 HB1 HO1
  go_wp2_with fail
  obtain ⟨gA, hgA⟩ : ∃ g, w3.heap.size = g := ⟨_, rfl⟩
  rw [hgA] at KA3 hb3
  try simp only [hgA]
  generalize w3.alloc (.cells #[.int .i64 s1, .int .i64 s2, .int .u64 s3, .string s4, .int .i64 s5, .int .i64 s6, .int .i64 s7, .slice A2 s8.length c2] 28) = w4 at HO3 HY3 KA3 HB3 ⊢
  clear hgA
  go_loopg [6] l0.length (fun kq v6 wr => OwnRel w w2.heap.size gA #[.int .i64 s1, .int .i64 s2, .int .u64 s3, .string s4, .int .i64 s5, .int .i64 s6, .int .i64 s7, .slice A2 s8.length c2] Ao l0.length co A2 s8.length c2 s8 kq v6 wr)
  case atStart => exact ⟨0, l0, rfl, by omega, rfl, HO3.out, KA3.out, HY3.out, HB3.out⟩
  case round =>
    clear HO3 HY3 KA3 HB3 HO2
    obtain ⟨i, x, rfl, hik, hxl, hO, hA, hY, hB⟩ := hrel
    have HO := Lib.hid hO
    have HA := Lib.hid hA
    have HY := Lib.hid hY
    have HBr := Lib.hid hB
    clear hO hA hY hB
    cases gk with
    | succ k1 =>
      have d1 : decide ((i : Int) < (l0.length : Int)) = true := decide_eq_true (by omega)
      obtain ⟨go, cc, e2, gb, gl, -⟩ := Kd.R_form HO.out (by omega)
      injection e2 with e2 e3 e4
      subst e2
      clear e3 e4
      have hgl := HLT.out go rfl
      obtain ⟨hcell, hfro⟩ := Kd.R_celln 0 HO.out (i : Int) (by omega) (by omega)
      rw [Int.toNat_natCast] at hcell hfro
      have hi0 : ((i : Int) < (l0.length : Int)) = True := eq_true (by omega)
      have hi1 : (i < l0.length) = True := eq_true (by omega)
      have hi2 : (0 ≤ (i : Int)) = True := eq_true (by omega)
      have HXL := Lib.hid hxl
      clear hxl
      go_wp2
      go_roundg k1
      case measure => omega
      case rel => exact ⟨i + 1, x.set i _, by go_num, by omega, by rw [List.length_set]; exact HXL.out, own_put HO.out i _, blk_far HA.out (show gA ≠ go by omega) _, R_set HY.out hgl i _, below_set HBr.out (by omega)⟩
    | zero =>
      have d1 : decide ((i : Int) < (l0.length : Int)) = false := decide_eq_false (by omega)
      go_wp2_with fail
      (with_reducible refine (RefParse.tells A0 c0 l0 s1 s2 s3 s4 s5 s6 s7 s8 s9 wr (Kd.C_below HR0.out HBr.out) hc0 (by omega) HP.out).mono ?_)
      rintro e w5 ⟨v5, rfl, hr, hb⟩
      obtain ⟨A5, c5, rfl, hc5, hC5⟩ := Kd.R_reads hr
      have KA5 := Lib.hid (blk_alloc (blk_below HA.out hb) (.cells #[.int .i64 s1, .int .i64 s2, .int .u64 s3, .string s4, .int .i64 s5, .int .i64 s6, .int .i64 s7, .slice A5 s8.length c5] 28))
      have KB5 := Lib.hid (blk_new w5 (.cells #[.int .i64 s1, .int .i64 s2, .int .u64 s3, .string s4, .int .i64 s5, .int .i64 s6, .int .i64 s7, .slice A5 s8.length c5] 28))
      have HB5 := Lib.hid (below_alloc (below_step HBr.out hb) (.cells #[.int .i64 s1, .int .i64 s2, .int .u64 s3, .string s4, .int .i64 s5, .int .i64 s6, .int .i64 s7, .slice A5 s8.length c5] 28))
      have HC25 := Lib.hid (Kd.C_below (Kd.C_below (Kd.R_reads' HY.out).2.2 hb) (below_alloc (Below.refl _ _) (.cells #[.int .i64 s1, .int .i64 s2, .int .u64 s3, .string s4, .int .i64 s5, .int .i64 s6, .int .i64 s7, .slice A5 s8.length c5] 28)))
      have HC55 := Lib.hid (Kd.C_below hC5 (below_alloc (Below.refl _ _) (.cells #[.int .i64 s1, .int .i64 s2, .int .u64 s3, .string s4, .int .i64 s5, .int .i64 s6, .int .i64 s7, .slice A5 s8.length c5] 28)))
      clear hr hb hC5 HO HA HY HBr
      go_upto_region 8 with (fail)
      obtain ⟨gB, hgB⟩ : ∃ g, w5.heap.size = g := ⟨_, rfl⟩
      rw [hgB] at KB5
      try simp only [hgB]
      generalize w5.alloc (.cells #[.int .i64 s1, .int .i64 s2, .int .u64 s3, .string s4, .int .i64 s5, .int .i64 s6, .int .i64 s7, .slice A5 s8.length c5] 28) = w6 at KA5 KB5 HB5 HC25 HC55 ⊢
      clear hgB
      go_wp2_with fail
      (with_reducible refine (jalousielaw21_live.calls true _ (HT.out.below HB5.out) rfl).mono ?_)
      rintro e w7 ⟨rfl, hb⟩
      have HB7 := Lib.hid (below_step HB5.out hb)
      have KA7 := Lib.hid (blk_below KA5.out hb)
      have KB7 := Lib.hid (blk_below KB5.out hb)
      have HC27 := Lib.hid (Kd.C_below HC25.out hb)
      have HC57 := Lib.hid (Kd.C_below HC55.out hb)
      clear hb KA5 KB5 HB5 HC25 HC55
      obtain ⟨a0, a1, a2, a3, a4, a5, a6, a7⟩ := req_cells KA7.out
      obtain ⟨b0, b1, b2, b3, b4, b5, b6, b7⟩ := req_cells KB7.out
      go_wp2_with (go_at_call 11; (with_reducible refine (jalousieref21_Same.calls s1 s2 s3 s4 s5 s6 s7 A2 c2 s8 s1 s2 s3 s4 s5 s6 s7 A5 c5 s8 true _ HC27.out hc2 HC57.out hc5 HSM.out).mono ?_); rintro e w8 ⟨rfl, hb⟩; have HB8 := Lib.hid (below_step HB7.out hb); clear hb)
      go_ret
      exact ⟨by first | rfl | (simp; done), HB8.out⟩
end Go.Proofs.YthaimkdnddmokaaDoor.P

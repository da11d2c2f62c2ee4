/- jalousieref15.Print's contract, by hand: the bytes are only read behind it; condition: the texts together far below 2^47 bytes. -/
import Derived.Test.YthppicgolkpbaaaDoorDeltaPrintsHDPrintPlain
import Derived.Test.YthppicgolkpbaaaDoorDeltaPrintsGHDApplyPlain
import Derived.Test.YthppicgolkpbaaaDoorDeltaPrintsHDec
import Derived.Test.YthppicgolkpbaaaDoorDeltaPrintsHLabelText
import Derived.Test.YthppicgolkpbaaaDoorDeltaPrintsPxJalousieref01
import Derived.Test.YthppicgolkpbaaaDoorDeltaPrintsPxJalousieref02
import Derived.Test.YthppicgolkpbaaaDoorDeltaPrintsPxJalousieref15
import Derived.Deep.RegionHeld3
namespace Go.Proofs.YthppicgolkpbaaaDoor.P
open Go.RowKit Go.Proofs.YthppicgolkpbaaaDoorW.PrintWords Go.Proofs.YthppicgolkpbaaaDoorW.PrintLast Go.Proofs.YthppicgolkpbaaaDoorW.PrintMore
set_option linter.unusedVariables false
set_option linter.unusedSimpArgs false
theorem reads_of_int {w : World} {A : Option Addr} {n : Nat} {xs : List Int} (h : ReadsInt w .u8 A n xs) : ReadsOf (Value.int .u8) (0 : Int) w A n xs := h
theorem print_err {nx : Bool} {p : S27} {ps : List S27} {acc : List UInt8} (h : ¬ (partL p.f0 p.f1 p.f2 nx).2 = 0) : printGo nx (p :: ps) acc = ([], (partL p.f0 p.f1 p.f2 nx).2) := by rw [printGo, if_neg h]
theorem print_ok {nx : Bool} {p : S27} {ps : List S27} {acc : List UInt8} (h : (partL p.f0 p.f1 p.f2 nx).2 = 0) : printGo nx (p :: ps) acc = printGo (decide (0 < p.f2.length)) ps (acc ++ (partL p.f0 p.f1 p.f2 nx).1) := by rw [printGo, if_pos h]
theorem part_wrong {a n : Int} {l : List S41} {nx : Bool} (h : ¬ wrongOf a n l.length = 0) : partL a n l nx = ([], wrongOf a n l.length) := by unfold partL; rw [if_pos h]
theorem part_far {a n : Int} {l : List S41} {nx : Bool} (h : wrongOf a n l.length = 0) (h1 : 2147483647 < a) : partL a n l nx = ([], 2) := by unfold partL; rw [if_neg (fun q => q h), if_pos h1]
theorem part_many {a n : Int} {l : List S41} {nx : Bool} (h : wrongOf a n l.length = 0) (h1 : ¬ 2147483647 < a) (h2 : 2147483647 < n) : partL a n l nx = ([], 2) := by unfold partL; rw [if_neg (fun q => q h), if_neg h1, if_pos h2]
theorem part_copy {a n : Int} {l : List S41} {nx : Bool} (h : wrongOf a n l.length = 0) (h1 : ¬ 2147483647 < a) (h2 : ¬ 2147483647 < n) (h3 : 0 < n) : partL a n l nx = (copyL a n, 0) := by unfold partL; rw [if_neg (fun q => q h), if_neg h1, if_neg h2, if_pos h3]
theorem part_items {a n : Int} {l : List S41} {nx : Bool} (h : wrongOf a n l.length = 0) (h1 : ¬ 2147483647 < a) (h2 : ¬ 2147483647 < n) (h3 : ¬ 0 < n) : partL a n l nx = linesGo l (if nx = true then [110, 101, 120, 116, 10] else []) := by unfold partL; rw [if_neg (fun q => q h), if_neg h1, if_neg h2, if_neg h3]
theorem print_items {nx : Bool} {p : S27} {ps : List S27} {acc nxl : List UInt8} {res : List UInt8 × Int} (hp : partL p.f0 p.f1 p.f2 nx = linesGo p.f2 nxl) (h : printGo nx (p :: ps) acc = res) :
    (∀ b, linesGo p.f2 (acc ++ nxl) = (b, 0) → printGo (decide (0 < p.f2.length)) ps b = res) ∧ (∀ e, ¬ e = 0 → linesGo p.f2 (acc ++ nxl) = ([], e) → res = ([], e)) := by
  rw [lines_acc]
  by_cases h0 : (linesGo p.f2 nxl).2 = 0
  · rw [if_pos h0]
    rw [print_ok (by rw [hp]; exact h0), hp] at h
    refine ⟨fun b hb => ?_, fun e he hb => ?_⟩
    · rw [← (Prod.mk.inj hb).1]; exact h
    · exact absurd (Prod.mk.inj hb).2.symm he
  · rw [if_neg h0]
    rw [print_err (by rw [hp]; exact h0), hp] at h
    refine ⟨fun b hb => ?_, fun e he hb => ?_⟩
    · exact absurd (Prod.mk.inj hb).2 h0
    · rw [← h, (Prod.mk.inj hb).2]
def RIRel (w2 : World) (l : List S41) (X : List UInt8 × Int) (R : Nat) (v4 v8 : Value) (W : World) : Prop :=
  ∃ (j : Nat) (b : List UInt8), v8 = .int .i64 (j : Int) ∧ v4 = .string (baOf b) ∧ j ≤ l.length ∧ Below w2.heap.size w2 W ∧ linesGo (l.drop j) b = X ∧ b.length + roomL (l.drop j) + R < 140000000000000
theorem keep4 {w W w' : World} {p1 p2 p3 p4 : Addr} {v1 v2 v3 v4 : Value} (h : Below w.heap.size w W ∧ W.cell? p1 = some v1 ∧ W.cell? p2 = some v2 ∧ W.cell? p3 = some v3 ∧ W.cell? p4 = some v4) (hb : Below W.heap.size W w') : Below w.heap.size w w' ∧ w'.cell? p1 = some v1 ∧ w'.cell? p2 = some v2 ∧ w'.cell? p3 = some v3 ∧ w'.cell? p4 = some v4 :=
  ⟨below_step h.1 hb, pw_cell_below hb h.2.1, pw_cell_below hb h.2.2.1, pw_cell_below hb h.2.2.2.1, pw_cell_below hb h.2.2.2.2⟩
theorem roomL_drop (l : List S41) (j : Nat) (h : j < l.length) : roomL (l.drop j) = (rd_T41 l (j : Int)).f3.f0.size + 800 + roomL (l.drop (j + 1)) := by
  rw [it_drop l j h]
  simp [roomL]
def RPRel (w : World) (d : List S27) (res : List UInt8 × Int) (v4 v5 : Value) (W : World) : Prop :=
  ∃ (i : Nat) (acc : List UInt8), v5 = .int .i64 (i : Int) ∧ v4 = .string (baOf acc) ∧ i ≤ d.length ∧ Below w.heap.size w W ∧ printGo (nextAt d i) (d.drop i) acc = res ∧ acc.length + roomP (d.drop i) < 140000000000000
def RPPost (w : World) (res : List UInt8 × Int) (e : Ending) (w' : World) : Prop := ∃ A c, e = .returned (.tuple #[.slice A (bytesL res.1).length c, .int .i64 res.2]) ∧ (bytesL res.1).length ≤ c ∧ Kd.C (Kd.int .u8) w' A (bytesL res.1).length (bytesL res.1) ∧ Below w.heap.size w w'
set_option maxHeartbeats 8000000 in
set_option maxRecDepth 100000 in
theorem refPrint_calls (A0 : Option Addr) (c0 : Nat) (d : List S27) (w : World) (hr0 : Kd.C k27 w A0 d.length d) (hc0 : d.length ≤ c0) (hok : partsOk d) (hroom : roomP d < 140000000000000) :
    Calls Tryd.prog 20 #[.slice A0 d.length c0] w (RPPost w (printGo false d [])) := by
  obtain ⟨res, hres⟩ : ∃ res, printGo false d [] = res := ⟨_, rfl⟩
  rw [hres]
  have HR0 := Lib.hid hr0
  have HOK := Lib.hid hok
  have hlen : d.length ≤ 1000000000000 := by have := roomP_len d; omega
  have H0 := Lib.hid (show printGo (nextAt d 0) (d.drop 0) [] = res by rw [List.drop_zero, nextAt_zero]; exact hres)
  clear hr0 hok hres
  go_enter Tryd.func20, Tryd.ntmps20
  go_wp2
  go_loopw [4, 5] (fun v4 v5 W => RPRel w d res v4 v5 W) (fun _ v5 _ => d.length - (intOf v5).toNat)
  case atStart => exact ⟨0, [], rfl, rfl, Nat.zero_le _, Below.refl _ _, H0.out, by simpa using hroom⟩
  case round =>
    obtain ⟨i, acc, rfl, rfl, hi, HB, hgo, hrm⟩ := hrel
    have HGO := Lib.hid hgo
    clear hgo
    by_cases hil : i < d.length
    · have hd1 : decide (i < d.length) = true := by simpa using hil
      have hpo := part_at d i hil
      have hrd := roomP_drop d i hil
      have hokp := HOK.out _ (List.mem_of_getElem? hpo)
      have HGP := Lib.hid (show printGo (nextAt d i) (rd_T27 d (i : Int) :: d.drop (i + 1)) acc = res by rw [← part_drop d i hil]; exact HGO.out)
      have HNX := Lib.hid (nextAt_succ d i)
      obtain ⟨ad, A2, c2, rfl, p0, p1, p2, hc2, hC2⟩ := at_T27 (Kd.C_below HR0.out HB) (i : Int) (by omega) (by omega)
      rw [Int.toNat_natCast] at p0 p1 p2
      have HC2 := Lib.hid hC2
      have HOKP := Lib.hid hokp
      clear HGO hpo hC2 hokp
      generalize hpv : rd_T27 d (i : Int) = p at p0 p1 p2 hc2 HC2 HOKP HGP HNX hrd
      have HPV := Lib.hid hpv
      clear hpv
      obtain ⟨kw, hkw⟩ := Ev.rounds (ref_wrong p)
      have HKW := Lib.hid hkw
      clear hkw
      by_cases hw0 : wrongOf p.f0 p.f1 p.f2.length = 0
      case neg =>
        have HR_ := Lib.hid (show res = ([], wrongOf p.f0 p.f1 p.f2.length) by rw [← HGP.out, print_err (by rw [part_wrong hw0]; exact hw0), part_wrong hw0])
        obtain ⟨e_, he_⟩ : ∃ e_, wrongOf p.f0 p.f1 p.f2.length = e_ := ⟨_, rfl⟩
        rw [he_] at HR_ HKW hw0
        have e1 : (e_ == 0) = false := by simpa using hw0
        have e2 : (e_ != 0) = true := by simpa using hw0
        clear he_ hw0
        go_wp2_with (first
          | ((with_reducible refine gate_dst (N := 6) rfl ?_); refine box_event ?hg (N := 6) ?hd (cs := #[.int .i64 0, .int .i64 0, .slice none 0 0]) (t := 27) ?hr ?_; (case hd => rfl); (case hg => rfl); (case hr => first | (go_simp; done) | (go_simp; rfl)); intro gb hg wA hbox hbA; have HX := Lib.hid hbox; have y0 : wA.cell? ⟨gb, 0, none⟩ = some (.int .i64 0) := (blk_cell hbox 0).trans rfl; have z0 := blk_frozen hbox 0; have y1 : wA.cell? ⟨gb, 1, none⟩ = some (.int .i64 0) := (blk_cell hbox 1).trans rfl; have z1 := blk_frozen hbox 1; have y2 : wA.cell? ⟨gb, 2, none⟩ = some (.slice none 0 0) := (blk_cell hbox 2).trans rfl; have z2 := blk_frozen hbox 2; have HGE := Lib.hid (show wr.heap.size ≤ gb by rw [hg]; simp); have HBA := Lib.hid hbA; clear hbox hbA hg)
          | (go_at_call 28; have HX2 := Lib.hid (putPart_blk p.f0 p.f1 (.slice A2 p.f2.length c2) HX.out); have HB2 := Lib.hid (putPart_below p.f0 p.f1 (.slice A2 p.f2.length c2) HBA.out HGE.out); unfold putPart at HX2 HB2; (refine (jalousieref15_wrong.calls kw p.f0 p.f1 A2 c2 p.f2 _ _ (Kd.C_below HC2.out HB2.out) hc2 HKW.out).mono ?_); rintro e w2 ⟨rfl, hb2⟩; have HX3 := Lib.hid (blk_below HX2.out hb2); have HB3 := Lib.hid (below_step HB2.out hb2); (try (have pp3 := pw_cell_below HB3.out pp2)); clear y0 z0 y1 z1 y2 z2 hb2; have y0 : w2.cell? ⟨gb, 0, none⟩ = some (.int .i64 p.f0) := (blk_cell HX3.out 0).trans rfl; have y1 : w2.cell? ⟨gb, 1, none⟩ = some (.int .i64 p.f1) := (blk_cell HX3.out 1).trans rfl; have y2 : w2.cell? ⟨gb, 2, none⟩ = some (.slice A2 p.f2.length c2) := (blk_cell HX3.out 2).trans rfl; clear HX HBA HX2 HB2))
        go_ret2
        refine ⟨none, 0, ?_, ?_, ?_, HB.trans (HB3.out.mono HB.size)⟩
        · rw [HR_.out]; rfl
        · rw [HR_.out]; exact Nat.le_refl _
        · rw [HR_.out]; exact Kd.C_nil _ _
      case pos =>
        have HW0 := Lib.hid hw0
        have hg := wrong_good hw0
        rw [hw0] at HKW
        clear hw0
        by_cases hb1 : 2147483647 < p.f0
        case pos =>
          have HR_ := Lib.hid (show res = ([], 2) by rw [← HGP.out, print_err (by rw [part_far HW0.out hb1]; decide), part_far HW0.out hb1])
          have d1 := decide_eq_true hb1
          go_wp2_with (first
            | ((with_reducible refine gate_dst (N := 6) rfl ?_); refine box_event ?hg (N := 6) ?hd (cs := #[.int .i64 0, .int .i64 0, .slice none 0 0]) (t := 27) ?hr ?_; (case hd => rfl); (case hg => rfl); (case hr => first | (go_simp; done) | (go_simp; rfl)); intro gb hg wA hbox hbA; have HX := Lib.hid hbox; have y0 : wA.cell? ⟨gb, 0, none⟩ = some (.int .i64 0) := (blk_cell hbox 0).trans rfl; have z0 := blk_frozen hbox 0; have y1 : wA.cell? ⟨gb, 1, none⟩ = some (.int .i64 0) := (blk_cell hbox 1).trans rfl; have z1 := blk_frozen hbox 1; have y2 : wA.cell? ⟨gb, 2, none⟩ = some (.slice none 0 0) := (blk_cell hbox 2).trans rfl; have z2 := blk_frozen hbox 2; have HGE := Lib.hid (show wr.heap.size ≤ gb by rw [hg]; simp); have HBA := Lib.hid hbA; clear hbox hbA hg)
            | (go_at_call 28; have HX2 := Lib.hid (putPart_blk p.f0 p.f1 (.slice A2 p.f2.length c2) HX.out); have HB2 := Lib.hid (putPart_below p.f0 p.f1 (.slice A2 p.f2.length c2) HBA.out HGE.out); unfold putPart at HX2 HB2; (refine (jalousieref15_wrong.calls kw p.f0 p.f1 A2 c2 p.f2 _ _ (Kd.C_below HC2.out HB2.out) hc2 HKW.out).mono ?_); rintro e w2 ⟨rfl, hb2⟩; have HX3 := Lib.hid (blk_below HX2.out hb2); have HB3 := Lib.hid (below_step HB2.out hb2); (try (have pp3 := pw_cell_below HB3.out pp2)); clear y0 z0 y1 z1 y2 z2 hb2; have y0 : w2.cell? ⟨gb, 0, none⟩ = some (.int .i64 p.f0) := (blk_cell HX3.out 0).trans rfl; have y1 : w2.cell? ⟨gb, 1, none⟩ = some (.int .i64 p.f1) := (blk_cell HX3.out 1).trans rfl; have y2 : w2.cell? ⟨gb, 2, none⟩ = some (.slice A2 p.f2.length c2) := (blk_cell HX3.out 2).trans rfl; clear HX HBA HX2 HB2))
          go_ret2
          refine ⟨none, 0, ?_, ?_, ?_, HB.trans (HB3.out.mono HB.size)⟩
          · rw [HR_.out]; rfl
          · rw [HR_.out]; exact Nat.le_refl _
          · rw [HR_.out]; exact Kd.C_nil _ _
        case neg =>
          have d1 := decide_eq_false hb1
          by_cases hb2 : 2147483647 < p.f1
          case pos =>
            have HR_ := Lib.hid (show res = ([], 2) by rw [← HGP.out, print_err (by rw [part_many HW0.out hb1 hb2]; decide), part_many HW0.out hb1 hb2])
            have d2 := decide_eq_true hb2
            go_wp2_with (first
              | ((with_reducible refine gate_dst (N := 6) rfl ?_); refine box_event ?hg (N := 6) ?hd (cs := #[.int .i64 0, .int .i64 0, .slice none 0 0]) (t := 27) ?hr ?_; (case hd => rfl); (case hg => rfl); (case hr => first | (go_simp; done) | (go_simp; rfl)); intro gb hg wA hbox hbA; have HX := Lib.hid hbox; have y0 : wA.cell? ⟨gb, 0, none⟩ = some (.int .i64 0) := (blk_cell hbox 0).trans rfl; have z0 := blk_frozen hbox 0; have y1 : wA.cell? ⟨gb, 1, none⟩ = some (.int .i64 0) := (blk_cell hbox 1).trans rfl; have z1 := blk_frozen hbox 1; have y2 : wA.cell? ⟨gb, 2, none⟩ = some (.slice none 0 0) := (blk_cell hbox 2).trans rfl; have z2 := blk_frozen hbox 2; have HGE := Lib.hid (show wr.heap.size ≤ gb by rw [hg]; simp); have HBA := Lib.hid hbA; clear hbox hbA hg)
              | (go_at_call 28; have HX2 := Lib.hid (putPart_blk p.f0 p.f1 (.slice A2 p.f2.length c2) HX.out); have HB2 := Lib.hid (putPart_below p.f0 p.f1 (.slice A2 p.f2.length c2) HBA.out HGE.out); unfold putPart at HX2 HB2; (refine (jalousieref15_wrong.calls kw p.f0 p.f1 A2 c2 p.f2 _ _ (Kd.C_below HC2.out HB2.out) hc2 HKW.out).mono ?_); rintro e w2 ⟨rfl, hb2⟩; have HX3 := Lib.hid (blk_below HX2.out hb2); have HB3 := Lib.hid (below_step HB2.out hb2); (try (have pp3 := pw_cell_below HB3.out pp2)); clear y0 z0 y1 z1 y2 z2 hb2; have y0 : w2.cell? ⟨gb, 0, none⟩ = some (.int .i64 p.f0) := (blk_cell HX3.out 0).trans rfl; have y1 : w2.cell? ⟨gb, 1, none⟩ = some (.int .i64 p.f1) := (blk_cell HX3.out 1).trans rfl; have y2 : w2.cell? ⟨gb, 2, none⟩ = some (.slice A2 p.f2.length c2) := (blk_cell HX3.out 2).trans rfl; clear HX HBA HX2 HB2))
            go_ret2
            refine ⟨none, 0, ?_, ?_, ?_, HB.trans (HB3.out.mono HB.size)⟩
            · rw [HR_.out]; rfl
            · rw [HR_.out]; exact Nat.le_refl _
            · rw [HR_.out]; exact Kd.C_nil _ _
          case neg =>
            have d2 := decide_eq_false hb2
            by_cases hb3 : 0 < p.f1
            case pos =>
              have d3 := decide_eq_true hb3
              have HGC := Lib.hid (show printGo (nextAt d (i + 1)) (d.drop (i + 1)) (acc ++ copyL p.f0 p.f1) = res by rw [← HGP.out, print_ok (by rw [part_copy HW0.out hb1 hb2 hb3]), part_copy HW0.out hb1 hb2 hb3, HNX.out])
              have hcl := copyL_len p.f0 p.f1
              have s1 := dec_size p.f0
              have s2 := dec_size p.f1
              have HSZ := Lib.hid (ba_size acc)
              have hs0 : (baOf acc).size ≤ 140000000000000 := by have := HSZ.out; omega
              have HFIN := Lib.hid (show baOf (acc ++ copyL p.f0 p.f1) = ((((baOf acc ++ (⟨#[99, 111, 112, 121, 32]⟩ : ByteArray)) ++ decOf p.f0) ++ ⟨#[32]⟩) ++ decOf p.f1) ++ ⟨#[10]⟩ by
                apply ba_eq
                simp only [ba_app, baOf_data, copyL]
                simp [decL])
              have HD1 := Lib.hid (ref_Decimal_tells p.f0)
              have HD2 := Lib.hid (ref_Decimal_tells p.f1)
              clear hb1 hb2 hb3
              generalize decOf p.f0 = D1 at s1 HD1 HFIN
              generalize decOf p.f1 = D2 at s2 HD2 HFIN
              generalize baOf acc = S at hs0 HFIN HSZ ⊢
              have q0 : (⟨#[99, 111, 112, 121, 32]⟩ : ByteArray).size = 5 := rfl
              have q1 : (⟨#[32]⟩ : ByteArray).size = 1 := rfl
              have q2 : (⟨#[10]⟩ : ByteArray).size = 1 := rfl
              have bk1 : (9223372036854775807 < S.size + 5) = False := eq_false (by omega)
              have ck1 : S.size + 5 ≤ 9223372036854775807 := by omega
              have bk2 : (9223372036854775807 < S.size + 5 + D1.size) = False := eq_false (by omega)
              have ck2 : S.size + 5 + D1.size ≤ 9223372036854775807 := by omega
              have bk3 : (9223372036854775807 < S.size + 5 + D1.size + 1) = False := eq_false (by omega)
              have ck3 : S.size + 5 + D1.size + 1 ≤ 9223372036854775807 := by omega
              have bk4 : (9223372036854775807 < S.size + 5 + D1.size + 1 + D2.size) = False := eq_false (by omega)
              have ck4 : S.size + 5 + D1.size + 1 + D2.size ≤ 9223372036854775807 := by omega
              have bk5 : (9223372036854775807 < S.size + 5 + D1.size + 1 + D2.size + 1) = False := eq_false (by omega)
              have ck5 : S.size + 5 + D1.size + 1 + D2.size + 1 ≤ 9223372036854775807 := by omega
              clear q0 q1 q2 s1 s2 hs0
              go_wp2_with (first
                | ((with_reducible refine gate_dst (N := 6) rfl ?_); refine box_event ?hg (N := 6) ?hd (cs := #[.int .i64 0, .int .i64 0, .slice none 0 0]) (t := 27) ?hr ?_; (case hd => rfl); (case hg => rfl); (case hr => first | (go_simp; done) | (go_simp; rfl)); intro gb hg wA hbox hbA; have HX := Lib.hid hbox; have y0 : wA.cell? ⟨gb, 0, none⟩ = some (.int .i64 0) := (blk_cell hbox 0).trans rfl; have z0 := blk_frozen hbox 0; have y1 : wA.cell? ⟨gb, 1, none⟩ = some (.int .i64 0) := (blk_cell hbox 1).trans rfl; have z1 := blk_frozen hbox 1; have y2 : wA.cell? ⟨gb, 2, none⟩ = some (.slice none 0 0) := (blk_cell hbox 2).trans rfl; have z2 := blk_frozen hbox 2; have HGE := Lib.hid (show wr.heap.size ≤ gb by rw [hg]; simp); have HBA := Lib.hid hbA; clear hbox hbA hg)
                | (go_at_call 28; have HX2 := Lib.hid (putPart_blk p.f0 p.f1 (.slice A2 p.f2.length c2) HX.out); have HB2 := Lib.hid (putPart_below p.f0 p.f1 (.slice A2 p.f2.length c2) HBA.out HGE.out); unfold putPart at HX2 HB2; (refine (jalousieref15_wrong.calls kw p.f0 p.f1 A2 c2 p.f2 _ _ (Kd.C_below HC2.out HB2.out) hc2 HKW.out).mono ?_); rintro e w2 ⟨rfl, hb2⟩; have HX3 := Lib.hid (blk_below HX2.out hb2); have HB3 := Lib.hid (below_step HB2.out hb2); (try (have pp3 := pw_cell_below HB3.out pp2)); clear y0 z0 y1 z1 y2 z2 hb2; have y0 : w2.cell? ⟨gb, 0, none⟩ = some (.int .i64 p.f0) := (blk_cell HX3.out 0).trans rfl; have y1 : w2.cell? ⟨gb, 1, none⟩ = some (.int .i64 p.f1) := (blk_cell HX3.out 1).trans rfl; have y2 : w2.cell? ⟨gb, 2, none⟩ = some (.slice A2 p.f2.length c2) := (blk_cell HX3.out 2).trans rfl; clear HX HBA HX2 HB2))
              have HS0 : (fun w' => Below w2.heap.size w2 w' ∧ w'.cell? ⟨gb, 0, none⟩ = some (.int .i64 p.f0) ∧ w'.cell? ⟨gb, 1, none⟩ = some (.int .i64 p.f1)) w2.drew := ⟨below_drew (Below.refl _ _), by go_simp, by go_simp⟩
              clear y0 y1 y2
              go_region_held3 (fun w' => Below w2.heap.size w2 w' ∧ w'.cell? ⟨gb, 0, none⟩ = some (.int .i64 p.f0) ∧ w'.cell? ⟨gb, 1, none⟩ = some (.int .i64 p.f1)) (first | assumption | exact HS0 | exact keep2 (by assumption) (by assumption)) (first
                | (go_at_call 30; (with_reducible refine (jalousieref01_Decimal.calls 20 p.f0 _ _ HD1.out).mono ?_); rintro e w1 ⟨rfl, hb⟩)
                | (go_at_call 30; (with_reducible refine (jalousieref01_Decimal.calls 20 p.f1 _ _ HD2.out).mono ?_); rintro e w1 ⟨rfl, hb⟩))
              all_goals
                go_wp2
                go_roundw
                case rel => exact ⟨i + 1, acc ++ copyL p.f0 p.f1, by go_num, by rw [HFIN.out], by omega, HB.trans ((below_step HB3.out (by assumption : Below w2.heap.size w2 _ ∧ _ ∧ _).1).mono HB.size), HGC.out, by rw [List.length_append]; omega⟩
                case measure => simp [intOf]; omega
            case neg =>
              have d3 := decide_eq_false hb3
              have hn1 : p.f1 = 0 := by omega
              by_cases hi0 : i = 0
              · have HNXT := Lib.hid (show nextAt d i = false by rw [hi0]; exact nextAt_zero d)
                have dz : decide (0 < i) = false := by simp; omega
                clear hi0
                have HPI := Lib.hid (print_items (nxl := []) (by rw [part_items HW0.out hb1 hb2 hb3]; rw [HNXT.out]; rfl) HGP.out)
                rw [← HNX.out] at HPI
                obtain ⟨X, hX⟩ : ∃ X, linesGo p.f2 (acc ++ []) = X := ⟨_, rfl⟩
                rw [hX] at HPI
                have HX0 := Lib.hid hX
                have HNS := Lib.hid (show baOf (acc ++ []) = baOf acc by first | rw [List.append_nil] | (apply ba_eq; rw [ba_app, baOf_data, baOf_data]))
                clear hX hb1 hb2 hb3 hn1 hg
                go_wp2_with (first
                  | ((with_reducible refine gate_dst (N := 6) rfl ?_); refine box_event ?hg (N := 6) ?hd (cs := #[.int .i64 0, .int .i64 0, .slice none 0 0]) (t := 27) ?hr ?_; (case hd => rfl); (case hg => rfl); (case hr => first | (go_simp; done) | (go_simp; rfl)); intro gb hg wA hbox hbA; have HX := Lib.hid hbox; have y0 : wA.cell? ⟨gb, 0, none⟩ = some (.int .i64 0) := (blk_cell hbox 0).trans rfl; have z0 := blk_frozen hbox 0; have y1 : wA.cell? ⟨gb, 1, none⟩ = some (.int .i64 0) := (blk_cell hbox 1).trans rfl; have z1 := blk_frozen hbox 1; have y2 : wA.cell? ⟨gb, 2, none⟩ = some (.slice none 0 0) := (blk_cell hbox 2).trans rfl; have z2 := blk_frozen hbox 2; have HGE := Lib.hid (show wr.heap.size ≤ gb by rw [hg]; simp); have HBA := Lib.hid hbA; clear hbox hbA hg)
                  | (go_at_call 28; have HX2 := Lib.hid (putPart_blk p.f0 p.f1 (.slice A2 p.f2.length c2) HX.out); have HB2 := Lib.hid (putPart_below p.f0 p.f1 (.slice A2 p.f2.length c2) HBA.out HGE.out); unfold putPart at HX2 HB2; (refine (jalousieref15_wrong.calls kw p.f0 p.f1 A2 c2 p.f2 _ _ (Kd.C_below HC2.out HB2.out) hc2 HKW.out).mono ?_); rintro e w2 ⟨rfl, hb2⟩; have HX3 := Lib.hid (blk_below HX2.out hb2); have HB3 := Lib.hid (below_step HB2.out hb2); (try (have pp3 := pw_cell_below HB3.out pp2)); clear y0 z0 y1 z1 y2 z2 hb2; have y0 : w2.cell? ⟨gb, 0, none⟩ = some (.int .i64 p.f0) := (blk_cell HX3.out 0).trans rfl; have y1 : w2.cell? ⟨gb, 1, none⟩ = some (.int .i64 p.f1) := (blk_cell HX3.out 1).trans rfl; have y2 : w2.cell? ⟨gb, 2, none⟩ = some (.slice A2 p.f2.length c2) := (blk_cell HX3.out 2).trans rfl; clear HX HBA HX2 HB2))
                obtain ⟨wo, rfl⟩ : ∃ wo : World, wo = wr := ⟨_, rfl⟩
                obtain ⟨R, hR⟩ : ∃ R, roomP (d.drop (i + 1)) = R := ⟨_, rfl⟩
                rw [hR] at hrd
                have hpl : p.f2.length ≤ 1000000000000 := by have := room_len p.f2; omega
                have HRR := Lib.hid hR
                clear hR y0 y1 y2
                skip
                go_loopw [4, 8] (fun v4 v8 W => RIRel w2 p.f2 X R v4 v8 W) (fun _ v8 _ => p.f2.length - (intOf v8).toNat)
                case atStart => exact ⟨0, acc ++ [], rfl, by rw [HNS.out], Nat.zero_le _, Below.refl _ _, by rw [List.drop_zero]; exact HX0.out, by rw [List.drop_zero, List.length_append]; simp only [List.length_cons, List.length_nil]; omega⟩
                case round =>
                  obtain ⟨j, b, rfl, rfl, hj, HBI, hgo, hrb⟩ := hrel
                  obtain ⟨wi, rfl⟩ : ∃ wi : World, wi = wr := ⟨_, rfl⟩
                  have HGI := Lib.hid hgo
                  clear hgo
                  have HXI := Lib.hid (blk_below HX3.out HBI)
                  have y2 : wi.cell? ⟨gb, 2, none⟩ = some (.slice A2 p.f2.length c2) := (blk_cell HXI.out 2).trans rfl
                  have hgbi := blk_lt HXI.out
                  by_cases hjl : j < p.f2.length
                  · have hdj : decide (j < p.f2.length) = true := by simpa using hjl
                    have hfx := good_at HOKP.out j hjl
                    have hrl := roomL_drop p.f2 j hjl
                    have HGL := Lib.hid (show linesGo (rd_T41 p.f2 (j : Int) :: p.f2.drop (j + 1)) b = X by rw [← it_drop p.f2 j hjl]; exact HGI.out)
                    obtain ⟨ai, rfl, hcx⟩ := cells_at (Kd.C_below (Kd.C_below HC2.out HB3.out) HBI) j hjl
                    obtain ⟨x0, x1, x2, x3, x4, x5⟩ := hcx
                    clear HGI
                    generalize rd_T41 p.f2 (j : Int) = x at x0 x1 x2 x3 x4 x5 hfx hrl HGL
                    obtain ⟨hfx1, hfx2, hfx3⟩ := hfx
                    obtain ⟨kc, hkc⟩ := ref_check_tells x (by omega)
                    have HCK := Lib.hid hkc
                    clear hkc
                    by_cases hck : checkOf x = 0
                    case neg =>
                      have HR_ := Lib.hid (HPI.out.2 _ hck (by have := HGL.out; rw [linesGo, if_neg hck] at this; exact this.symm))
                      obtain ⟨e_, he_⟩ : ∃ e_, checkOf x = e_ := ⟨_, rfl⟩
                      rw [he_] at HCK HR_ hck
                      have e1 : (e_ == 0) = false := by simpa using hck
                      have e2 : (e_ != 0) = true := by simpa using hck
                      clear he_ hck
                      go_wp2_with (first
                        | ((with_reducible refine gate_dst (N := 9) rfl ?_); refine box_event ?hg9 (N := 9) ?hd9 (cs := #[.int .i64 0, .int .i64 0, .int .u64 0, .bool false, .string ⟨#[]⟩, .bool false]) (t := 41) ?hr9 ?_; (case hd9 => rfl); (case hg9 => rfl); (case hr9 => first | (go_simp; done) | (go_simp; rfl)); intro gx hg wA hbox hbA; have HX := Lib.hid hbox; obtain ⟨⟨y0, y1, y2, y3, y4, y5⟩, z0, z1, z2, z3, z4, z5⟩ := zeroCells_at hbox; have HGE := Lib.hid (show wi.heap.size ≤ gx by rw [hg]; simp); have HBA := Lib.hid hbA; clear hbox hbA hg)
                        | (go_at_call 31; have HX2 := Lib.hid (putItem_blk x HX.out); have HBI2 := Lib.hid (putItem_below x HBA.out HGE.out); unfold putItem itemCells at HX2; unfold putItem at HBI2; (with_reducible refine (jalousieref15_check.calls kc x.f0 x.f1.f0 x.f1.f1 x.f2 x.f3.f0 x.f3.f1 _ _ HCK.out).mono ?_); rintro e w5 ⟨rfl, hb5⟩; have HX5 := Lib.hid (blk_below HX2.out hb5); have HB5 := Lib.hid (below_step HBI2.out hb5); clear y0 y1 y2 y3 y4 y5 z0 z1 z2 z3 z4 z5 hb5; obtain ⟨y0, y1, y2, y3, y4, y5⟩ := itemCells_at (show w5.heap[gx]? = some (.cells (itemCells x) 41 (0, 0)) from HX5.out); clear HX HBA HX2 HBI2))
                      go_ret2
                      refine ⟨none, 0, ?_, ?_, ?_, HB.trans ((below_step HB3.out (HBI.trans (HB5.out.mono HBI.size))).mono HB.size)⟩
                      · rw [HR_.out]; rfl
                      · rw [HR_.out]; exact Nat.le_refl _
                      · rw [HR_.out]; exact Kd.C_nil _ _
                    case pos =>
                      have HGN := Lib.hid (show linesGo (p.f2.drop (j + 1)) (b ++ lineL x) = X by have := HGL.out; rwa [linesGo, if_pos hck] at this)
                      rw [hck] at HCK
                      have hll := lineL_len x
                      have HD1 := Lib.hid (ref_Decimal_tells x.f0)
                      have HLB := Lib.hid (show jalousieref02_Print.f 90 x.f1.f0 x.f1.f1 = some (labOf x.f1.f0 x.f1.f1.toNat) by have := ref_Print_label_tells x.f1.f0 x.f1.f1.toNat 90 (Nat.le_refl _); rwa [Int.toNat_of_nonneg hfx1] at this)
                      have s1 := dec_size x.f0
                      have s2 := lab_size x.f1.f0 x.f1.f1.toNat
                      have HSB := Lib.hid (ba_size b)
                      have hs0 : (baOf b).size ≤ 140000000000000 := by have := HSB.out; omega
                      clear HGL hck
                      cases hA : x.f2 with
                      | true =>
                        cases hU : x.f3.f1 with
                          | true =>
                            have hK : kindL x.f2 x.f3.f1 = [97, 98] := by rw [hA, hU]; rfl
                            have HFIN := Lib.hid (show baOf (b ++ lineL x) = ((((((((baOf b ++ (⟨#[105, 116, 101, 109, 32]⟩ : ByteArray)) ++ decOf x.f0) ++ ⟨#[32]⟩) ++ labOf x.f1.f0 x.f1.f1.toNat) ++ ⟨#[32]⟩) ++ ((⟨#[97]⟩ : ByteArray) ++ ⟨#[98]⟩)) ++ ⟨#[32]⟩) ++ x.f3.f0) ++ ⟨#[10]⟩ by
                              apply ba_eq
                              simp only [ba_app, baOf_data, lineL, hK]
                              simp [decL, labOf, ba_app, baOf_data])
                            rw [hA] at x3
                            rw [hU] at x5
                            rw [hA, hU] at HCK
                            clear hK hA hU
                            generalize decOf x.f0 = D1 at s1 HD1 HFIN
                            generalize labOf x.f1.f0 x.f1.f1.toNat = P1 at s2 HLB HFIN
                            generalize baOf b = S at hs0 HFIN HSB ⊢
                            have bk1 : (9223372036854775807 < S.size + 5) = False := eq_false (by omega)
                            have ck1 : S.size + 5 ≤ 9223372036854775807 := by omega
                            have bk2 : (9223372036854775807 < S.size + 5 + D1.size) = False := eq_false (by omega)
                            have ck2 : S.size + 5 + D1.size ≤ 9223372036854775807 := by omega
                            have bk3 : (9223372036854775807 < S.size + 5 + D1.size + 1) = False := eq_false (by omega)
                            have ck3 : S.size + 5 + D1.size + 1 ≤ 9223372036854775807 := by omega
                            have bk4 : (9223372036854775807 < S.size + 5 + D1.size + 1 + P1.size) = False := eq_false (by omega)
                            have ck4 : S.size + 5 + D1.size + 1 + P1.size ≤ 9223372036854775807 := by omega
                            have bk5 : (9223372036854775807 < S.size + 5 + D1.size + 1 + P1.size + 1) = False := eq_false (by omega)
                            have ck5 : S.size + 5 + D1.size + 1 + P1.size + 1 ≤ 9223372036854775807 := by omega
                            have bk6 : (9223372036854775807 < S.size + 5 + D1.size + 1 + P1.size + 1 + 2) = False := eq_false (by omega)
                            have ck6 : S.size + 5 + D1.size + 1 + P1.size + 1 + 2 ≤ 9223372036854775807 := by omega
                            have bk7 : (9223372036854775807 < S.size + 5 + D1.size + 1 + P1.size + 1 + 2 + 1) = False := eq_false (by omega)
                            have ck7 : S.size + 5 + D1.size + 1 + P1.size + 1 + 2 + 1 ≤ 9223372036854775807 := by omega
                            have bk8 : (9223372036854775807 < S.size + 5 + D1.size + 1 + P1.size + 1 + 2 + 1 + x.f3.f0.size) = False := eq_false (by omega)
                            have ck8 : S.size + 5 + D1.size + 1 + P1.size + 1 + 2 + 1 + x.f3.f0.size ≤ 9223372036854775807 := by omega
                            have bk9 : (9223372036854775807 < S.size + 5 + D1.size + 1 + P1.size + 1 + 2 + 1 + x.f3.f0.size + 1) = False := eq_false (by omega)
                            have ck9 : S.size + 5 + D1.size + 1 + P1.size + 1 + 2 + 1 + x.f3.f0.size + 1 ≤ 9223372036854775807 := by omega
                            clear s1 s2 hs0
                            go_wp2_with (first
                              | ((with_reducible refine gate_dst (N := 9) rfl ?_); refine box_event ?hg9 (N := 9) ?hd9 (cs := #[.int .i64 0, .int .i64 0, .int .u64 0, .bool false, .string ⟨#[]⟩, .bool false]) (t := 41) ?hr9 ?_; (case hd9 => rfl); (case hg9 => rfl); (case hr9 => first | (go_simp; done) | (go_simp; rfl)); intro gx hg wA hbox hbA; have HX := Lib.hid hbox; obtain ⟨⟨y0, y1, y2, y3, y4, y5⟩, z0, z1, z2, z3, z4, z5⟩ := zeroCells_at hbox; have HGE := Lib.hid (show wi.heap.size ≤ gx by rw [hg]; simp); have HBA := Lib.hid hbA; clear hbox hbA hg)
                              | (go_at_call 31; have HX2 := Lib.hid (putItem_blk (⟨x.f0, x.f1, true, ⟨x.f3.f0, true⟩⟩ : S41) HX.out); have HBI2 := Lib.hid (putItem_below (⟨x.f0, x.f1, true, ⟨x.f3.f0, true⟩⟩ : S41) HBA.out HGE.out); unfold putItem itemCells at HX2; unfold putItem at HBI2; dsimp only at HX2 HBI2; (with_reducible refine (jalousieref15_check.calls kc x.f0 x.f1.f0 x.f1.f1 true x.f3.f0 true _ _ HCK.out).mono ?_); rintro e w5 ⟨rfl, hb5⟩; have HX5 := Lib.hid (blk_below HX2.out hb5); have HB5 := Lib.hid (below_step HBI2.out hb5); clear y0 y1 y2 y3 y4 y5 z0 z1 z2 z3 z4 z5 hb5; obtain ⟨y0, y1, y2, y3, y4, y5⟩ := itemCells_at (show w5.heap[gx]? = some (.cells (itemCells (⟨x.f0, x.f1, true, ⟨x.f3.f0, true⟩⟩ : S41)) 41 (0, 0)) from HX5.out); dsimp only at y0 y1 y2 y3 y4 y5; clear HX HBA HX2 HBI2))
                            have HS5 : (fun w' => Below w5.heap.size w5 w' ∧ w'.cell? ⟨gx, 0, none⟩ = some (.int .i64 x.f0) ∧ w'.cell? ⟨gx, 1, none⟩ = some (.int .i64 x.f1.f0) ∧ w'.cell? ⟨gx, 2, none⟩ = some (.int .u64 x.f1.f1) ∧ w'.cell? ⟨gx, 4, none⟩ = some (.string x.f3.f0)) w5.drew := ⟨below_drew (Below.refl _ _), by go_simp, by go_simp, by go_simp, by go_simp⟩
                            clear y0 y1 y2 y3 y4 y5
                            go_region_held3 (fun w' => Below w5.heap.size w5 w' ∧ w'.cell? ⟨gx, 0, none⟩ = some (.int .i64 x.f0) ∧ w'.cell? ⟨gx, 1, none⟩ = some (.int .i64 x.f1.f0) ∧ w'.cell? ⟨gx, 2, none⟩ = some (.int .u64 x.f1.f1) ∧ w'.cell? ⟨gx, 4, none⟩ = some (.string x.f3.f0)) (first | assumption | exact HS5 | exact keep4 (by assumption) (by assumption)) (first
                              | (go_at_call 30; (with_reducible refine (jalousieref01_Decimal.calls 20 x.f0 _ _ HD1.out).mono ?_); rintro e w6 ⟨rfl, hb⟩)
                              | (go_at_call 32; (with_reducible refine (jalousieref02_Print.calls 90 x.f1.f0 x.f1.f1 _ _ HLB.out).mono ?_); rintro e w6 ⟨rfl, hb⟩))
                            all_goals
                              go_wp2
                              go_roundw
                              case rel => exact ⟨j + 1, b ++ lineL x, by go_num, by first | rw [HFIN.out] | (rw [HFIN.out]; rfl), by omega, HBI.trans ((below_step HB5.out (by assumption : Below w5.heap.size w5 _ ∧ _ ∧ _ ∧ _ ∧ _).1).mono HBI.size), HGN.out, by rw [List.length_append]; omega⟩
                              case measure => simp [intOf]; omega
                          | false =>
                            have hK : kindL x.f2 x.f3.f1 = [97] := by rw [hA, hU]; rfl
                            have HFIN := Lib.hid (show baOf (b ++ lineL x) = ((((((((baOf b ++ (⟨#[105, 116, 101, 109, 32]⟩ : ByteArray)) ++ decOf x.f0) ++ ⟨#[32]⟩) ++ labOf x.f1.f0 x.f1.f1.toNat) ++ ⟨#[32]⟩) ++ ⟨#[97]⟩) ++ ⟨#[32]⟩) ++ x.f3.f0) ++ ⟨#[10]⟩ by
                              apply ba_eq
                              simp only [ba_app, baOf_data, lineL, hK]
                              simp [decL, labOf, ba_app, baOf_data])
                            rw [hA] at x3
                            rw [hU] at x5
                            rw [hA, hU] at HCK
                            clear hK hA hU
                            generalize decOf x.f0 = D1 at s1 HD1 HFIN
                            generalize labOf x.f1.f0 x.f1.f1.toNat = P1 at s2 HLB HFIN
                            generalize baOf b = S at hs0 HFIN HSB ⊢
                            have bk1 : (9223372036854775807 < S.size + 5) = False := eq_false (by omega)
                            have ck1 : S.size + 5 ≤ 9223372036854775807 := by omega
                            have bk2 : (9223372036854775807 < S.size + 5 + D1.size) = False := eq_false (by omega)
                            have ck2 : S.size + 5 + D1.size ≤ 9223372036854775807 := by omega
                            have bk3 : (9223372036854775807 < S.size + 5 + D1.size + 1) = False := eq_false (by omega)
                            have ck3 : S.size + 5 + D1.size + 1 ≤ 9223372036854775807 := by omega
                            have bk4 : (9223372036854775807 < S.size + 5 + D1.size + 1 + P1.size) = False := eq_false (by omega)
                            have ck4 : S.size + 5 + D1.size + 1 + P1.size ≤ 9223372036854775807 := by omega
                            have bk5 : (9223372036854775807 < S.size + 5 + D1.size + 1 + P1.size + 1) = False := eq_false (by omega)
                            have ck5 : S.size + 5 + D1.size + 1 + P1.size + 1 ≤ 9223372036854775807 := by omega
                            have bk6 : (9223372036854775807 < S.size + 5 + D1.size + 1 + P1.size + 1 + 1) = False := eq_false (by omega)
                            have ck6 : S.size + 5 + D1.size + 1 + P1.size + 1 + 1 ≤ 9223372036854775807 := by omega
                            have bk7 : (9223372036854775807 < S.size + 5 + D1.size + 1 + P1.size + 1 + 1 + 1) = False := eq_false (by omega)
                            have ck7 : S.size + 5 + D1.size + 1 + P1.size + 1 + 1 + 1 ≤ 9223372036854775807 := by omega
                            have bk8 : (9223372036854775807 < S.size + 5 + D1.size + 1 + P1.size + 1 + 1 + 1 + x.f3.f0.size) = False := eq_false (by omega)
                            have ck8 : S.size + 5 + D1.size + 1 + P1.size + 1 + 1 + 1 + x.f3.f0.size ≤ 9223372036854775807 := by omega
                            have bk9 : (9223372036854775807 < S.size + 5 + D1.size + 1 + P1.size + 1 + 1 + 1 + x.f3.f0.size + 1) = False := eq_false (by omega)
                            have ck9 : S.size + 5 + D1.size + 1 + P1.size + 1 + 1 + 1 + x.f3.f0.size + 1 ≤ 9223372036854775807 := by omega
                            clear s1 s2 hs0
                            go_wp2_with (first
                              | ((with_reducible refine gate_dst (N := 9) rfl ?_); refine box_event ?hg9 (N := 9) ?hd9 (cs := #[.int .i64 0, .int .i64 0, .int .u64 0, .bool false, .string ⟨#[]⟩, .bool false]) (t := 41) ?hr9 ?_; (case hd9 => rfl); (case hg9 => rfl); (case hr9 => first | (go_simp; done) | (go_simp; rfl)); intro gx hg wA hbox hbA; have HX := Lib.hid hbox; obtain ⟨⟨y0, y1, y2, y3, y4, y5⟩, z0, z1, z2, z3, z4, z5⟩ := zeroCells_at hbox; have HGE := Lib.hid (show wi.heap.size ≤ gx by rw [hg]; simp); have HBA := Lib.hid hbA; clear hbox hbA hg)
                              | (go_at_call 31; have HX2 := Lib.hid (putItem_blk (⟨x.f0, x.f1, true, ⟨x.f3.f0, false⟩⟩ : S41) HX.out); have HBI2 := Lib.hid (putItem_below (⟨x.f0, x.f1, true, ⟨x.f3.f0, false⟩⟩ : S41) HBA.out HGE.out); unfold putItem itemCells at HX2; unfold putItem at HBI2; dsimp only at HX2 HBI2; (with_reducible refine (jalousieref15_check.calls kc x.f0 x.f1.f0 x.f1.f1 true x.f3.f0 false _ _ HCK.out).mono ?_); rintro e w5 ⟨rfl, hb5⟩; have HX5 := Lib.hid (blk_below HX2.out hb5); have HB5 := Lib.hid (below_step HBI2.out hb5); clear y0 y1 y2 y3 y4 y5 z0 z1 z2 z3 z4 z5 hb5; obtain ⟨y0, y1, y2, y3, y4, y5⟩ := itemCells_at (show w5.heap[gx]? = some (.cells (itemCells (⟨x.f0, x.f1, true, ⟨x.f3.f0, false⟩⟩ : S41)) 41 (0, 0)) from HX5.out); dsimp only at y0 y1 y2 y3 y4 y5; clear HX HBA HX2 HBI2))
                            have HS5 : (fun w' => Below w5.heap.size w5 w' ∧ w'.cell? ⟨gx, 0, none⟩ = some (.int .i64 x.f0) ∧ w'.cell? ⟨gx, 1, none⟩ = some (.int .i64 x.f1.f0) ∧ w'.cell? ⟨gx, 2, none⟩ = some (.int .u64 x.f1.f1) ∧ w'.cell? ⟨gx, 4, none⟩ = some (.string x.f3.f0)) w5.drew := ⟨below_drew (Below.refl _ _), by go_simp, by go_simp, by go_simp, by go_simp⟩
                            clear y0 y1 y2 y3 y4 y5
                            go_region_held3 (fun w' => Below w5.heap.size w5 w' ∧ w'.cell? ⟨gx, 0, none⟩ = some (.int .i64 x.f0) ∧ w'.cell? ⟨gx, 1, none⟩ = some (.int .i64 x.f1.f0) ∧ w'.cell? ⟨gx, 2, none⟩ = some (.int .u64 x.f1.f1) ∧ w'.cell? ⟨gx, 4, none⟩ = some (.string x.f3.f0)) (first | assumption | exact HS5 | exact keep4 (by assumption) (by assumption)) (first
                              | (go_at_call 30; (with_reducible refine (jalousieref01_Decimal.calls 20 x.f0 _ _ HD1.out).mono ?_); rintro e w6 ⟨rfl, hb⟩)
                              | (go_at_call 32; (with_reducible refine (jalousieref02_Print.calls 90 x.f1.f0 x.f1.f1 _ _ HLB.out).mono ?_); rintro e w6 ⟨rfl, hb⟩))
                            all_goals
                              go_wp2
                              go_roundw
                              case rel => exact ⟨j + 1, b ++ lineL x, by go_num, by first | rw [HFIN.out] | (rw [HFIN.out]; rfl), by omega, HBI.trans ((below_step HB5.out (by assumption : Below w5.heap.size w5 _ ∧ _ ∧ _ ∧ _ ∧ _).1).mono HBI.size), HGN.out, by rw [List.length_append]; omega⟩
                              case measure => simp [intOf]; omega
                      | false =>
                        cases hU : x.f3.f1 with
                          | true =>
                            have hK : kindL x.f2 x.f3.f1 = [108, 98] := by rw [hA, hU]; rfl
                            have HFIN := Lib.hid (show baOf (b ++ lineL x) = ((((((((baOf b ++ (⟨#[105, 116, 101, 109, 32]⟩ : ByteArray)) ++ decOf x.f0) ++ ⟨#[32]⟩) ++ labOf x.f1.f0 x.f1.f1.toNat) ++ ⟨#[32]⟩) ++ ((⟨#[108]⟩ : ByteArray) ++ ⟨#[98]⟩)) ++ ⟨#[32]⟩) ++ x.f3.f0) ++ ⟨#[10]⟩ by
                              apply ba_eq
                              simp only [ba_app, baOf_data, lineL, hK]
                              simp [decL, labOf, ba_app, baOf_data])
                            rw [hA] at x3
                            rw [hU] at x5
                            rw [hA, hU] at HCK
                            clear hK hA hU
                            generalize decOf x.f0 = D1 at s1 HD1 HFIN
                            generalize labOf x.f1.f0 x.f1.f1.toNat = P1 at s2 HLB HFIN
                            generalize baOf b = S at hs0 HFIN HSB ⊢
                            have bk1 : (9223372036854775807 < S.size + 5) = False := eq_false (by omega)
                            have ck1 : S.size + 5 ≤ 9223372036854775807 := by omega
                            have bk2 : (9223372036854775807 < S.size + 5 + D1.size) = False := eq_false (by omega)
                            have ck2 : S.size + 5 + D1.size ≤ 9223372036854775807 := by omega
                            have bk3 : (9223372036854775807 < S.size + 5 + D1.size + 1) = False := eq_false (by omega)
                            have ck3 : S.size + 5 + D1.size + 1 ≤ 9223372036854775807 := by omega
                            have bk4 : (9223372036854775807 < S.size + 5 + D1.size + 1 + P1.size) = False := eq_false (by omega)
                            have ck4 : S.size + 5 + D1.size + 1 + P1.size ≤ 9223372036854775807 := by omega
                            have bk5 : (9223372036854775807 < S.size + 5 + D1.size + 1 + P1.size + 1) = False := eq_false (by omega)
                            have ck5 : S.size + 5 + D1.size + 1 + P1.size + 1 ≤ 9223372036854775807 := by omega
                            have bk6 : (9223372036854775807 < S.size + 5 + D1.size + 1 + P1.size + 1 + 2) = False := eq_false (by omega)
                            have ck6 : S.size + 5 + D1.size + 1 + P1.size + 1 + 2 ≤ 9223372036854775807 := by omega
                            have bk7 : (9223372036854775807 < S.size + 5 + D1.size + 1 + P1.size + 1 + 2 + 1) = False := eq_false (by omega)
                            have ck7 : S.size + 5 + D1.size + 1 + P1.size + 1 + 2 + 1 ≤ 9223372036854775807 := by omega
                            have bk8 : (9223372036854775807 < S.size + 5 + D1.size + 1 + P1.size + 1 + 2 + 1 + x.f3.f0.size) = False := eq_false (by omega)
                            have ck8 : S.size + 5 + D1.size + 1 + P1.size + 1 + 2 + 1 + x.f3.f0.size ≤ 9223372036854775807 := by omega
                            have bk9 : (9223372036854775807 < S.size + 5 + D1.size + 1 + P1.size + 1 + 2 + 1 + x.f3.f0.size + 1) = False := eq_false (by omega)
                            have ck9 : S.size + 5 + D1.size + 1 + P1.size + 1 + 2 + 1 + x.f3.f0.size + 1 ≤ 9223372036854775807 := by omega
                            clear s1 s2 hs0
                            go_wp2_with (first
                              | ((with_reducible refine gate_dst (N := 9) rfl ?_); refine box_event ?hg9 (N := 9) ?hd9 (cs := #[.int .i64 0, .int .i64 0, .int .u64 0, .bool false, .string ⟨#[]⟩, .bool false]) (t := 41) ?hr9 ?_; (case hd9 => rfl); (case hg9 => rfl); (case hr9 => first | (go_simp; done) | (go_simp; rfl)); intro gx hg wA hbox hbA; have HX := Lib.hid hbox; obtain ⟨⟨y0, y1, y2, y3, y4, y5⟩, z0, z1, z2, z3, z4, z5⟩ := zeroCells_at hbox; have HGE := Lib.hid (show wi.heap.size ≤ gx by rw [hg]; simp); have HBA := Lib.hid hbA; clear hbox hbA hg)
                              | (go_at_call 31; have HX2 := Lib.hid (putItem_blk (⟨x.f0, x.f1, false, ⟨x.f3.f0, true⟩⟩ : S41) HX.out); have HBI2 := Lib.hid (putItem_below (⟨x.f0, x.f1, false, ⟨x.f3.f0, true⟩⟩ : S41) HBA.out HGE.out); unfold putItem itemCells at HX2; unfold putItem at HBI2; dsimp only at HX2 HBI2; (with_reducible refine (jalousieref15_check.calls kc x.f0 x.f1.f0 x.f1.f1 false x.f3.f0 true _ _ HCK.out).mono ?_); rintro e w5 ⟨rfl, hb5⟩; have HX5 := Lib.hid (blk_below HX2.out hb5); have HB5 := Lib.hid (below_step HBI2.out hb5); clear y0 y1 y2 y3 y4 y5 z0 z1 z2 z3 z4 z5 hb5; obtain ⟨y0, y1, y2, y3, y4, y5⟩ := itemCells_at (show w5.heap[gx]? = some (.cells (itemCells (⟨x.f0, x.f1, false, ⟨x.f3.f0, true⟩⟩ : S41)) 41 (0, 0)) from HX5.out); dsimp only at y0 y1 y2 y3 y4 y5; clear HX HBA HX2 HBI2))
                            have HS5 : (fun w' => Below w5.heap.size w5 w' ∧ w'.cell? ⟨gx, 0, none⟩ = some (.int .i64 x.f0) ∧ w'.cell? ⟨gx, 1, none⟩ = some (.int .i64 x.f1.f0) ∧ w'.cell? ⟨gx, 2, none⟩ = some (.int .u64 x.f1.f1) ∧ w'.cell? ⟨gx, 4, none⟩ = some (.string x.f3.f0)) w5.drew := ⟨below_drew (Below.refl _ _), by go_simp, by go_simp, by go_simp, by go_simp⟩
                            clear y0 y1 y2 y3 y4 y5
                            go_region_held3 (fun w' => Below w5.heap.size w5 w' ∧ w'.cell? ⟨gx, 0, none⟩ = some (.int .i64 x.f0) ∧ w'.cell? ⟨gx, 1, none⟩ = some (.int .i64 x.f1.f0) ∧ w'.cell? ⟨gx, 2, none⟩ = some (.int .u64 x.f1.f1) ∧ w'.cell? ⟨gx, 4, none⟩ = some (.string x.f3.f0)) (first | assumption | exact HS5 | exact keep4 (by assumption) (by assumption)) (first
                              | (go_at_call 30; (with_reducible refine (jalousieref01_Decimal.calls 20 x.f0 _ _ HD1.out).mono ?_); rintro e w6 ⟨rfl, hb⟩)
                              | (go_at_call 32; (with_reducible refine (jalousieref02_Print.calls 90 x.f1.f0 x.f1.f1 _ _ HLB.out).mono ?_); rintro e w6 ⟨rfl, hb⟩))
                            all_goals
                              go_wp2
                              go_roundw
                              case rel => exact ⟨j + 1, b ++ lineL x, by go_num, by first | rw [HFIN.out] | (rw [HFIN.out]; rfl), by omega, HBI.trans ((below_step HB5.out (by assumption : Below w5.heap.size w5 _ ∧ _ ∧ _ ∧ _ ∧ _).1).mono HBI.size), HGN.out, by rw [List.length_append]; omega⟩
                              case measure => simp [intOf]; omega
                          | false =>
                            have hK : kindL x.f2 x.f3.f1 = [108] := by rw [hA, hU]; rfl
                            have HFIN := Lib.hid (show baOf (b ++ lineL x) = ((((((((baOf b ++ (⟨#[105, 116, 101, 109, 32]⟩ : ByteArray)) ++ decOf x.f0) ++ ⟨#[32]⟩) ++ labOf x.f1.f0 x.f1.f1.toNat) ++ ⟨#[32]⟩) ++ ⟨#[108]⟩) ++ ⟨#[32]⟩) ++ x.f3.f0) ++ ⟨#[10]⟩ by
                              apply ba_eq
                              simp only [ba_app, baOf_data, lineL, hK]
                              simp [decL, labOf, ba_app, baOf_data])
                            rw [hA] at x3
                            rw [hU] at x5
                            rw [hA, hU] at HCK
                            clear hK hA hU
                            generalize decOf x.f0 = D1 at s1 HD1 HFIN
                            generalize labOf x.f1.f0 x.f1.f1.toNat = P1 at s2 HLB HFIN
                            generalize baOf b = S at hs0 HFIN HSB ⊢
                            have bk1 : (9223372036854775807 < S.size + 5) = False := eq_false (by omega)
                            have ck1 : S.size + 5 ≤ 9223372036854775807 := by omega
                            have bk2 : (9223372036854775807 < S.size + 5 + D1.size) = False := eq_false (by omega)
                            have ck2 : S.size + 5 + D1.size ≤ 9223372036854775807 := by omega
                            have bk3 : (9223372036854775807 < S.size + 5 + D1.size + 1) = False := eq_false (by omega)
                            have ck3 : S.size + 5 + D1.size + 1 ≤ 9223372036854775807 := by omega
                            have bk4 : (9223372036854775807 < S.size + 5 + D1.size + 1 + P1.size) = False := eq_false (by omega)
                            have ck4 : S.size + 5 + D1.size + 1 + P1.size ≤ 9223372036854775807 := by omega
                            have bk5 : (9223372036854775807 < S.size + 5 + D1.size + 1 + P1.size + 1) = False := eq_false (by omega)
                            have ck5 : S.size + 5 + D1.size + 1 + P1.size + 1 ≤ 9223372036854775807 := by omega
                            have bk6 : (9223372036854775807 < S.size + 5 + D1.size + 1 + P1.size + 1 + 1) = False := eq_false (by omega)
                            have ck6 : S.size + 5 + D1.size + 1 + P1.size + 1 + 1 ≤ 9223372036854775807 := by omega
                            have bk7 : (9223372036854775807 < S.size + 5 + D1.size + 1 + P1.size + 1 + 1 + 1) = False := eq_false (by omega)
                            have ck7 : S.size + 5 + D1.size + 1 + P1.size + 1 + 1 + 1 ≤ 9223372036854775807 := by omega
                            have bk8 : (9223372036854775807 < S.size + 5 + D1.size + 1 + P1.size + 1 + 1 + 1 + x.f3.f0.size) = False := eq_false (by omega)
                            have ck8 : S.size + 5 + D1.size + 1 + P1.size + 1 + 1 + 1 + x.f3.f0.size ≤ 9223372036854775807 := by omega
                            have bk9 : (9223372036854775807 < S.size + 5 + D1.size + 1 + P1.size + 1 + 1 + 1 + x.f3.f0.size + 1) = False := eq_false (by omega)
                            have ck9 : S.size + 5 + D1.size + 1 + P1.size + 1 + 1 + 1 + x.f3.f0.size + 1 ≤ 9223372036854775807 := by omega
                            clear s1 s2 hs0
                            go_wp2_with (first
                              | ((with_reducible refine gate_dst (N := 9) rfl ?_); refine box_event ?hg9 (N := 9) ?hd9 (cs := #[.int .i64 0, .int .i64 0, .int .u64 0, .bool false, .string ⟨#[]⟩, .bool false]) (t := 41) ?hr9 ?_; (case hd9 => rfl); (case hg9 => rfl); (case hr9 => first | (go_simp; done) | (go_simp; rfl)); intro gx hg wA hbox hbA; have HX := Lib.hid hbox; obtain ⟨⟨y0, y1, y2, y3, y4, y5⟩, z0, z1, z2, z3, z4, z5⟩ := zeroCells_at hbox; have HGE := Lib.hid (show wi.heap.size ≤ gx by rw [hg]; simp); have HBA := Lib.hid hbA; clear hbox hbA hg)
                              | (go_at_call 31; have HX2 := Lib.hid (putItem_blk (⟨x.f0, x.f1, false, ⟨x.f3.f0, false⟩⟩ : S41) HX.out); have HBI2 := Lib.hid (putItem_below (⟨x.f0, x.f1, false, ⟨x.f3.f0, false⟩⟩ : S41) HBA.out HGE.out); unfold putItem itemCells at HX2; unfold putItem at HBI2; dsimp only at HX2 HBI2; (with_reducible refine (jalousieref15_check.calls kc x.f0 x.f1.f0 x.f1.f1 false x.f3.f0 false _ _ HCK.out).mono ?_); rintro e w5 ⟨rfl, hb5⟩; have HX5 := Lib.hid (blk_below HX2.out hb5); have HB5 := Lib.hid (below_step HBI2.out hb5); clear y0 y1 y2 y3 y4 y5 z0 z1 z2 z3 z4 z5 hb5; obtain ⟨y0, y1, y2, y3, y4, y5⟩ := itemCells_at (show w5.heap[gx]? = some (.cells (itemCells (⟨x.f0, x.f1, false, ⟨x.f3.f0, false⟩⟩ : S41)) 41 (0, 0)) from HX5.out); dsimp only at y0 y1 y2 y3 y4 y5; clear HX HBA HX2 HBI2))
                            have HS5 : (fun w' => Below w5.heap.size w5 w' ∧ w'.cell? ⟨gx, 0, none⟩ = some (.int .i64 x.f0) ∧ w'.cell? ⟨gx, 1, none⟩ = some (.int .i64 x.f1.f0) ∧ w'.cell? ⟨gx, 2, none⟩ = some (.int .u64 x.f1.f1) ∧ w'.cell? ⟨gx, 4, none⟩ = some (.string x.f3.f0)) w5.drew := ⟨below_drew (Below.refl _ _), by go_simp, by go_simp, by go_simp, by go_simp⟩
                            clear y0 y1 y2 y3 y4 y5
                            go_region_held3 (fun w' => Below w5.heap.size w5 w' ∧ w'.cell? ⟨gx, 0, none⟩ = some (.int .i64 x.f0) ∧ w'.cell? ⟨gx, 1, none⟩ = some (.int .i64 x.f1.f0) ∧ w'.cell? ⟨gx, 2, none⟩ = some (.int .u64 x.f1.f1) ∧ w'.cell? ⟨gx, 4, none⟩ = some (.string x.f3.f0)) (first | assumption | exact HS5 | exact keep4 (by assumption) (by assumption)) (first
                              | (go_at_call 30; (with_reducible refine (jalousieref01_Decimal.calls 20 x.f0 _ _ HD1.out).mono ?_); rintro e w6 ⟨rfl, hb⟩)
                              | (go_at_call 32; (with_reducible refine (jalousieref02_Print.calls 90 x.f1.f0 x.f1.f1 _ _ HLB.out).mono ?_); rintro e w6 ⟨rfl, hb⟩))
                            all_goals
                              go_wp2
                              go_roundw
                              case rel => exact ⟨j + 1, b ++ lineL x, by go_num, by first | rw [HFIN.out] | (rw [HFIN.out]; rfl), by omega, HBI.trans ((below_step HB5.out (by assumption : Below w5.heap.size w5 _ ∧ _ ∧ _ ∧ _ ∧ _).1).mono HBI.size), HGN.out, by rw [List.length_append]; omega⟩
                              case measure => simp [intOf]; omega
                  · have hdj : decide (j < p.f2.length) = false := by simpa using hjl
                    obtain rfl : j = p.f2.length := by omega
                    have HE := Lib.hid (HPI.out.1 b (by have := HGI.out; rw [List.drop_length] at this; exact this.symm))
                    rw [List.drop_length] at hrb
                    clear HGI
                    go_wp2
                    go_roundw
                    case rel => exact ⟨i + 1, b, by go_num, rfl, by omega, HB.trans ((below_step HB3.out HBI).mono HB.size), HE.out, by rw [HRR.out]; omega⟩
                    case measure => simp [intOf]; omega
              · obtain ⟨i', rfl⟩ : ∃ i', i = i' + 1 := ⟨i - 1, by omega⟩
                have dz : decide (0 < i' + 1) = true := by simp
                have hw9 : IntKind.i64.wrap (((i' + 1 : Nat) : Int) - 1) = (i' : Int) := by rw [show ((i' + 1 : Nat) : Int) - 1 = (i' : Int) by omega]; exact IntWalk.i64_in _ (by omega)
                have hi'l : i' < d.length := by omega
                obtain ⟨ap, A8, c8, ep, _, _, pp2, _, _⟩ := at_T27 (Kd.C_below HR0.out HB) (i' : Int) (by omega) (by omega)
                obtain rfl : ad = ap := by injection ep
                rw [Int.toNat_natCast] at pp2
                have hnxt := nextAt_succ d i'
                clear hi0 ep
                by_cases hnx : 0 < (rd_T27 d (i' : Int)).f2.length
                · have HNXT := Lib.hid (show nextAt d (i' + 1) = true by rw [hnxt]; exact decide_eq_true hnx)
                  have dn : decide (0 < (rd_T27 d (i' : Int)).f2.length) = true := decide_eq_true hnx
                  generalize rd_T27 d (i' : Int) = pv at pp2 dn
                  clear hnx hnxt
                  have HPI := Lib.hid (print_items (nxl := [110, 101, 120, 116, 10]) (by rw [part_items HW0.out hb1 hb2 hb3]; rw [HNXT.out]; rfl) HGP.out)
                  rw [← HNX.out] at HPI
                  obtain ⟨X, hX⟩ : ∃ X, linesGo p.f2 (acc ++ [110, 101, 120, 116, 10]) = X := ⟨_, rfl⟩
                  rw [hX] at HPI
                  have HX0 := Lib.hid hX
                  have HNS := Lib.hid (show baOf (acc ++ [110, 101, 120, 116, 10]) = baOf acc ++ (⟨#[110, 101, 120, 116, 10]⟩ : ByteArray) by first | rw [List.append_nil] | (apply ba_eq; rw [ba_app, baOf_data, baOf_data]))
                  clear hX hb1 hb2 hb3 hn1 hg
                  have HSZ := Lib.hid (ba_size acc)
                  have hs0 : (baOf acc).size ≤ 140000000000000 := by have := HSZ.out; omega
                  have b1 : (9223372036854775807 < (baOf acc).size + 5) = False := eq_false (by omega)
                  have c1 : (baOf acc).size + 5 ≤ 9223372036854775807 := by omega
                  clear hs0
                  go_wp2_with (first
                    | ((with_reducible refine gate_dst (N := 6) rfl ?_); refine box_event ?hg (N := 6) ?hd (cs := #[.int .i64 0, .int .i64 0, .slice none 0 0]) (t := 27) ?hr ?_; (case hd => rfl); (case hg => rfl); (case hr => first | (go_simp; done) | (go_simp; rfl)); intro gb hg wA hbox hbA; have HX := Lib.hid hbox; have y0 : wA.cell? ⟨gb, 0, none⟩ = some (.int .i64 0) := (blk_cell hbox 0).trans rfl; have z0 := blk_frozen hbox 0; have y1 : wA.cell? ⟨gb, 1, none⟩ = some (.int .i64 0) := (blk_cell hbox 1).trans rfl; have z1 := blk_frozen hbox 1; have y2 : wA.cell? ⟨gb, 2, none⟩ = some (.slice none 0 0) := (blk_cell hbox 2).trans rfl; have z2 := blk_frozen hbox 2; have HGE := Lib.hid (show wr.heap.size ≤ gb by rw [hg]; simp); have HBA := Lib.hid hbA; clear hbox hbA hg)
                    | (go_at_call 28; have HX2 := Lib.hid (putPart_blk p.f0 p.f1 (.slice A2 p.f2.length c2) HX.out); have HB2 := Lib.hid (putPart_below p.f0 p.f1 (.slice A2 p.f2.length c2) HBA.out HGE.out); unfold putPart at HX2 HB2; (refine (jalousieref15_wrong.calls kw p.f0 p.f1 A2 c2 p.f2 _ _ (Kd.C_below HC2.out HB2.out) hc2 HKW.out).mono ?_); rintro e w2 ⟨rfl, hb2⟩; have HX3 := Lib.hid (blk_below HX2.out hb2); have HB3 := Lib.hid (below_step HB2.out hb2); (try (have pp3 := pw_cell_below HB3.out pp2)); clear y0 z0 y1 z1 y2 z2 hb2; have y0 : w2.cell? ⟨gb, 0, none⟩ = some (.int .i64 p.f0) := (blk_cell HX3.out 0).trans rfl; have y1 : w2.cell? ⟨gb, 1, none⟩ = some (.int .i64 p.f1) := (blk_cell HX3.out 1).trans rfl; have y2 : w2.cell? ⟨gb, 2, none⟩ = some (.slice A2 p.f2.length c2) := (blk_cell HX3.out 2).trans rfl; clear HX HBA HX2 HB2))
                  obtain ⟨wo, rfl⟩ : ∃ wo : World, wo = wr := ⟨_, rfl⟩
                  obtain ⟨R, hR⟩ : ∃ R, roomP (d.drop (i' + 1 + 1)) = R := ⟨_, rfl⟩
                  rw [hR] at hrd
                  have hpl : p.f2.length ≤ 1000000000000 := by have := room_len p.f2; omega
                  have HRR := Lib.hid hR
                  clear hR y0 y1 y2
                  skip
                  go_loopw [4, 8] (fun v4 v8 W => RIRel w2 p.f2 X R v4 v8 W) (fun _ v8 _ => p.f2.length - (intOf v8).toNat)
                  case atStart => exact ⟨0, acc ++ [110, 101, 120, 116, 10], rfl, by rw [HNS.out], Nat.zero_le _, Below.refl _ _, by rw [List.drop_zero]; exact HX0.out, by rw [List.drop_zero, List.length_append]; simp only [List.length_cons, List.length_nil]; omega⟩
                  case round =>
                    obtain ⟨j, b, rfl, rfl, hj, HBI, hgo, hrb⟩ := hrel
                    obtain ⟨wi, rfl⟩ : ∃ wi : World, wi = wr := ⟨_, rfl⟩
                    have HGI := Lib.hid hgo
                    clear hgo
                    have HXI := Lib.hid (blk_below HX3.out HBI)
                    have y2 : wi.cell? ⟨gb, 2, none⟩ = some (.slice A2 p.f2.length c2) := (blk_cell HXI.out 2).trans rfl
                    have hgbi := blk_lt HXI.out
                    by_cases hjl : j < p.f2.length
                    · have hdj : decide (j < p.f2.length) = true := by simpa using hjl
                      have hfx := good_at HOKP.out j hjl
                      have hrl := roomL_drop p.f2 j hjl
                      have HGL := Lib.hid (show linesGo (rd_T41 p.f2 (j : Int) :: p.f2.drop (j + 1)) b = X by rw [← it_drop p.f2 j hjl]; exact HGI.out)
                      obtain ⟨ai, rfl, hcx⟩ := cells_at (Kd.C_below (Kd.C_below HC2.out HB3.out) HBI) j hjl
                      obtain ⟨x0, x1, x2, x3, x4, x5⟩ := hcx
                      clear HGI
                      generalize rd_T41 p.f2 (j : Int) = x at x0 x1 x2 x3 x4 x5 hfx hrl HGL
                      obtain ⟨hfx1, hfx2, hfx3⟩ := hfx
                      obtain ⟨kc, hkc⟩ := ref_check_tells x (by omega)
                      have HCK := Lib.hid hkc
                      clear hkc
                      by_cases hck : checkOf x = 0
                      case neg =>
                        have HR_ := Lib.hid (HPI.out.2 _ hck (by have := HGL.out; rw [linesGo, if_neg hck] at this; exact this.symm))
                        obtain ⟨e_, he_⟩ : ∃ e_, checkOf x = e_ := ⟨_, rfl⟩
                        rw [he_] at HCK HR_ hck
                        have e1 : (e_ == 0) = false := by simpa using hck
                        have e2 : (e_ != 0) = true := by simpa using hck
                        clear he_ hck
                        go_wp2_with (first
                          | ((with_reducible refine gate_dst (N := 9) rfl ?_); refine box_event ?hg9 (N := 9) ?hd9 (cs := #[.int .i64 0, .int .i64 0, .int .u64 0, .bool false, .string ⟨#[]⟩, .bool false]) (t := 41) ?hr9 ?_; (case hd9 => rfl); (case hg9 => rfl); (case hr9 => first | (go_simp; done) | (go_simp; rfl)); intro gx hg wA hbox hbA; have HX := Lib.hid hbox; obtain ⟨⟨y0, y1, y2, y3, y4, y5⟩, z0, z1, z2, z3, z4, z5⟩ := zeroCells_at hbox; have HGE := Lib.hid (show wi.heap.size ≤ gx by rw [hg]; simp); have HBA := Lib.hid hbA; clear hbox hbA hg)
                          | (go_at_call 31; have HX2 := Lib.hid (putItem_blk x HX.out); have HBI2 := Lib.hid (putItem_below x HBA.out HGE.out); unfold putItem itemCells at HX2; unfold putItem at HBI2; (with_reducible refine (jalousieref15_check.calls kc x.f0 x.f1.f0 x.f1.f1 x.f2 x.f3.f0 x.f3.f1 _ _ HCK.out).mono ?_); rintro e w5 ⟨rfl, hb5⟩; have HX5 := Lib.hid (blk_below HX2.out hb5); have HB5 := Lib.hid (below_step HBI2.out hb5); clear y0 y1 y2 y3 y4 y5 z0 z1 z2 z3 z4 z5 hb5; obtain ⟨y0, y1, y2, y3, y4, y5⟩ := itemCells_at (show w5.heap[gx]? = some (.cells (itemCells x) 41 (0, 0)) from HX5.out); clear HX HBA HX2 HBI2))
                        go_ret2
                        refine ⟨none, 0, ?_, ?_, ?_, HB.trans ((below_step HB3.out (HBI.trans (HB5.out.mono HBI.size))).mono HB.size)⟩
                        · rw [HR_.out]; rfl
                        · rw [HR_.out]; exact Nat.le_refl _
                        · rw [HR_.out]; exact Kd.C_nil _ _
                      case pos =>
                        have HGN := Lib.hid (show linesGo (p.f2.drop (j + 1)) (b ++ lineL x) = X by have := HGL.out; rwa [linesGo, if_pos hck] at this)
                        rw [hck] at HCK
                        have hll := lineL_len x
                        have HD1 := Lib.hid (ref_Decimal_tells x.f0)
                        have HLB := Lib.hid (show jalousieref02_Print.f 90 x.f1.f0 x.f1.f1 = some (labOf x.f1.f0 x.f1.f1.toNat) by have := ref_Print_label_tells x.f1.f0 x.f1.f1.toNat 90 (Nat.le_refl _); rwa [Int.toNat_of_nonneg hfx1] at this)
                        have s1 := dec_size x.f0
                        have s2 := lab_size x.f1.f0 x.f1.f1.toNat
                        have HSB := Lib.hid (ba_size b)
                        have hs0 : (baOf b).size ≤ 140000000000000 := by have := HSB.out; omega
                        clear HGL hck
                        cases hA : x.f2 with
                        | true =>
                          cases hU : x.f3.f1 with
                            | true =>
                              have hK : kindL x.f2 x.f3.f1 = [97, 98] := by rw [hA, hU]; rfl
                              have HFIN := Lib.hid (show baOf (b ++ lineL x) = ((((((((baOf b ++ (⟨#[105, 116, 101, 109, 32]⟩ : ByteArray)) ++ decOf x.f0) ++ ⟨#[32]⟩) ++ labOf x.f1.f0 x.f1.f1.toNat) ++ ⟨#[32]⟩) ++ ((⟨#[97]⟩ : ByteArray) ++ ⟨#[98]⟩)) ++ ⟨#[32]⟩) ++ x.f3.f0) ++ ⟨#[10]⟩ by
                                apply ba_eq
                                simp only [ba_app, baOf_data, lineL, hK]
                                simp [decL, labOf, ba_app, baOf_data])
                              rw [hA] at x3
                              rw [hU] at x5
                              rw [hA, hU] at HCK
                              clear hK hA hU
                              generalize decOf x.f0 = D1 at s1 HD1 HFIN
                              generalize labOf x.f1.f0 x.f1.f1.toNat = P1 at s2 HLB HFIN
                              generalize baOf b = S at hs0 HFIN HSB ⊢
                              have bk1 : (9223372036854775807 < S.size + 5) = False := eq_false (by omega)
                              have ck1 : S.size + 5 ≤ 9223372036854775807 := by omega
                              have bk2 : (9223372036854775807 < S.size + 5 + D1.size) = False := eq_false (by omega)
                              have ck2 : S.size + 5 + D1.size ≤ 9223372036854775807 := by omega
                              have bk3 : (9223372036854775807 < S.size + 5 + D1.size + 1) = False := eq_false (by omega)
                              have ck3 : S.size + 5 + D1.size + 1 ≤ 9223372036854775807 := by omega
                              have bk4 : (9223372036854775807 < S.size + 5 + D1.size + 1 + P1.size) = False := eq_false (by omega)
                              have ck4 : S.size + 5 + D1.size + 1 + P1.size ≤ 9223372036854775807 := by omega
                              have bk5 : (9223372036854775807 < S.size + 5 + D1.size + 1 + P1.size + 1) = False := eq_false (by omega)
                              have ck5 : S.size + 5 + D1.size + 1 + P1.size + 1 ≤ 9223372036854775807 := by omega
                              have bk6 : (9223372036854775807 < S.size + 5 + D1.size + 1 + P1.size + 1 + 2) = False := eq_false (by omega)
                              have ck6 : S.size + 5 + D1.size + 1 + P1.size + 1 + 2 ≤ 9223372036854775807 := by omega
                              have bk7 : (9223372036854775807 < S.size + 5 + D1.size + 1 + P1.size + 1 + 2 + 1) = False := eq_false (by omega)
                              have ck7 : S.size + 5 + D1.size + 1 + P1.size + 1 + 2 + 1 ≤ 9223372036854775807 := by omega
                              have bk8 : (9223372036854775807 < S.size + 5 + D1.size + 1 + P1.size + 1 + 2 + 1 + x.f3.f0.size) = False := eq_false (by omega)
                              have ck8 : S.size + 5 + D1.size + 1 + P1.size + 1 + 2 + 1 + x.f3.f0.size ≤ 9223372036854775807 := by omega
                              have bk9 : (9223372036854775807 < S.size + 5 + D1.size + 1 + P1.size + 1 + 2 + 1 + x.f3.f0.size + 1) = False := eq_false (by omega)
                              have ck9 : S.size + 5 + D1.size + 1 + P1.size + 1 + 2 + 1 + x.f3.f0.size + 1 ≤ 9223372036854775807 := by omega
                              clear s1 s2 hs0
                              go_wp2_with (first
                                | ((with_reducible refine gate_dst (N := 9) rfl ?_); refine box_event ?hg9 (N := 9) ?hd9 (cs := #[.int .i64 0, .int .i64 0, .int .u64 0, .bool false, .string ⟨#[]⟩, .bool false]) (t := 41) ?hr9 ?_; (case hd9 => rfl); (case hg9 => rfl); (case hr9 => first | (go_simp; done) | (go_simp; rfl)); intro gx hg wA hbox hbA; have HX := Lib.hid hbox; obtain ⟨⟨y0, y1, y2, y3, y4, y5⟩, z0, z1, z2, z3, z4, z5⟩ := zeroCells_at hbox; have HGE := Lib.hid (show wi.heap.size ≤ gx by rw [hg]; simp); have HBA := Lib.hid hbA; clear hbox hbA hg)
                                | (go_at_call 31; have HX2 := Lib.hid (putItem_blk (⟨x.f0, x.f1, true, ⟨x.f3.f0, true⟩⟩ : S41) HX.out); have HBI2 := Lib.hid (putItem_below (⟨x.f0, x.f1, true, ⟨x.f3.f0, true⟩⟩ : S41) HBA.out HGE.out); unfold putItem itemCells at HX2; unfold putItem at HBI2; dsimp only at HX2 HBI2; (with_reducible refine (jalousieref15_check.calls kc x.f0 x.f1.f0 x.f1.f1 true x.f3.f0 true _ _ HCK.out).mono ?_); rintro e w5 ⟨rfl, hb5⟩; have HX5 := Lib.hid (blk_below HX2.out hb5); have HB5 := Lib.hid (below_step HBI2.out hb5); clear y0 y1 y2 y3 y4 y5 z0 z1 z2 z3 z4 z5 hb5; obtain ⟨y0, y1, y2, y3, y4, y5⟩ := itemCells_at (show w5.heap[gx]? = some (.cells (itemCells (⟨x.f0, x.f1, true, ⟨x.f3.f0, true⟩⟩ : S41)) 41 (0, 0)) from HX5.out); dsimp only at y0 y1 y2 y3 y4 y5; clear HX HBA HX2 HBI2))
                              have HS5 : (fun w' => Below w5.heap.size w5 w' ∧ w'.cell? ⟨gx, 0, none⟩ = some (.int .i64 x.f0) ∧ w'.cell? ⟨gx, 1, none⟩ = some (.int .i64 x.f1.f0) ∧ w'.cell? ⟨gx, 2, none⟩ = some (.int .u64 x.f1.f1) ∧ w'.cell? ⟨gx, 4, none⟩ = some (.string x.f3.f0)) w5.drew := ⟨below_drew (Below.refl _ _), by go_simp, by go_simp, by go_simp, by go_simp⟩
                              clear y0 y1 y2 y3 y4 y5
                              go_region_held3 (fun w' => Below w5.heap.size w5 w' ∧ w'.cell? ⟨gx, 0, none⟩ = some (.int .i64 x.f0) ∧ w'.cell? ⟨gx, 1, none⟩ = some (.int .i64 x.f1.f0) ∧ w'.cell? ⟨gx, 2, none⟩ = some (.int .u64 x.f1.f1) ∧ w'.cell? ⟨gx, 4, none⟩ = some (.string x.f3.f0)) (first | assumption | exact HS5 | exact keep4 (by assumption) (by assumption)) (first
                                | (go_at_call 30; (with_reducible refine (jalousieref01_Decimal.calls 20 x.f0 _ _ HD1.out).mono ?_); rintro e w6 ⟨rfl, hb⟩)
                                | (go_at_call 32; (with_reducible refine (jalousieref02_Print.calls 90 x.f1.f0 x.f1.f1 _ _ HLB.out).mono ?_); rintro e w6 ⟨rfl, hb⟩))
                              all_goals
                                go_wp2
                                go_roundw
                                case rel => exact ⟨j + 1, b ++ lineL x, by go_num, by first | rw [HFIN.out] | (rw [HFIN.out]; rfl), by omega, HBI.trans ((below_step HB5.out (by assumption : Below w5.heap.size w5 _ ∧ _ ∧ _ ∧ _ ∧ _).1).mono HBI.size), HGN.out, by rw [List.length_append]; omega⟩
                                case measure => simp [intOf]; omega
                            | false =>
                              have hK : kindL x.f2 x.f3.f1 = [97] := by rw [hA, hU]; rfl
                              have HFIN := Lib.hid (show baOf (b ++ lineL x) = ((((((((baOf b ++ (⟨#[105, 116, 101, 109, 32]⟩ : ByteArray)) ++ decOf x.f0) ++ ⟨#[32]⟩) ++ labOf x.f1.f0 x.f1.f1.toNat) ++ ⟨#[32]⟩) ++ ⟨#[97]⟩) ++ ⟨#[32]⟩) ++ x.f3.f0) ++ ⟨#[10]⟩ by
                                apply ba_eq
                                simp only [ba_app, baOf_data, lineL, hK]
                                simp [decL, labOf, ba_app, baOf_data])
                              rw [hA] at x3
                              rw [hU] at x5
                              rw [hA, hU] at HCK
                              clear hK hA hU
                              generalize decOf x.f0 = D1 at s1 HD1 HFIN
                              generalize labOf x.f1.f0 x.f1.f1.toNat = P1 at s2 HLB HFIN
                              generalize baOf b = S at hs0 HFIN HSB ⊢
                              have bk1 : (9223372036854775807 < S.size + 5) = False := eq_false (by omega)
                              have ck1 : S.size + 5 ≤ 9223372036854775807 := by omega
                              have bk2 : (9223372036854775807 < S.size + 5 + D1.size) = False := eq_false (by omega)
                              have ck2 : S.size + 5 + D1.size ≤ 9223372036854775807 := by omega
                              have bk3 : (9223372036854775807 < S.size + 5 + D1.size + 1) = False := eq_false (by omega)
                              have ck3 : S.size + 5 + D1.size + 1 ≤ 9223372036854775807 := by omega
                              have bk4 : (9223372036854775807 < S.size + 5 + D1.size + 1 + P1.size) = False := eq_false (by omega)
                              have ck4 : S.size + 5 + D1.size + 1 + P1.size ≤ 9223372036854775807 := by omega
                              have bk5 : (9223372036854775807 < S.size + 5 + D1.size + 1 + P1.size + 1) = False := eq_false (by omega)
                              have ck5 : S.size + 5 + D1.size + 1 + P1.size + 1 ≤ 9223372036854775807 := by omega
                              have bk6 : (9223372036854775807 < S.size + 5 + D1.size + 1 + P1.size + 1 + 1) = False := eq_false (by omega)
                              have ck6 : S.size + 5 + D1.size + 1 + P1.size + 1 + 1 ≤ 9223372036854775807 := by omega
                              have bk7 : (9223372036854775807 < S.size + 5 + D1.size + 1 + P1.size + 1 + 1 + 1) = False := eq_false (by omega)
                              have ck7 : S.size + 5 + D1.size + 1 + P1.size + 1 + 1 + 1 ≤ 9223372036854775807 := by omega
                              have bk8 : (9223372036854775807 < S.size + 5 + D1.size + 1 + P1.size + 1 + 1 + 1 + x.f3.f0.size) = False := eq_false (by omega)
                              have ck8 : S.size + 5 + D1.size + 1 + P1.size + 1 + 1 + 1 + x.f3.f0.size ≤ 9223372036854775807 := by omega
                              have bk9 : (9223372036854775807 < S.size + 5 + D1.size + 1 + P1.size + 1 + 1 + 1 + x.f3.f0.size + 1) = False := eq_false (by omega)
                              have ck9 : S.size + 5 + D1.size + 1 + P1.size + 1 + 1 + 1 + x.f3.f0.size + 1 ≤ 9223372036854775807 := by omega
                              clear s1 s2 hs0
                              go_wp2_with (first
                                | ((with_reducible refine gate_dst (N := 9) rfl ?_); refine box_event ?hg9 (N := 9) ?hd9 (cs := #[.int .i64 0, .int .i64 0, .int .u64 0, .bool false, .string ⟨#[]⟩, .bool false]) (t := 41) ?hr9 ?_; (case hd9 => rfl); (case hg9 => rfl); (case hr9 => first | (go_simp; done) | (go_simp; rfl)); intro gx hg wA hbox hbA; have HX := Lib.hid hbox; obtain ⟨⟨y0, y1, y2, y3, y4, y5⟩, z0, z1, z2, z3, z4, z5⟩ := zeroCells_at hbox; have HGE := Lib.hid (show wi.heap.size ≤ gx by rw [hg]; simp); have HBA := Lib.hid hbA; clear hbox hbA hg)
                                | (go_at_call 31; have HX2 := Lib.hid (putItem_blk (⟨x.f0, x.f1, true, ⟨x.f3.f0, false⟩⟩ : S41) HX.out); have HBI2 := Lib.hid (putItem_below (⟨x.f0, x.f1, true, ⟨x.f3.f0, false⟩⟩ : S41) HBA.out HGE.out); unfold putItem itemCells at HX2; unfold putItem at HBI2; dsimp only at HX2 HBI2; (with_reducible refine (jalousieref15_check.calls kc x.f0 x.f1.f0 x.f1.f1 true x.f3.f0 false _ _ HCK.out).mono ?_); rintro e w5 ⟨rfl, hb5⟩; have HX5 := Lib.hid (blk_below HX2.out hb5); have HB5 := Lib.hid (below_step HBI2.out hb5); clear y0 y1 y2 y3 y4 y5 z0 z1 z2 z3 z4 z5 hb5; obtain ⟨y0, y1, y2, y3, y4, y5⟩ := itemCells_at (show w5.heap[gx]? = some (.cells (itemCells (⟨x.f0, x.f1, true, ⟨x.f3.f0, false⟩⟩ : S41)) 41 (0, 0)) from HX5.out); dsimp only at y0 y1 y2 y3 y4 y5; clear HX HBA HX2 HBI2))
                              have HS5 : (fun w' => Below w5.heap.size w5 w' ∧ w'.cell? ⟨gx, 0, none⟩ = some (.int .i64 x.f0) ∧ w'.cell? ⟨gx, 1, none⟩ = some (.int .i64 x.f1.f0) ∧ w'.cell? ⟨gx, 2, none⟩ = some (.int .u64 x.f1.f1) ∧ w'.cell? ⟨gx, 4, none⟩ = some (.string x.f3.f0)) w5.drew := ⟨below_drew (Below.refl _ _), by go_simp, by go_simp, by go_simp, by go_simp⟩
                              clear y0 y1 y2 y3 y4 y5
                              go_region_held3 (fun w' => Below w5.heap.size w5 w' ∧ w'.cell? ⟨gx, 0, none⟩ = some (.int .i64 x.f0) ∧ w'.cell? ⟨gx, 1, none⟩ = some (.int .i64 x.f1.f0) ∧ w'.cell? ⟨gx, 2, none⟩ = some (.int .u64 x.f1.f1) ∧ w'.cell? ⟨gx, 4, none⟩ = some (.string x.f3.f0)) (first | assumption | exact HS5 | exact keep4 (by assumption) (by assumption)) (first
                                | (go_at_call 30; (with_reducible refine (jalousieref01_Decimal.calls 20 x.f0 _ _ HD1.out).mono ?_); rintro e w6 ⟨rfl, hb⟩)
                                | (go_at_call 32; (with_reducible refine (jalousieref02_Print.calls 90 x.f1.f0 x.f1.f1 _ _ HLB.out).mono ?_); rintro e w6 ⟨rfl, hb⟩))
                              all_goals
                                go_wp2
                                go_roundw
                                case rel => exact ⟨j + 1, b ++ lineL x, by go_num, by first | rw [HFIN.out] | (rw [HFIN.out]; rfl), by omega, HBI.trans ((below_step HB5.out (by assumption : Below w5.heap.size w5 _ ∧ _ ∧ _ ∧ _ ∧ _).1).mono HBI.size), HGN.out, by rw [List.length_append]; omega⟩
                                case measure => simp [intOf]; omega
                        | false =>
                          cases hU : x.f3.f1 with
                            | true =>
                              have hK : kindL x.f2 x.f3.f1 = [108, 98] := by rw [hA, hU]; rfl
                              have HFIN := Lib.hid (show baOf (b ++ lineL x) = ((((((((baOf b ++ (⟨#[105, 116, 101, 109, 32]⟩ : ByteArray)) ++ decOf x.f0) ++ ⟨#[32]⟩) ++ labOf x.f1.f0 x.f1.f1.toNat) ++ ⟨#[32]⟩) ++ ((⟨#[108]⟩ : ByteArray) ++ ⟨#[98]⟩)) ++ ⟨#[32]⟩) ++ x.f3.f0) ++ ⟨#[10]⟩ by
                                apply ba_eq
                                simp only [ba_app, baOf_data, lineL, hK]
                                simp [decL, labOf, ba_app, baOf_data])
                              rw [hA] at x3
                              rw [hU] at x5
                              rw [hA, hU] at HCK
                              clear hK hA hU
                              generalize decOf x.f0 = D1 at s1 HD1 HFIN
                              generalize labOf x.f1.f0 x.f1.f1.toNat = P1 at s2 HLB HFIN
                              generalize baOf b = S at hs0 HFIN HSB ⊢
                              have bk1 : (9223372036854775807 < S.size + 5) = False := eq_false (by omega)
                              have ck1 : S.size + 5 ≤ 9223372036854775807 := by omega
                              have bk2 : (9223372036854775807 < S.size + 5 + D1.size) = False := eq_false (by omega)
                              have ck2 : S.size + 5 + D1.size ≤ 9223372036854775807 := by omega
                              have bk3 : (9223372036854775807 < S.size + 5 + D1.size + 1) = False := eq_false (by omega)
                              have ck3 : S.size + 5 + D1.size + 1 ≤ 9223372036854775807 := by omega
                              have bk4 : (9223372036854775807 < S.size + 5 + D1.size + 1 + P1.size) = False := eq_false (by omega)
                              have ck4 : S.size + 5 + D1.size + 1 + P1.size ≤ 9223372036854775807 := by omega
                              have bk5 : (9223372036854775807 < S.size + 5 + D1.size + 1 + P1.size + 1) = False := eq_false (by omega)
                              have ck5 : S.size + 5 + D1.size + 1 + P1.size + 1 ≤ 9223372036854775807 := by omega
                              have bk6 : (9223372036854775807 < S.size + 5 + D1.size + 1 + P1.size + 1 + 2) = False := eq_false (by omega)
                              have ck6 : S.size + 5 + D1.size + 1 + P1.size + 1 + 2 ≤ 9223372036854775807 := by omega
                              have bk7 : (9223372036854775807 < S.size + 5 + D1.size + 1 + P1.size + 1 + 2 + 1) = False := eq_false (by omega)
                              have ck7 : S.size + 5 + D1.size + 1 + P1.size + 1 + 2 + 1 ≤ 9223372036854775807 := by omega
                              have bk8 : (9223372036854775807 < S.size + 5 + D1.size + 1 + P1.size + 1 + 2 + 1 + x.f3.f0.size) = False := eq_false (by omega)
                              have ck8 : S.size + 5 + D1.size + 1 + P1.size + 1 + 2 + 1 + x.f3.f0.size ≤ 9223372036854775807 := by omega
                              have bk9 : (9223372036854775807 < S.size + 5 + D1.size + 1 + P1.size + 1 + 2 + 1 + x.f3.f0.size + 1) = False := eq_false (by omega)
                              have ck9 : S.size + 5 + D1.size + 1 + P1.size + 1 + 2 + 1 + x.f3.f0.size + 1 ≤ 9223372036854775807 := by omega
                              clear s1 s2 hs0
                              go_wp2_with (first
                                | ((with_reducible refine gate_dst (N := 9) rfl ?_); refine box_event ?hg9 (N := 9) ?hd9 (cs := #[.int .i64 0, .int .i64 0, .int .u64 0, .bool false, .string ⟨#[]⟩, .bool false]) (t := 41) ?hr9 ?_; (case hd9 => rfl); (case hg9 => rfl); (case hr9 => first | (go_simp; done) | (go_simp; rfl)); intro gx hg wA hbox hbA; have HX := Lib.hid hbox; obtain ⟨⟨y0, y1, y2, y3, y4, y5⟩, z0, z1, z2, z3, z4, z5⟩ := zeroCells_at hbox; have HGE := Lib.hid (show wi.heap.size ≤ gx by rw [hg]; simp); have HBA := Lib.hid hbA; clear hbox hbA hg)
                                | (go_at_call 31; have HX2 := Lib.hid (putItem_blk (⟨x.f0, x.f1, false, ⟨x.f3.f0, true⟩⟩ : S41) HX.out); have HBI2 := Lib.hid (putItem_below (⟨x.f0, x.f1, false, ⟨x.f3.f0, true⟩⟩ : S41) HBA.out HGE.out); unfold putItem itemCells at HX2; unfold putItem at HBI2; dsimp only at HX2 HBI2; (with_reducible refine (jalousieref15_check.calls kc x.f0 x.f1.f0 x.f1.f1 false x.f3.f0 true _ _ HCK.out).mono ?_); rintro e w5 ⟨rfl, hb5⟩; have HX5 := Lib.hid (blk_below HX2.out hb5); have HB5 := Lib.hid (below_step HBI2.out hb5); clear y0 y1 y2 y3 y4 y5 z0 z1 z2 z3 z4 z5 hb5; obtain ⟨y0, y1, y2, y3, y4, y5⟩ := itemCells_at (show w5.heap[gx]? = some (.cells (itemCells (⟨x.f0, x.f1, false, ⟨x.f3.f0, true⟩⟩ : S41)) 41 (0, 0)) from HX5.out); dsimp only at y0 y1 y2 y3 y4 y5; clear HX HBA HX2 HBI2))
                              have HS5 : (fun w' => Below w5.heap.size w5 w' ∧ w'.cell? ⟨gx, 0, none⟩ = some (.int .i64 x.f0) ∧ w'.cell? ⟨gx, 1, none⟩ = some (.int .i64 x.f1.f0) ∧ w'.cell? ⟨gx, 2, none⟩ = some (.int .u64 x.f1.f1) ∧ w'.cell? ⟨gx, 4, none⟩ = some (.string x.f3.f0)) w5.drew := ⟨below_drew (Below.refl _ _), by go_simp, by go_simp, by go_simp, by go_simp⟩
                              clear y0 y1 y2 y3 y4 y5
                              go_region_held3 (fun w' => Below w5.heap.size w5 w' ∧ w'.cell? ⟨gx, 0, none⟩ = some (.int .i64 x.f0) ∧ w'.cell? ⟨gx, 1, none⟩ = some (.int .i64 x.f1.f0) ∧ w'.cell? ⟨gx, 2, none⟩ = some (.int .u64 x.f1.f1) ∧ w'.cell? ⟨gx, 4, none⟩ = some (.string x.f3.f0)) (first | assumption | exact HS5 | exact keep4 (by assumption) (by assumption)) (first
                                | (go_at_call 30; (with_reducible refine (jalousieref01_Decimal.calls 20 x.f0 _ _ HD1.out).mono ?_); rintro e w6 ⟨rfl, hb⟩)
                                | (go_at_call 32; (with_reducible refine (jalousieref02_Print.calls 90 x.f1.f0 x.f1.f1 _ _ HLB.out).mono ?_); rintro e w6 ⟨rfl, hb⟩))
                              all_goals
                                go_wp2
                                go_roundw
                                case rel => exact ⟨j + 1, b ++ lineL x, by go_num, by first | rw [HFIN.out] | (rw [HFIN.out]; rfl), by omega, HBI.trans ((below_step HB5.out (by assumption : Below w5.heap.size w5 _ ∧ _ ∧ _ ∧ _ ∧ _).1).mono HBI.size), HGN.out, by rw [List.length_append]; omega⟩
                                case measure => simp [intOf]; omega
                            | false =>
                              have hK : kindL x.f2 x.f3.f1 = [108] := by rw [hA, hU]; rfl
                              have HFIN := Lib.hid (show baOf (b ++ lineL x) = ((((((((baOf b ++ (⟨#[105, 116, 101, 109, 32]⟩ : ByteArray)) ++ decOf x.f0) ++ ⟨#[32]⟩) ++ labOf x.f1.f0 x.f1.f1.toNat) ++ ⟨#[32]⟩) ++ ⟨#[108]⟩) ++ ⟨#[32]⟩) ++ x.f3.f0) ++ ⟨#[10]⟩ by
                                apply ba_eq
                                simp only [ba_app, baOf_data, lineL, hK]
                                simp [decL, labOf, ba_app, baOf_data])
                              rw [hA] at x3
                              rw [hU] at x5
                              rw [hA, hU] at HCK
                              clear hK hA hU
                              generalize decOf x.f0 = D1 at s1 HD1 HFIN
                              generalize labOf x.f1.f0 x.f1.f1.toNat = P1 at s2 HLB HFIN
                              generalize baOf b = S at hs0 HFIN HSB ⊢
                              have bk1 : (9223372036854775807 < S.size + 5) = False := eq_false (by omega)
                              have ck1 : S.size + 5 ≤ 9223372036854775807 := by omega
                              have bk2 : (9223372036854775807 < S.size + 5 + D1.size) = False := eq_false (by omega)
                              have ck2 : S.size + 5 + D1.size ≤ 9223372036854775807 := by omega
                              have bk3 : (9223372036854775807 < S.size + 5 + D1.size + 1) = False := eq_false (by omega)
                              have ck3 : S.size + 5 + D1.size + 1 ≤ 9223372036854775807 := by omega
                              have bk4 : (9223372036854775807 < S.size + 5 + D1.size + 1 + P1.size) = False := eq_false (by omega)
                              have ck4 : S.size + 5 + D1.size + 1 + P1.size ≤ 9223372036854775807 := by omega
                              have bk5 : (9223372036854775807 < S.size + 5 + D1.size + 1 + P1.size + 1) = False := eq_false (by omega)
                              have ck5 : S.size + 5 + D1.size + 1 + P1.size + 1 ≤ 9223372036854775807 := by omega
                              have bk6 : (9223372036854775807 < S.size + 5 + D1.size + 1 + P1.size + 1 + 1) = False := eq_false (by omega)
                              have ck6 : S.size + 5 + D1.size + 1 + P1.size + 1 + 1 ≤ 9223372036854775807 := by omega
                              have bk7 : (9223372036854775807 < S.size + 5 + D1.size + 1 + P1.size + 1 + 1 + 1) = False := eq_false (by omega)
                              have ck7 : S.size + 5 + D1.size + 1 + P1.size + 1 + 1 + 1 ≤ 9223372036854775807 := by omega
                              have bk8 : (9223372036854775807 < S.size + 5 + D1.size + 1 + P1.size + 1 + 1 + 1 + x.f3.f0.size) = False := eq_false (by omega)
                              have ck8 : S.size + 5 + D1.size + 1 + P1.size + 1 + 1 + 1 + x.f3.f0.size ≤ 9223372036854775807 := by omega
                              have bk9 : (9223372036854775807 < S.size + 5 + D1.size + 1 + P1.size + 1 + 1 + 1 + x.f3.f0.size + 1) = False := eq_false (by omega)
                              have ck9 : S.size + 5 + D1.size + 1 + P1.size + 1 + 1 + 1 + x.f3.f0.size + 1 ≤ 9223372036854775807 := by omega
                              clear s1 s2 hs0
                              go_wp2_with (first
                                | ((with_reducible refine gate_dst (N := 9) rfl ?_); refine box_event ?hg9 (N := 9) ?hd9 (cs := #[.int .i64 0, .int .i64 0, .int .u64 0, .bool false, .string ⟨#[]⟩, .bool false]) (t := 41) ?hr9 ?_; (case hd9 => rfl); (case hg9 => rfl); (case hr9 => first | (go_simp; done) | (go_simp; rfl)); intro gx hg wA hbox hbA; have HX := Lib.hid hbox; obtain ⟨⟨y0, y1, y2, y3, y4, y5⟩, z0, z1, z2, z3, z4, z5⟩ := zeroCells_at hbox; have HGE := Lib.hid (show wi.heap.size ≤ gx by rw [hg]; simp); have HBA := Lib.hid hbA; clear hbox hbA hg)
                                | (go_at_call 31; have HX2 := Lib.hid (putItem_blk (⟨x.f0, x.f1, false, ⟨x.f3.f0, false⟩⟩ : S41) HX.out); have HBI2 := Lib.hid (putItem_below (⟨x.f0, x.f1, false, ⟨x.f3.f0, false⟩⟩ : S41) HBA.out HGE.out); unfold putItem itemCells at HX2; unfold putItem at HBI2; dsimp only at HX2 HBI2; (with_reducible refine (jalousieref15_check.calls kc x.f0 x.f1.f0 x.f1.f1 false x.f3.f0 false _ _ HCK.out).mono ?_); rintro e w5 ⟨rfl, hb5⟩; have HX5 := Lib.hid (blk_below HX2.out hb5); have HB5 := Lib.hid (below_step HBI2.out hb5); clear y0 y1 y2 y3 y4 y5 z0 z1 z2 z3 z4 z5 hb5; obtain ⟨y0, y1, y2, y3, y4, y5⟩ := itemCells_at (show w5.heap[gx]? = some (.cells (itemCells (⟨x.f0, x.f1, false, ⟨x.f3.f0, false⟩⟩ : S41)) 41 (0, 0)) from HX5.out); dsimp only at y0 y1 y2 y3 y4 y5; clear HX HBA HX2 HBI2))
                              have HS5 : (fun w' => Below w5.heap.size w5 w' ∧ w'.cell? ⟨gx, 0, none⟩ = some (.int .i64 x.f0) ∧ w'.cell? ⟨gx, 1, none⟩ = some (.int .i64 x.f1.f0) ∧ w'.cell? ⟨gx, 2, none⟩ = some (.int .u64 x.f1.f1) ∧ w'.cell? ⟨gx, 4, none⟩ = some (.string x.f3.f0)) w5.drew := ⟨below_drew (Below.refl _ _), by go_simp, by go_simp, by go_simp, by go_simp⟩
                              clear y0 y1 y2 y3 y4 y5
                              go_region_held3 (fun w' => Below w5.heap.size w5 w' ∧ w'.cell? ⟨gx, 0, none⟩ = some (.int .i64 x.f0) ∧ w'.cell? ⟨gx, 1, none⟩ = some (.int .i64 x.f1.f0) ∧ w'.cell? ⟨gx, 2, none⟩ = some (.int .u64 x.f1.f1) ∧ w'.cell? ⟨gx, 4, none⟩ = some (.string x.f3.f0)) (first | assumption | exact HS5 | exact keep4 (by assumption) (by assumption)) (first
                                | (go_at_call 30; (with_reducible refine (jalousieref01_Decimal.calls 20 x.f0 _ _ HD1.out).mono ?_); rintro e w6 ⟨rfl, hb⟩)
                                | (go_at_call 32; (with_reducible refine (jalousieref02_Print.calls 90 x.f1.f0 x.f1.f1 _ _ HLB.out).mono ?_); rintro e w6 ⟨rfl, hb⟩))
                              all_goals
                                go_wp2
                                go_roundw
                                case rel => exact ⟨j + 1, b ++ lineL x, by go_num, by first | rw [HFIN.out] | (rw [HFIN.out]; rfl), by omega, HBI.trans ((below_step HB5.out (by assumption : Below w5.heap.size w5 _ ∧ _ ∧ _ ∧ _ ∧ _).1).mono HBI.size), HGN.out, by rw [List.length_append]; omega⟩
                                case measure => simp [intOf]; omega
                    · have hdj : decide (j < p.f2.length) = false := by simpa using hjl
                      obtain rfl : j = p.f2.length := by omega
                      have HE := Lib.hid (HPI.out.1 b (by have := HGI.out; rw [List.drop_length] at this; exact this.symm))
                      rw [List.drop_length] at hrb
                      clear HGI
                      go_wp2
                      go_roundw
                      case rel => exact ⟨i' + 1 + 1, b, by go_num, rfl, by omega, HB.trans ((below_step HB3.out HBI).mono HB.size), HE.out, by rw [HRR.out]; omega⟩
                      case measure => simp [intOf]; omega
                · have HNXT := Lib.hid (show nextAt d (i' + 1) = false by rw [hnxt]; exact decide_eq_false hnx)
                  have dn : decide (0 < (rd_T27 d (i' : Int)).f2.length) = false := decide_eq_false hnx
                  generalize rd_T27 d (i' : Int) = pv at pp2 dn
                  clear hnx hnxt
                  have HPI := Lib.hid (print_items (nxl := []) (by rw [part_items HW0.out hb1 hb2 hb3]; rw [HNXT.out]; rfl) HGP.out)
                  rw [← HNX.out] at HPI
                  obtain ⟨X, hX⟩ : ∃ X, linesGo p.f2 (acc ++ []) = X := ⟨_, rfl⟩
                  rw [hX] at HPI
                  have HX0 := Lib.hid hX
                  have HNS := Lib.hid (show baOf (acc ++ []) = baOf acc by first | rw [List.append_nil] | (apply ba_eq; rw [ba_app, baOf_data, baOf_data]))
                  clear hX hb1 hb2 hb3 hn1 hg
                  go_wp2_with (first
                    | ((with_reducible refine gate_dst (N := 6) rfl ?_); refine box_event ?hg (N := 6) ?hd (cs := #[.int .i64 0, .int .i64 0, .slice none 0 0]) (t := 27) ?hr ?_; (case hd => rfl); (case hg => rfl); (case hr => first | (go_simp; done) | (go_simp; rfl)); intro gb hg wA hbox hbA; have HX := Lib.hid hbox; have y0 : wA.cell? ⟨gb, 0, none⟩ = some (.int .i64 0) := (blk_cell hbox 0).trans rfl; have z0 := blk_frozen hbox 0; have y1 : wA.cell? ⟨gb, 1, none⟩ = some (.int .i64 0) := (blk_cell hbox 1).trans rfl; have z1 := blk_frozen hbox 1; have y2 : wA.cell? ⟨gb, 2, none⟩ = some (.slice none 0 0) := (blk_cell hbox 2).trans rfl; have z2 := blk_frozen hbox 2; have HGE := Lib.hid (show wr.heap.size ≤ gb by rw [hg]; simp); have HBA := Lib.hid hbA; clear hbox hbA hg)
                    | (go_at_call 28; have HX2 := Lib.hid (putPart_blk p.f0 p.f1 (.slice A2 p.f2.length c2) HX.out); have HB2 := Lib.hid (putPart_below p.f0 p.f1 (.slice A2 p.f2.length c2) HBA.out HGE.out); unfold putPart at HX2 HB2; (refine (jalousieref15_wrong.calls kw p.f0 p.f1 A2 c2 p.f2 _ _ (Kd.C_below HC2.out HB2.out) hc2 HKW.out).mono ?_); rintro e w2 ⟨rfl, hb2⟩; have HX3 := Lib.hid (blk_below HX2.out hb2); have HB3 := Lib.hid (below_step HB2.out hb2); (try (have pp3 := pw_cell_below HB3.out pp2)); clear y0 z0 y1 z1 y2 z2 hb2; have y0 : w2.cell? ⟨gb, 0, none⟩ = some (.int .i64 p.f0) := (blk_cell HX3.out 0).trans rfl; have y1 : w2.cell? ⟨gb, 1, none⟩ = some (.int .i64 p.f1) := (blk_cell HX3.out 1).trans rfl; have y2 : w2.cell? ⟨gb, 2, none⟩ = some (.slice A2 p.f2.length c2) := (blk_cell HX3.out 2).trans rfl; clear HX HBA HX2 HB2))
                  obtain ⟨wo, rfl⟩ : ∃ wo : World, wo = wr := ⟨_, rfl⟩
                  obtain ⟨R, hR⟩ : ∃ R, roomP (d.drop (i' + 1 + 1)) = R := ⟨_, rfl⟩
                  rw [hR] at hrd
                  have hpl : p.f2.length ≤ 1000000000000 := by have := room_len p.f2; omega
                  have HRR := Lib.hid hR
                  clear hR y0 y1 y2
                  skip
                  go_loopw [4, 8] (fun v4 v8 W => RIRel w2 p.f2 X R v4 v8 W) (fun _ v8 _ => p.f2.length - (intOf v8).toNat)
                  case atStart => exact ⟨0, acc ++ [], rfl, by rw [HNS.out], Nat.zero_le _, Below.refl _ _, by rw [List.drop_zero]; exact HX0.out, by rw [List.drop_zero, List.length_append]; simp only [List.length_cons, List.length_nil]; omega⟩
                  case round =>
                    obtain ⟨j, b, rfl, rfl, hj, HBI, hgo, hrb⟩ := hrel
                    obtain ⟨wi, rfl⟩ : ∃ wi : World, wi = wr := ⟨_, rfl⟩
                    have HGI := Lib.hid hgo
                    clear hgo
                    have HXI := Lib.hid (blk_below HX3.out HBI)
                    have y2 : wi.cell? ⟨gb, 2, none⟩ = some (.slice A2 p.f2.length c2) := (blk_cell HXI.out 2).trans rfl
                    have hgbi := blk_lt HXI.out
                    by_cases hjl : j < p.f2.length
                    · have hdj : decide (j < p.f2.length) = true := by simpa using hjl
                      have hfx := good_at HOKP.out j hjl
                      have hrl := roomL_drop p.f2 j hjl
                      have HGL := Lib.hid (show linesGo (rd_T41 p.f2 (j : Int) :: p.f2.drop (j + 1)) b = X by rw [← it_drop p.f2 j hjl]; exact HGI.out)
                      obtain ⟨ai, rfl, hcx⟩ := cells_at (Kd.C_below (Kd.C_below HC2.out HB3.out) HBI) j hjl
                      obtain ⟨x0, x1, x2, x3, x4, x5⟩ := hcx
                      clear HGI
                      generalize rd_T41 p.f2 (j : Int) = x at x0 x1 x2 x3 x4 x5 hfx hrl HGL
                      obtain ⟨hfx1, hfx2, hfx3⟩ := hfx
                      obtain ⟨kc, hkc⟩ := ref_check_tells x (by omega)
                      have HCK := Lib.hid hkc
                      clear hkc
                      by_cases hck : checkOf x = 0
                      case neg =>
                        have HR_ := Lib.hid (HPI.out.2 _ hck (by have := HGL.out; rw [linesGo, if_neg hck] at this; exact this.symm))
                        obtain ⟨e_, he_⟩ : ∃ e_, checkOf x = e_ := ⟨_, rfl⟩
                        rw [he_] at HCK HR_ hck
                        have e1 : (e_ == 0) = false := by simpa using hck
                        have e2 : (e_ != 0) = true := by simpa using hck
                        clear he_ hck
                        go_wp2_with (first
                          | ((with_reducible refine gate_dst (N := 9) rfl ?_); refine box_event ?hg9 (N := 9) ?hd9 (cs := #[.int .i64 0, .int .i64 0, .int .u64 0, .bool false, .string ⟨#[]⟩, .bool false]) (t := 41) ?hr9 ?_; (case hd9 => rfl); (case hg9 => rfl); (case hr9 => first | (go_simp; done) | (go_simp; rfl)); intro gx hg wA hbox hbA; have HX := Lib.hid hbox; obtain ⟨⟨y0, y1, y2, y3, y4, y5⟩, z0, z1, z2, z3, z4, z5⟩ := zeroCells_at hbox; have HGE := Lib.hid (show wi.heap.size ≤ gx by rw [hg]; simp); have HBA := Lib.hid hbA; clear hbox hbA hg)
                          | (go_at_call 31; have HX2 := Lib.hid (putItem_blk x HX.out); have HBI2 := Lib.hid (putItem_below x HBA.out HGE.out); unfold putItem itemCells at HX2; unfold putItem at HBI2; (with_reducible refine (jalousieref15_check.calls kc x.f0 x.f1.f0 x.f1.f1 x.f2 x.f3.f0 x.f3.f1 _ _ HCK.out).mono ?_); rintro e w5 ⟨rfl, hb5⟩; have HX5 := Lib.hid (blk_below HX2.out hb5); have HB5 := Lib.hid (below_step HBI2.out hb5); clear y0 y1 y2 y3 y4 y5 z0 z1 z2 z3 z4 z5 hb5; obtain ⟨y0, y1, y2, y3, y4, y5⟩ := itemCells_at (show w5.heap[gx]? = some (.cells (itemCells x) 41 (0, 0)) from HX5.out); clear HX HBA HX2 HBI2))
                        go_ret2
                        refine ⟨none, 0, ?_, ?_, ?_, HB.trans ((below_step HB3.out (HBI.trans (HB5.out.mono HBI.size))).mono HB.size)⟩
                        · rw [HR_.out]; rfl
                        · rw [HR_.out]; exact Nat.le_refl _
                        · rw [HR_.out]; exact Kd.C_nil _ _
                      case pos =>
                        have HGN := Lib.hid (show linesGo (p.f2.drop (j + 1)) (b ++ lineL x) = X by have := HGL.out; rwa [linesGo, if_pos hck] at this)
                        rw [hck] at HCK
                        have hll := lineL_len x
                        have HD1 := Lib.hid (ref_Decimal_tells x.f0)
                        have HLB := Lib.hid (show jalousieref02_Print.f 90 x.f1.f0 x.f1.f1 = some (labOf x.f1.f0 x.f1.f1.toNat) by have := ref_Print_label_tells x.f1.f0 x.f1.f1.toNat 90 (Nat.le_refl _); rwa [Int.toNat_of_nonneg hfx1] at this)
                        have s1 := dec_size x.f0
                        have s2 := lab_size x.f1.f0 x.f1.f1.toNat
                        have HSB := Lib.hid (ba_size b)
                        have hs0 : (baOf b).size ≤ 140000000000000 := by have := HSB.out; omega
                        clear HGL hck
                        cases hA : x.f2 with
                        | true =>
                          cases hU : x.f3.f1 with
                            | true =>
                              have hK : kindL x.f2 x.f3.f1 = [97, 98] := by rw [hA, hU]; rfl
                              have HFIN := Lib.hid (show baOf (b ++ lineL x) = ((((((((baOf b ++ (⟨#[105, 116, 101, 109, 32]⟩ : ByteArray)) ++ decOf x.f0) ++ ⟨#[32]⟩) ++ labOf x.f1.f0 x.f1.f1.toNat) ++ ⟨#[32]⟩) ++ ((⟨#[97]⟩ : ByteArray) ++ ⟨#[98]⟩)) ++ ⟨#[32]⟩) ++ x.f3.f0) ++ ⟨#[10]⟩ by
                                apply ba_eq
                                simp only [ba_app, baOf_data, lineL, hK]
                                simp [decL, labOf, ba_app, baOf_data])
                              rw [hA] at x3
                              rw [hU] at x5
                              rw [hA, hU] at HCK
                              clear hK hA hU
                              generalize decOf x.f0 = D1 at s1 HD1 HFIN
                              generalize labOf x.f1.f0 x.f1.f1.toNat = P1 at s2 HLB HFIN
                              generalize baOf b = S at hs0 HFIN HSB ⊢
                              have bk1 : (9223372036854775807 < S.size + 5) = False := eq_false (by omega)
                              have ck1 : S.size + 5 ≤ 9223372036854775807 := by omega
                              have bk2 : (9223372036854775807 < S.size + 5 + D1.size) = False := eq_false (by omega)
                              have ck2 : S.size + 5 + D1.size ≤ 9223372036854775807 := by omega
                              have bk3 : (9223372036854775807 < S.size + 5 + D1.size + 1) = False := eq_false (by omega)
                              have ck3 : S.size + 5 + D1.size + 1 ≤ 9223372036854775807 := by omega
                              have bk4 : (9223372036854775807 < S.size + 5 + D1.size + 1 + P1.size) = False := eq_false (by omega)
                              have ck4 : S.size + 5 + D1.size + 1 + P1.size ≤ 9223372036854775807 := by omega
                              have bk5 : (9223372036854775807 < S.size + 5 + D1.size + 1 + P1.size + 1) = False := eq_false (by omega)
                              have ck5 : S.size + 5 + D1.size + 1 + P1.size + 1 ≤ 9223372036854775807 := by omega
                              have bk6 : (9223372036854775807 < S.size + 5 + D1.size + 1 + P1.size + 1 + 2) = False := eq_false (by omega)
                              have ck6 : S.size + 5 + D1.size + 1 + P1.size + 1 + 2 ≤ 9223372036854775807 := by omega
                              have bk7 : (9223372036854775807 < S.size + 5 + D1.size + 1 + P1.size + 1 + 2 + 1) = False := eq_false (by omega)
                              have ck7 : S.size + 5 + D1.size + 1 + P1.size + 1 + 2 + 1 ≤ 9223372036854775807 := by omega
                              have bk8 : (9223372036854775807 < S.size + 5 + D1.size + 1 + P1.size + 1 + 2 + 1 + x.f3.f0.size) = False := eq_false (by omega)
                              have ck8 : S.size + 5 + D1.size + 1 + P1.size + 1 + 2 + 1 + x.f3.f0.size ≤ 9223372036854775807 := by omega
                              have bk9 : (9223372036854775807 < S.size + 5 + D1.size + 1 + P1.size + 1 + 2 + 1 + x.f3.f0.size + 1) = False := eq_false (by omega)
                              have ck9 : S.size + 5 + D1.size + 1 + P1.size + 1 + 2 + 1 + x.f3.f0.size + 1 ≤ 9223372036854775807 := by omega
                              clear s1 s2 hs0
                              go_wp2_with (first
                                | ((with_reducible refine gate_dst (N := 9) rfl ?_); refine box_event ?hg9 (N := 9) ?hd9 (cs := #[.int .i64 0, .int .i64 0, .int .u64 0, .bool false, .string ⟨#[]⟩, .bool false]) (t := 41) ?hr9 ?_; (case hd9 => rfl); (case hg9 => rfl); (case hr9 => first | (go_simp; done) | (go_simp; rfl)); intro gx hg wA hbox hbA; have HX := Lib.hid hbox; obtain ⟨⟨y0, y1, y2, y3, y4, y5⟩, z0, z1, z2, z3, z4, z5⟩ := zeroCells_at hbox; have HGE := Lib.hid (show wi.heap.size ≤ gx by rw [hg]; simp); have HBA := Lib.hid hbA; clear hbox hbA hg)
                                | (go_at_call 31; have HX2 := Lib.hid (putItem_blk (⟨x.f0, x.f1, true, ⟨x.f3.f0, true⟩⟩ : S41) HX.out); have HBI2 := Lib.hid (putItem_below (⟨x.f0, x.f1, true, ⟨x.f3.f0, true⟩⟩ : S41) HBA.out HGE.out); unfold putItem itemCells at HX2; unfold putItem at HBI2; dsimp only at HX2 HBI2; (with_reducible refine (jalousieref15_check.calls kc x.f0 x.f1.f0 x.f1.f1 true x.f3.f0 true _ _ HCK.out).mono ?_); rintro e w5 ⟨rfl, hb5⟩; have HX5 := Lib.hid (blk_below HX2.out hb5); have HB5 := Lib.hid (below_step HBI2.out hb5); clear y0 y1 y2 y3 y4 y5 z0 z1 z2 z3 z4 z5 hb5; obtain ⟨y0, y1, y2, y3, y4, y5⟩ := itemCells_at (show w5.heap[gx]? = some (.cells (itemCells (⟨x.f0, x.f1, true, ⟨x.f3.f0, true⟩⟩ : S41)) 41 (0, 0)) from HX5.out); dsimp only at y0 y1 y2 y3 y4 y5; clear HX HBA HX2 HBI2))
                              have HS5 : (fun w' => Below w5.heap.size w5 w' ∧ w'.cell? ⟨gx, 0, none⟩ = some (.int .i64 x.f0) ∧ w'.cell? ⟨gx, 1, none⟩ = some (.int .i64 x.f1.f0) ∧ w'.cell? ⟨gx, 2, none⟩ = some (.int .u64 x.f1.f1) ∧ w'.cell? ⟨gx, 4, none⟩ = some (.string x.f3.f0)) w5.drew := ⟨below_drew (Below.refl _ _), by go_simp, by go_simp, by go_simp, by go_simp⟩
                              clear y0 y1 y2 y3 y4 y5
                              go_region_held3 (fun w' => Below w5.heap.size w5 w' ∧ w'.cell? ⟨gx, 0, none⟩ = some (.int .i64 x.f0) ∧ w'.cell? ⟨gx, 1, none⟩ = some (.int .i64 x.f1.f0) ∧ w'.cell? ⟨gx, 2, none⟩ = some (.int .u64 x.f1.f1) ∧ w'.cell? ⟨gx, 4, none⟩ = some (.string x.f3.f0)) (first | assumption | exact HS5 | exact keep4 (by assumption) (by assumption)) (first
                                | (go_at_call 30; (with_reducible refine (jalousieref01_Decimal.calls 20 x.f0 _ _ HD1.out).mono ?_); rintro e w6 ⟨rfl, hb⟩)
                                | (go_at_call 32; (with_reducible refine (jalousieref02_Print.calls 90 x.f1.f0 x.f1.f1 _ _ HLB.out).mono ?_); rintro e w6 ⟨rfl, hb⟩))
                              all_goals
                                go_wp2
                                go_roundw
                                case rel => exact ⟨j + 1, b ++ lineL x, by go_num, by first | rw [HFIN.out] | (rw [HFIN.out]; rfl), by omega, HBI.trans ((below_step HB5.out (by assumption : Below w5.heap.size w5 _ ∧ _ ∧ _ ∧ _ ∧ _).1).mono HBI.size), HGN.out, by rw [List.length_append]; omega⟩
                                case measure => simp [intOf]; omega
                            | false =>
                              have hK : kindL x.f2 x.f3.f1 = [97] := by rw [hA, hU]; rfl
                              have HFIN := Lib.hid (show baOf (b ++ lineL x) = ((((((((baOf b ++ (⟨#[105, 116, 101, 109, 32]⟩ : ByteArray)) ++ decOf x.f0) ++ ⟨#[32]⟩) ++ labOf x.f1.f0 x.f1.f1.toNat) ++ ⟨#[32]⟩) ++ ⟨#[97]⟩) ++ ⟨#[32]⟩) ++ x.f3.f0) ++ ⟨#[10]⟩ by
                                apply ba_eq
                                simp only [ba_app, baOf_data, lineL, hK]
                                simp [decL, labOf, ba_app, baOf_data])
                              rw [hA] at x3
                              rw [hU] at x5
                              rw [hA, hU] at HCK
                              clear hK hA hU
                              generalize decOf x.f0 = D1 at s1 HD1 HFIN
                              generalize labOf x.f1.f0 x.f1.f1.toNat = P1 at s2 HLB HFIN
                              generalize baOf b = S at hs0 HFIN HSB ⊢
                              have bk1 : (9223372036854775807 < S.size + 5) = False := eq_false (by omega)
                              have ck1 : S.size + 5 ≤ 9223372036854775807 := by omega
                              have bk2 : (9223372036854775807 < S.size + 5 + D1.size) = False := eq_false (by omega)
                              have ck2 : S.size + 5 + D1.size ≤ 9223372036854775807 := by omega
                              have bk3 : (9223372036854775807 < S.size + 5 + D1.size + 1) = False := eq_false (by omega)
                              have ck3 : S.size + 5 + D1.size + 1 ≤ 9223372036854775807 := by omega
                              have bk4 : (9223372036854775807 < S.size + 5 + D1.size + 1 + P1.size) = False := eq_false (by omega)
                              have ck4 : S.size + 5 + D1.size + 1 + P1.size ≤ 9223372036854775807 := by omega
                              have bk5 : (9223372036854775807 < S.size + 5 + D1.size + 1 + P1.size + 1) = False := eq_false (by omega)
                              have ck5 : S.size + 5 + D1.size + 1 + P1.size + 1 ≤ 9223372036854775807 := by omega
                              have bk6 : (9223372036854775807 < S.size + 5 + D1.size + 1 + P1.size + 1 + 1) = False := eq_false (by omega)
                              have ck6 : S.size + 5 + D1.size + 1 + P1.size + 1 + 1 ≤ 9223372036854775807 := by omega
                              have bk7 : (9223372036854775807 < S.size + 5 + D1.size + 1 + P1.size + 1 + 1 + 1) = False := eq_false (by omega)
                              have ck7 : S.size + 5 + D1.size + 1 + P1.size + 1 + 1 + 1 ≤ 9223372036854775807 := by omega
                              have bk8 : (9223372036854775807 < S.size + 5 + D1.size + 1 + P1.size + 1 + 1 + 1 + x.f3.f0.size) = False := eq_false (by omega)
                              have ck8 : S.size + 5 + D1.size + 1 + P1.size + 1 + 1 + 1 + x.f3.f0.size ≤ 9223372036854775807 := by omega
                              have bk9 : (9223372036854775807 < S.size + 5 + D1.size + 1 + P1.size + 1 + 1 + 1 + x.f3.f0.size + 1) = False := eq_false (by omega)
                              have ck9 : S.size + 5 + D1.size + 1 + P1.size + 1 + 1 + 1 + x.f3.f0.size + 1 ≤ 9223372036854775807 := by omega
                              clear s1 s2 hs0
                              go_wp2_with (first
                                | ((with_reducible refine gate_dst (N := 9) rfl ?_); refine box_event ?hg9 (N := 9) ?hd9 (cs := #[.int .i64 0, .int .i64 0, .int .u64 0, .bool false, .string ⟨#[]⟩, .bool false]) (t := 41) ?hr9 ?_; (case hd9 => rfl); (case hg9 => rfl); (case hr9 => first | (go_simp; done) | (go_simp; rfl)); intro gx hg wA hbox hbA; have HX := Lib.hid hbox; obtain ⟨⟨y0, y1, y2, y3, y4, y5⟩, z0, z1, z2, z3, z4, z5⟩ := zeroCells_at hbox; have HGE := Lib.hid (show wi.heap.size ≤ gx by rw [hg]; simp); have HBA := Lib.hid hbA; clear hbox hbA hg)
                                | (go_at_call 31; have HX2 := Lib.hid (putItem_blk (⟨x.f0, x.f1, true, ⟨x.f3.f0, false⟩⟩ : S41) HX.out); have HBI2 := Lib.hid (putItem_below (⟨x.f0, x.f1, true, ⟨x.f3.f0, false⟩⟩ : S41) HBA.out HGE.out); unfold putItem itemCells at HX2; unfold putItem at HBI2; dsimp only at HX2 HBI2; (with_reducible refine (jalousieref15_check.calls kc x.f0 x.f1.f0 x.f1.f1 true x.f3.f0 false _ _ HCK.out).mono ?_); rintro e w5 ⟨rfl, hb5⟩; have HX5 := Lib.hid (blk_below HX2.out hb5); have HB5 := Lib.hid (below_step HBI2.out hb5); clear y0 y1 y2 y3 y4 y5 z0 z1 z2 z3 z4 z5 hb5; obtain ⟨y0, y1, y2, y3, y4, y5⟩ := itemCells_at (show w5.heap[gx]? = some (.cells (itemCells (⟨x.f0, x.f1, true, ⟨x.f3.f0, false⟩⟩ : S41)) 41 (0, 0)) from HX5.out); dsimp only at y0 y1 y2 y3 y4 y5; clear HX HBA HX2 HBI2))
                              have HS5 : (fun w' => Below w5.heap.size w5 w' ∧ w'.cell? ⟨gx, 0, none⟩ = some (.int .i64 x.f0) ∧ w'.cell? ⟨gx, 1, none⟩ = some (.int .i64 x.f1.f0) ∧ w'.cell? ⟨gx, 2, none⟩ = some (.int .u64 x.f1.f1) ∧ w'.cell? ⟨gx, 4, none⟩ = some (.string x.f3.f0)) w5.drew := ⟨below_drew (Below.refl _ _), by go_simp, by go_simp, by go_simp, by go_simp⟩
                              clear y0 y1 y2 y3 y4 y5
                              go_region_held3 (fun w' => Below w5.heap.size w5 w' ∧ w'.cell? ⟨gx, 0, none⟩ = some (.int .i64 x.f0) ∧ w'.cell? ⟨gx, 1, none⟩ = some (.int .i64 x.f1.f0) ∧ w'.cell? ⟨gx, 2, none⟩ = some (.int .u64 x.f1.f1) ∧ w'.cell? ⟨gx, 4, none⟩ = some (.string x.f3.f0)) (first | assumption | exact HS5 | exact keep4 (by assumption) (by assumption)) (first
                                | (go_at_call 30; (with_reducible refine (jalousieref01_Decimal.calls 20 x.f0 _ _ HD1.out).mono ?_); rintro e w6 ⟨rfl, hb⟩)
                                | (go_at_call 32; (with_reducible refine (jalousieref02_Print.calls 90 x.f1.f0 x.f1.f1 _ _ HLB.out).mono ?_); rintro e w6 ⟨rfl, hb⟩))
                              all_goals
                                go_wp2
                                go_roundw
                                case rel => exact ⟨j + 1, b ++ lineL x, by go_num, by first | rw [HFIN.out] | (rw [HFIN.out]; rfl), by omega, HBI.trans ((below_step HB5.out (by assumption : Below w5.heap.size w5 _ ∧ _ ∧ _ ∧ _ ∧ _).1).mono HBI.size), HGN.out, by rw [List.length_append]; omega⟩
                                case measure => simp [intOf]; omega
                        | false =>
                          cases hU : x.f3.f1 with
                            | true =>
                              have hK : kindL x.f2 x.f3.f1 = [108, 98] := by rw [hA, hU]; rfl
                              have HFIN := Lib.hid (show baOf (b ++ lineL x) = ((((((((baOf b ++ (⟨#[105, 116, 101, 109, 32]⟩ : ByteArray)) ++ decOf x.f0) ++ ⟨#[32]⟩) ++ labOf x.f1.f0 x.f1.f1.toNat) ++ ⟨#[32]⟩) ++ ((⟨#[108]⟩ : ByteArray) ++ ⟨#[98]⟩)) ++ ⟨#[32]⟩) ++ x.f3.f0) ++ ⟨#[10]⟩ by
                                apply ba_eq
                                simp only [ba_app, baOf_data, lineL, hK]
                                simp [decL, labOf, ba_app, baOf_data])
                              rw [hA] at x3
                              rw [hU] at x5
                              rw [hA, hU] at HCK
                              clear hK hA hU
                              generalize decOf x.f0 = D1 at s1 HD1 HFIN
                              generalize labOf x.f1.f0 x.f1.f1.toNat = P1 at s2 HLB HFIN
                              generalize baOf b = S at hs0 HFIN HSB ⊢
                              have bk1 : (9223372036854775807 < S.size + 5) = False := eq_false (by omega)
                              have ck1 : S.size + 5 ≤ 9223372036854775807 := by omega
                              have bk2 : (9223372036854775807 < S.size + 5 + D1.size) = False := eq_false (by omega)
                              have ck2 : S.size + 5 + D1.size ≤ 9223372036854775807 := by omega
                              have bk3 : (9223372036854775807 < S.size + 5 + D1.size + 1) = False := eq_false (by omega)
                              have ck3 : S.size + 5 + D1.size + 1 ≤ 9223372036854775807 := by omega
                              have bk4 : (9223372036854775807 < S.size + 5 + D1.size + 1 + P1.size) = False := eq_false (by omega)
                              have ck4 : S.size + 5 + D1.size + 1 + P1.size ≤ 9223372036854775807 := by omega
                              have bk5 : (9223372036854775807 < S.size + 5 + D1.size + 1 + P1.size + 1) = False := eq_false (by omega)
                              have ck5 : S.size + 5 + D1.size + 1 + P1.size + 1 ≤ 9223372036854775807 := by omega
                              have bk6 : (9223372036854775807 < S.size + 5 + D1.size + 1 + P1.size + 1 + 2) = False := eq_false (by omega)
                              have ck6 : S.size + 5 + D1.size + 1 + P1.size + 1 + 2 ≤ 9223372036854775807 := by omega
                              have bk7 : (9223372036854775807 < S.size + 5 + D1.size + 1 + P1.size + 1 + 2 + 1) = False := eq_false (by omega)
                              have ck7 : S.size + 5 + D1.size + 1 + P1.size + 1 + 2 + 1 ≤ 9223372036854775807 := by omega
                              have bk8 : (9223372036854775807 < S.size + 5 + D1.size + 1 + P1.size + 1 + 2 + 1 + x.f3.f0.size) = False := eq_false (by omega)
                              have ck8 : S.size + 5 + D1.size + 1 + P1.size + 1 + 2 + 1 + x.f3.f0.size ≤ 9223372036854775807 := by omega
                              have bk9 : (9223372036854775807 < S.size + 5 + D1.size + 1 + P1.size + 1 + 2 + 1 + x.f3.f0.size + 1) = False := eq_false (by omega)
                              have ck9 : S.size + 5 + D1.size + 1 + P1.size + 1 + 2 + 1 + x.f3.f0.size + 1 ≤ 9223372036854775807 := by omega
                              clear s1 s2 hs0
                              go_wp2_with (first
                                | ((with_reducible refine gate_dst (N := 9) rfl ?_); refine box_event ?hg9 (N := 9) ?hd9 (cs := #[.int .i64 0, .int .i64 0, .int .u64 0, .bool false, .string ⟨#[]⟩, .bool false]) (t := 41) ?hr9 ?_; (case hd9 => rfl); (case hg9 => rfl); (case hr9 => first | (go_simp; done) | (go_simp; rfl)); intro gx hg wA hbox hbA; have HX := Lib.hid hbox; obtain ⟨⟨y0, y1, y2, y3, y4, y5⟩, z0, z1, z2, z3, z4, z5⟩ := zeroCells_at hbox; have HGE := Lib.hid (show wi.heap.size ≤ gx by rw [hg]; simp); have HBA := Lib.hid hbA; clear hbox hbA hg)
                                | (go_at_call 31; have HX2 := Lib.hid (putItem_blk (⟨x.f0, x.f1, false, ⟨x.f3.f0, true⟩⟩ : S41) HX.out); have HBI2 := Lib.hid (putItem_below (⟨x.f0, x.f1, false, ⟨x.f3.f0, true⟩⟩ : S41) HBA.out HGE.out); unfold putItem itemCells at HX2; unfold putItem at HBI2; dsimp only at HX2 HBI2; (with_reducible refine (jalousieref15_check.calls kc x.f0 x.f1.f0 x.f1.f1 false x.f3.f0 true _ _ HCK.out).mono ?_); rintro e w5 ⟨rfl, hb5⟩; have HX5 := Lib.hid (blk_below HX2.out hb5); have HB5 := Lib.hid (below_step HBI2.out hb5); clear y0 y1 y2 y3 y4 y5 z0 z1 z2 z3 z4 z5 hb5; obtain ⟨y0, y1, y2, y3, y4, y5⟩ := itemCells_at (show w5.heap[gx]? = some (.cells (itemCells (⟨x.f0, x.f1, false, ⟨x.f3.f0, true⟩⟩ : S41)) 41 (0, 0)) from HX5.out); dsimp only at y0 y1 y2 y3 y4 y5; clear HX HBA HX2 HBI2))
                              have HS5 : (fun w' => Below w5.heap.size w5 w' ∧ w'.cell? ⟨gx, 0, none⟩ = some (.int .i64 x.f0) ∧ w'.cell? ⟨gx, 1, none⟩ = some (.int .i64 x.f1.f0) ∧ w'.cell? ⟨gx, 2, none⟩ = some (.int .u64 x.f1.f1) ∧ w'.cell? ⟨gx, 4, none⟩ = some (.string x.f3.f0)) w5.drew := ⟨below_drew (Below.refl _ _), by go_simp, by go_simp, by go_simp, by go_simp⟩
                              clear y0 y1 y2 y3 y4 y5
                              go_region_held3 (fun w' => Below w5.heap.size w5 w' ∧ w'.cell? ⟨gx, 0, none⟩ = some (.int .i64 x.f0) ∧ w'.cell? ⟨gx, 1, none⟩ = some (.int .i64 x.f1.f0) ∧ w'.cell? ⟨gx, 2, none⟩ = some (.int .u64 x.f1.f1) ∧ w'.cell? ⟨gx, 4, none⟩ = some (.string x.f3.f0)) (first | assumption | exact HS5 | exact keep4 (by assumption) (by assumption)) (first
                                | (go_at_call 30; (with_reducible refine (jalousieref01_Decimal.calls 20 x.f0 _ _ HD1.out).mono ?_); rintro e w6 ⟨rfl, hb⟩)
                                | (go_at_call 32; (with_reducible refine (jalousieref02_Print.calls 90 x.f1.f0 x.f1.f1 _ _ HLB.out).mono ?_); rintro e w6 ⟨rfl, hb⟩))
                              all_goals
                                go_wp2
                                go_roundw
                                case rel => exact ⟨j + 1, b ++ lineL x, by go_num, by first | rw [HFIN.out] | (rw [HFIN.out]; rfl), by omega, HBI.trans ((below_step HB5.out (by assumption : Below w5.heap.size w5 _ ∧ _ ∧ _ ∧ _ ∧ _).1).mono HBI.size), HGN.out, by rw [List.length_append]; omega⟩
                                case measure => simp [intOf]; omega
                            | false =>
                              have hK : kindL x.f2 x.f3.f1 = [108] := by rw [hA, hU]; rfl
                              have HFIN := Lib.hid (show baOf (b ++ lineL x) = ((((((((baOf b ++ (⟨#[105, 116, 101, 109, 32]⟩ : ByteArray)) ++ decOf x.f0) ++ ⟨#[32]⟩) ++ labOf x.f1.f0 x.f1.f1.toNat) ++ ⟨#[32]⟩) ++ ⟨#[108]⟩) ++ ⟨#[32]⟩) ++ x.f3.f0) ++ ⟨#[10]⟩ by
                                apply ba_eq
                                simp only [ba_app, baOf_data, lineL, hK]
                                simp [decL, labOf, ba_app, baOf_data])
                              rw [hA] at x3
                              rw [hU] at x5
                              rw [hA, hU] at HCK
                              clear hK hA hU
                              generalize decOf x.f0 = D1 at s1 HD1 HFIN
                              generalize labOf x.f1.f0 x.f1.f1.toNat = P1 at s2 HLB HFIN
                              generalize baOf b = S at hs0 HFIN HSB ⊢
                              have bk1 : (9223372036854775807 < S.size + 5) = False := eq_false (by omega)
                              have ck1 : S.size + 5 ≤ 9223372036854775807 := by omega
                              have bk2 : (9223372036854775807 < S.size + 5 + D1.size) = False := eq_false (by omega)
                              have ck2 : S.size + 5 + D1.size ≤ 9223372036854775807 := by omega
                              have bk3 : (9223372036854775807 < S.size + 5 + D1.size + 1) = False := eq_false (by omega)
                              have ck3 : S.size + 5 + D1.size + 1 ≤ 9223372036854775807 := by omega
                              have bk4 : (9223372036854775807 < S.size + 5 + D1.size + 1 + P1.size) = False := eq_false (by omega)
                              have ck4 : S.size + 5 + D1.size + 1 + P1.size ≤ 9223372036854775807 := by omega
                              have bk5 : (9223372036854775807 < S.size + 5 + D1.size + 1 + P1.size + 1) = False := eq_false (by omega)
                              have ck5 : S.size + 5 + D1.size + 1 + P1.size + 1 ≤ 9223372036854775807 := by omega
                              have bk6 : (9223372036854775807 < S.size + 5 + D1.size + 1 + P1.size + 1 + 1) = False := eq_false (by omega)
                              have ck6 : S.size + 5 + D1.size + 1 + P1.size + 1 + 1 ≤ 9223372036854775807 := by omega
                              have bk7 : (9223372036854775807 < S.size + 5 + D1.size + 1 + P1.size + 1 + 1 + 1) = False := eq_false (by omega)
                              have ck7 : S.size + 5 + D1.size + 1 + P1.size + 1 + 1 + 1 ≤ 9223372036854775807 := by omega
                              have bk8 : (9223372036854775807 < S.size + 5 + D1.size + 1 + P1.size + 1 + 1 + 1 + x.f3.f0.size) = False := eq_false (by omega)
                              have ck8 : S.size + 5 + D1.size + 1 + P1.size + 1 + 1 + 1 + x.f3.f0.size ≤ 9223372036854775807 := by omega
                              have bk9 : (9223372036854775807 < S.size + 5 + D1.size + 1 + P1.size + 1 + 1 + 1 + x.f3.f0.size + 1) = False := eq_false (by omega)
                              have ck9 : S.size + 5 + D1.size + 1 + P1.size + 1 + 1 + 1 + x.f3.f0.size + 1 ≤ 9223372036854775807 := by omega
                              clear s1 s2 hs0
                              go_wp2_with (first
                                | ((with_reducible refine gate_dst (N := 9) rfl ?_); refine box_event ?hg9 (N := 9) ?hd9 (cs := #[.int .i64 0, .int .i64 0, .int .u64 0, .bool false, .string ⟨#[]⟩, .bool false]) (t := 41) ?hr9 ?_; (case hd9 => rfl); (case hg9 => rfl); (case hr9 => first | (go_simp; done) | (go_simp; rfl)); intro gx hg wA hbox hbA; have HX := Lib.hid hbox; obtain ⟨⟨y0, y1, y2, y3, y4, y5⟩, z0, z1, z2, z3, z4, z5⟩ := zeroCells_at hbox; have HGE := Lib.hid (show wi.heap.size ≤ gx by rw [hg]; simp); have HBA := Lib.hid hbA; clear hbox hbA hg)
                                | (go_at_call 31; have HX2 := Lib.hid (putItem_blk (⟨x.f0, x.f1, false, ⟨x.f3.f0, false⟩⟩ : S41) HX.out); have HBI2 := Lib.hid (putItem_below (⟨x.f0, x.f1, false, ⟨x.f3.f0, false⟩⟩ : S41) HBA.out HGE.out); unfold putItem itemCells at HX2; unfold putItem at HBI2; dsimp only at HX2 HBI2; (with_reducible refine (jalousieref15_check.calls kc x.f0 x.f1.f0 x.f1.f1 false x.f3.f0 false _ _ HCK.out).mono ?_); rintro e w5 ⟨rfl, hb5⟩; have HX5 := Lib.hid (blk_below HX2.out hb5); have HB5 := Lib.hid (below_step HBI2.out hb5); clear y0 y1 y2 y3 y4 y5 z0 z1 z2 z3 z4 z5 hb5; obtain ⟨y0, y1, y2, y3, y4, y5⟩ := itemCells_at (show w5.heap[gx]? = some (.cells (itemCells (⟨x.f0, x.f1, false, ⟨x.f3.f0, false⟩⟩ : S41)) 41 (0, 0)) from HX5.out); dsimp only at y0 y1 y2 y3 y4 y5; clear HX HBA HX2 HBI2))
                              have HS5 : (fun w' => Below w5.heap.size w5 w' ∧ w'.cell? ⟨gx, 0, none⟩ = some (.int .i64 x.f0) ∧ w'.cell? ⟨gx, 1, none⟩ = some (.int .i64 x.f1.f0) ∧ w'.cell? ⟨gx, 2, none⟩ = some (.int .u64 x.f1.f1) ∧ w'.cell? ⟨gx, 4, none⟩ = some (.string x.f3.f0)) w5.drew := ⟨below_drew (Below.refl _ _), by go_simp, by go_simp, by go_simp, by go_simp⟩
                              clear y0 y1 y2 y3 y4 y5
                              go_region_held3 (fun w' => Below w5.heap.size w5 w' ∧ w'.cell? ⟨gx, 0, none⟩ = some (.int .i64 x.f0) ∧ w'.cell? ⟨gx, 1, none⟩ = some (.int .i64 x.f1.f0) ∧ w'.cell? ⟨gx, 2, none⟩ = some (.int .u64 x.f1.f1) ∧ w'.cell? ⟨gx, 4, none⟩ = some (.string x.f3.f0)) (first | assumption | exact HS5 | exact keep4 (by assumption) (by assumption)) (first
                                | (go_at_call 30; (with_reducible refine (jalousieref01_Decimal.calls 20 x.f0 _ _ HD1.out).mono ?_); rintro e w6 ⟨rfl, hb⟩)
                                | (go_at_call 32; (with_reducible refine (jalousieref02_Print.calls 90 x.f1.f0 x.f1.f1 _ _ HLB.out).mono ?_); rintro e w6 ⟨rfl, hb⟩))
                              all_goals
                                go_wp2
                                go_roundw
                                case rel => exact ⟨j + 1, b ++ lineL x, by go_num, by first | rw [HFIN.out] | (rw [HFIN.out]; rfl), by omega, HBI.trans ((below_step HB5.out (by assumption : Below w5.heap.size w5 _ ∧ _ ∧ _ ∧ _ ∧ _).1).mono HBI.size), HGN.out, by rw [List.length_append]; omega⟩
                                case measure => simp [intOf]; omega
                    · have hdj : decide (j < p.f2.length) = false := by simpa using hjl
                      obtain rfl : j = p.f2.length := by omega
                      have HE := Lib.hid (HPI.out.1 b (by have := HGI.out; rw [List.drop_length] at this; exact this.symm))
                      rw [List.drop_length] at hrb
                      clear HGI
                      go_wp2
                      go_roundw
                      case rel => exact ⟨i' + 1 + 1, b, by go_num, rfl, by omega, HB.trans ((below_step HB3.out HBI).mono HB.size), HE.out, by rw [HRR.out]; omega⟩
                      case measure => simp [intOf]; omega
    · have hd1 : decide (i < d.length) = false := by simpa using hil
      obtain rfl : i = d.length := by omega
      have HE := Lib.hid (show (acc, (0 : Int)) = res by have := HGO.out; rw [List.drop_length] at this; exact this)
      have hsz : (baOf acc).size = acc.length := ba_size acc
      have hbl : bytesOf (baOf acc) = bytesL acc := rfl
      have HRD := Lib.hid (bytes_reads wr 5 (baOf acc) (by omega))
      have HBB := Lib.hid (bytes_below HB HB.size 5 (baOf acc))
      have hge := grownCap_ge wr (baOf acc).size 0 5
      have HBL := Lib.hid hbl
      have kb := print_bytes (P := Tryd.prog) 9 43 5 Tryd.underlying9 Tryd.underlying43 Tryd.underlying5 (baOf acc) wr
      have HSZ := Lib.hid hsz
      obtain ⟨cp, hcp⟩ : ∃ cp, grownCap wr (baOf acc).size 0 5 = cp := ⟨_, rfl⟩
      rw [hcp] at kb hge
      generalize baOf acc = S at HRD HBB kb hge HBL HSZ ⊢
      generalize Lib.bytesWorld wr 5 S = W9 at HRD HBB kb ⊢
      clear HGO hsz hbl hcp
      go_wp2
      go_ret2
      have hl : (bytesL acc).length = S.size := by rw [← HBL.out, bytesOf_length]
      refine ⟨some ⟨wr.heap.size, 0, none⟩, cp, ?_, ?_, ?_, HBB.out⟩
      · rw [← HE.out]
        show _ = Ending.returned (.tuple #[.slice (some ⟨wr.heap.size, 0, none⟩) (bytesL acc).length cp, .int .i64 0])
        rw [hl]
        rfl
      · rw [← HE.out]; show (bytesL acc).length ≤ cp; omega
      · rw [← HE.out]
        show Kd.C (Kd.int .u8) W9 _ (bytesL acc).length (bytesL acc)
        have := HRD.out
        rw [HBL.out, ← hl] at this
        exact Kd.C_of_reads (enc := Value.int .u8) (d := (0 : Int)) (h1 := fun _ => rfl) (reads_of_int this)
end Go.Proofs.YthppicgolkpbaaaDoor.P

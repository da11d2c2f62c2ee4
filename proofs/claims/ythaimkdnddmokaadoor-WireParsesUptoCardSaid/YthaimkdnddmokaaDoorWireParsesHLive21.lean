/- jalousielaw21.live answers true; condition: the tables lie as they were laid. -/
import Derived.Test.YthaimkdnddmokaaDoorWireParsesGHWParseFit
import Derived.Test.YthaimkdnddmokaaDoorWireParsesHWAnswer
namespace Go.Proofs.YthaimkdnddmokaaDoor.P
open Go.RowKit Go.Proofs.YthaimkdnddmokaaDoorW.PrintWords Go.Proofs.YthaimkdnddmokaaDoorW.PrintLast Go.Proofs.YthaimkdnddmokaaDoorW.PrintMore
set_option linter.unusedVariables false
set_option linter.unusedSimpArgs false
def jalousielaw21_live.f : Option Bool := some true
theorem live21_diff : wire_Parse.f [100, 105, 102, 102, 32, 48, 32, 97, 32, 48, 32, 49, 32, 51, 10] = some (5, 0, 0, ⟨#[97]⟩, 0, 1, 3, [], 0) := by kernel_rfl
theorem live21_sub : wire_Parse.f [115, 117, 98, 109, 105, 116, 32, 49, 58, 50, 32, 98, 32, 52, 10, 120, 121] = some (7, 1, 4, ⟨#[98]⟩, 4, 0, 0, [120, 121], 0) := by kernel_rfl
theorem live21_ans : wire_Answer.f 6 [] = some [110, 111, 116, 45, 102, 111, 117, 110, 100, 10] := by decide +kernel
theorem live21_word : wire_Word.f 1 = some ⟨#[108, 105, 115, 116]⟩ := by decide +kernel
set_option maxHeartbeats 4000000 in
set_option maxRecDepth 100000 in
theorem jalousielaw21_live.calls (r : Bool) (w : World) (hT : Tabs w) (h : jalousielaw21_live.f = some r) :
    Calls Tryd.prog 10 #[] w fun e w' => e = .returned (.bool r) ∧ Below w.heap.size w w' := by
  obtain rfl := Option.some.inj h
  clear h
  have HT := Lib.hid hT
  clear hT
  have hconv := Lib.run_convert_bytes_const (P := Tryd.prog) w 22 5 #[.int .u8 100, .int .u8 105, .int .u8 102, .int .u8 102, .int .u8 32, .int .u8 48, .int .u8 32, .int .u8 97, .int .u8 32, .int .u8 48, .int .u8 32, .int .u8 49, .int .u8 32, .int .u8 51, .int .u8 10] 15 15 Tryd.underlying22 Tryd.underlying5
  have HC0 := Lib.hid (show Kd.C (Kd.int .u8) (w.alloc (.cells #[.int .u8 100, .int .u8 105, .int .u8 102, .int .u8 102, .int .u8 32, .int .u8 48, .int .u8 32, .int .u8 97, .int .u8 32, .int .u8 48, .int .u8 32, .int .u8 49, .int .u8 32, .int .u8 51, .int .u8 10] 5 (15, 16))) (some ⟨w.heap.size, 0, none⟩) ([100, 105, 102, 102, 32, 48, 32, 97, 32, 48, 32, 49, 32, 51, 10] : List Int).length [100, 105, 102, 102, 32, 48, 32, 97, 32, 48, 32, 49, 32, 51, 10] from const_reads w [100, 105, 102, 102, 32, 48, 32, 97, 32, 48, 32, 49, 32, 51, 10] (15, 16) (by decide))
  have HB0 := Lib.hid (below_alloc (Below.refl w.heap.size w) (.cells #[.int .u8 100, .int .u8 105, .int .u8 102, .int .u8 102, .int .u8 32, .int .u8 48, .int .u8 32, .int .u8 97, .int .u8 32, .int .u8 48, .int .u8 32, .int .u8 49, .int .u8 32, .int .u8 51, .int .u8 10] 5 (15, 16)))
  go_enter Tryd.func10, Tryd.ntmps10
  go_wp2_with fail
  (refine (wire_Parse.calls (some ⟨w.heap.size, 0, none⟩) 15 [100, 105, 102, 102, 32, 48, 32, 97, 32, 48, 32, 49, 32, 51, 10] _ _ _ _ _ _ _ _ _ _ HC0.out (by decide) (fun h => by cases h) (HT.out.below HB0.out) live21_diff).mono ?_)
  rintro e w1 ⟨v1, rfl, hr, hb⟩
  obtain ⟨A1, c1, rfl, hc1, hC1⟩ := Kd.R_reads hr
  have HB1 := Lib.hid (below_step HB0.out hb)
  have KA := Lib.hid (blk_new w1 (.cells #[.int .i64 5, .int .i64 0, .int .u64 0, .string ⟨#[97]⟩, .int .i64 0, .int .i64 1, .int .i64 3, .slice A1 ([] : List Int).length c1] 28))
  have HB2 := Lib.hid (below_alloc HB1.out (.cells #[.int .i64 5, .int .i64 0, .int .u64 0, .string ⟨#[97]⟩, .int .i64 0, .int .i64 1, .int .i64 3, .slice A1 ([] : List Int).length c1] 28))
  clear hr hb hC1 hconv
  go_upto_region 2 with (fail)
  obtain ⟨g1, hg1⟩ : ∃ g, w1.heap.size = g := ⟨_, rfl⟩
  rw [hg1] at KA
  try simp only [hg1]
  clear hg1
  generalize w1.alloc (.cells #[.int .i64 5, .int .i64 0, .int .u64 0, .string ⟨#[97]⟩, .int .i64 0, .int .i64 1, .int .i64 3, .slice A1 ([] : List Int).length c1] 28) = w2 at KA HB2 ⊢
  have hconv := Lib.run_convert_bytes_const (P := Tryd.prog) w2 22 5 #[.int .u8 115, .int .u8 117, .int .u8 98, .int .u8 109, .int .u8 105, .int .u8 116, .int .u8 32, .int .u8 49, .int .u8 58, .int .u8 50, .int .u8 32, .int .u8 98, .int .u8 32, .int .u8 52, .int .u8 10, .int .u8 120, .int .u8 121] 17 17 Tryd.underlying22 Tryd.underlying5
  have HC3 := Lib.hid (show Kd.C (Kd.int .u8) (w2.alloc (.cells #[.int .u8 115, .int .u8 117, .int .u8 98, .int .u8 109, .int .u8 105, .int .u8 116, .int .u8 32, .int .u8 49, .int .u8 58, .int .u8 50, .int .u8 32, .int .u8 98, .int .u8 32, .int .u8 52, .int .u8 10, .int .u8 120, .int .u8 121] 5 (17, 18))) (some ⟨w2.heap.size, 0, none⟩) ([115, 117, 98, 109, 105, 116, 32, 49, 58, 50, 32, 98, 32, 52, 10, 120, 121] : List Int).length [115, 117, 98, 109, 105, 116, 32, 49, 58, 50, 32, 98, 32, 52, 10, 120, 121] from const_reads w2 [115, 117, 98, 109, 105, 116, 32, 49, 58, 50, 32, 98, 32, 52, 10, 120, 121] (17, 18) (by decide))
  have HB3 := Lib.hid (below_alloc HB2.out (.cells #[.int .u8 115, .int .u8 117, .int .u8 98, .int .u8 109, .int .u8 105, .int .u8 116, .int .u8 32, .int .u8 49, .int .u8 58, .int .u8 50, .int .u8 32, .int .u8 98, .int .u8 32, .int .u8 52, .int .u8 10, .int .u8 120, .int .u8 121] 5 (17, 18)))
  have KA3 := Lib.hid (blk_alloc KA.out (.cells #[.int .u8 115, .int .u8 117, .int .u8 98, .int .u8 109, .int .u8 105, .int .u8 116, .int .u8 32, .int .u8 49, .int .u8 58, .int .u8 50, .int .u8 32, .int .u8 98, .int .u8 32, .int .u8 52, .int .u8 10, .int .u8 120, .int .u8 121] 5 (17, 18)))
  go_wp2_with fail
  (refine (wire_Parse.calls (some ⟨w2.heap.size, 0, none⟩) 17 [115, 117, 98, 109, 105, 116, 32, 49, 58, 50, 32, 98, 32, 52, 10, 120, 121] _ _ _ _ _ _ _ _ _ _ HC3.out (by decide) (fun h => by cases h) (HT.out.below HB3.out) live21_sub).mono ?_)
  rintro e w4 ⟨v4, rfl, hr, hb⟩
  obtain ⟨A4, c4, rfl, hc4, hC4⟩ := Kd.R_reads hr
  have HB4 := Lib.hid (below_step HB3.out hb)
  have KA4 := Lib.hid (blk_below KA3.out hb)
  have KB := Lib.hid (blk_new w4 (.cells #[.int .i64 7, .int .i64 1, .int .u64 4, .string ⟨#[98]⟩, .int .i64 4, .int .i64 0, .int .i64 0, .slice A4 ([120, 121] : List Int).length c4] 28))
  have KA5 := Lib.hid (blk_alloc KA4.out (.cells #[.int .i64 7, .int .i64 1, .int .u64 4, .string ⟨#[98]⟩, .int .i64 4, .int .i64 0, .int .i64 0, .slice A4 ([120, 121] : List Int).length c4] 28))
  have HB5 := Lib.hid (below_alloc HB4.out (.cells #[.int .i64 7, .int .i64 1, .int .u64 4, .string ⟨#[98]⟩, .int .i64 4, .int .i64 0, .int .i64 0, .slice A4 ([120, 121] : List Int).length c4] 28))
  have HC4 := Lib.hid (Kd.C_below hC4 (below_alloc (Below.refl w4.heap.size w4) (.cells #[.int .i64 7, .int .i64 1, .int .u64 4, .string ⟨#[98]⟩, .int .i64 4, .int .i64 0, .int .i64 0, .slice A4 ([120, 121] : List Int).length c4] 28)))
  clear hr hb hC4 hconv
  go_upto_region 3 with (fail)
  obtain ⟨g4, hg4⟩ : ∃ g, w4.heap.size = g := ⟨_, rfl⟩
  rw [hg4] at KB
  try simp only [hg4]
  clear hg4
  generalize w4.alloc (.cells #[.int .i64 7, .int .i64 1, .int .u64 4, .string ⟨#[98]⟩, .int .i64 4, .int .i64 0, .int .i64 0, .slice A4 ([120, 121] : List Int).length c4] 28) = w5 at KB KA5 HB5 HC4 ⊢
  obtain ⟨a0, a1, a2, a3, a4, a5, a6, a7⟩ := req_cells KA5.out
  obtain ⟨b0, b1, b2, b3, b4, b5, b6, b7⟩ := req_cells KB.out
  have hcv : (convert 22 9 (.slice A4 2 c4)).run Tryd.prog w5 = .ok (.string ⟨#[120, 121]⟩) w5 := Kd.C_string (P := Tryd.prog) (A := A4) (c := c4) (w := w5) (xs := [120, 121]) Tryd.underlying22 Tryd.underlying5 Tryd.underlying9 HC4.out
  have HN := Lib.hid (Kd.C_nil (Kd.int .u8) w5)
  go_wp2_with (first
    | (go_at_call 12; (refine (wire_Answer.calls 6 none 0 [] _ w5 HN.out (Nat.le_refl _) (HT.out.below HB5.out) live21_ans).mono ?_); rintro e w6 ⟨A6, c6, rfl, hC6, hc6, hb⟩; have HB6 := Lib.hid (below_step HB5.out hb); have hcv6 : (convert 22 9 (.slice A6 10 c6)).run Tryd.prog w6 = .ok (.string ⟨#[110, 111, 116, 45, 102, 111, 117, 110, 100, 10]⟩) w6 := Kd.C_string (P := Tryd.prog) (A := A6) (c := c6) (w := w6) (xs := [110, 111, 116, 45, 102, 111, 117, 110, 100, 10]) Tryd.underlying22 Tryd.underlying5 Tryd.underlying9 hC6; clear hC6 hb)
    | (go_at_call 18; (with_reducible refine (wire_Word.calls 1 _ _ (HT.out.below HB6.out) live21_word).mono ?_); rintro e w7 ⟨rfl, hb⟩; have HB7 := Lib.hid (below_step HB6.out hb); clear hb))
  go_ret
  exact ⟨rfl, HB7.out⟩
end Go.Proofs.YthaimkdnddmokaaDoor.P

/- wire.line's contract, and what it has to do with the fields of a line's words -/
import Derived.Test.YthaimkdnddmokaaDoorWireParsesHWLine
import Derived.Test.YthaimkdnddmokaaDoorWireParsesHWTells
namespace Go.Proofs.YthaimkdnddmokaaDoor.P
open Go.RowKit Go.Proofs.YthaimkdnddmokaaDoorW.PrintWords Go.Proofs.YthaimkdnddmokaaDoorW.PrintLast Go.Proofs.YthaimkdnddmokaaDoorW.PrintMore
set_option linter.unusedVariables false
set_option linter.unusedSimpArgs false
abbrev LineF := Int × Int × Int × LineR
def lineF : List ByteArray → LineF
  | x0 :: x1 :: ws => (verbOf x0.data.toList, (labRead x1).1, (labRead x1).2.1, goL (formS (verbOf x0.data.toList)).data.toList ws ⟨#[]⟩ 0 0 0 (labRead x1).2.2)
  | _ => (0, 0, 0, ⟨#[]⟩, 0, 0, 0, false)
theorem verbOf_range (l : List UInt8) : 0 ≤ verbOf l ∧ verbOf l ≤ 11 := by
  by_cases h : verbOf l = 0
  · omega
  · have := verb_inv l h; omega
theorem form_all (v : Int) : (formS v).data.toList.all letterF = true ∧ (formS v).size ≤ 10 := by
  by_cases h : 1 ≤ v ∧ v ≤ 11
  · obtain ⟨n, rfl, hn⟩ := in_verb h
    have : ∀ n : Nat, n < 11 → (formS ((n : Int) + 1)).data.toList.all letterF = true ∧ (formS ((n : Int) + 1)).size ≤ 10 := by decide +kernel
    exact this n hn
  · have : formS v = ⟨#[]⟩ := by
      unfold formS
      rw [if_neg (by omega), if_neg (by omega), if_neg (by omega), if_neg (by omega), if_neg (by omega)]
    rw [this]
    decide +kernel
theorem form_pair {v : Int} (h : 1 ≤ v ∧ v ≤ 11) : (formV v = (false, 0, false) ∧ (formS v).data.toList = []) ∨ (formV v = (true, 1, false) ∧ (formS v).data.toList = [102, 97]) ∨ (formV v = (true, 3, false) ∧ (formS v).data.toList = [102, 97, 98, 99]) ∨ (formV v = (true, 1, true) ∧ (formS v).data.toList = [102, 97, 43]) ∨ (formV v = (true, 0, true) ∧ (formS v).data.toList = [102, 43]) ∨ (formV v = (true, 0, false) ∧ (formS v).data.toList = [102]) := by
  obtain ⟨n, rfl, hn⟩ := in_verb h
  obtain rfl | rfl | rfl | rfl | rfl | rfl | rfl | rfl | rfl | rfl | rfl : n = 0 ∨ n = 1 ∨ n = 2 ∨ n = 3 ∨ n = 4 ∨ n = 5 ∨ n = 6 ∨ n = 7 ∨ n = 8 ∨ n = 9 ∨ n = 10 := by omega
  all_goals
    first
      | exact .inl ⟨by decide +kernel, by decide +kernel⟩
      | exact .inr (.inl ⟨by decide +kernel, by decide +kernel⟩)
      | exact .inr (.inr (.inl ⟨by decide +kernel, by decide +kernel⟩))
      | exact .inr (.inr (.inr (.inl ⟨by decide +kernel, by decide +kernel⟩)))
      | exact .inr (.inr (.inr (.inr (.inl ⟨by decide +kernel, by decide +kernel⟩))))
      | exact .inr (.inr (.inr (.inr (.inr ⟨by decide +kernel, by decide +kernel⟩))))
/-- a line's words that are right, as the loop reads them -/
theorem line_fields (ws : List ByteArray) : (if (lineF ws).2.2.2.2.2.2.2 = true ∧ ¬ (lineF ws).1 = 0 then some ((lineF ws).1, (lineF ws).2.1, (lineF ws).2.2.1, (lineF ws).2.2.2.1, (lineF ws).2.2.2.2.1, (lineF ws).2.2.2.2.2.1, (lineF ws).2.2.2.2.2.2.1) else none) = fieldsW ws := by
  rcases ws with _ | ⟨x0, _ | ⟨x1, vs⟩⟩
  · simp [lineF, fieldsW, okWords]
  · simp [lineF, fieldsW, okWords]
  · have hv := verbOf_range x0.data.toList
    have e : fieldsW (x0 :: x1 :: vs) = if okWords (x0 :: x1 :: vs) (verbOf x0.data.toList) then some (verbOf x0.data.toList, (labRead x1).1, (labRead x1).2.1, if (formV (verbOf x0.data.toList)).1 = true then wdW (x0 :: x1 :: vs) 2 else ⟨#[]⟩,
      if 1 ≤ (formV (verbOf x0.data.toList)).2.1 then (numOf (wdW (x0 :: x1 :: vs) (headW (verbOf x0.data.toList)))).1 else 0, if 3 ≤ (formV (verbOf x0.data.toList)).2.1 then (numOf (wdW (x0 :: x1 :: vs) (headW (verbOf x0.data.toList) + 1))).1 else 0, if 3 ≤ (formV (verbOf x0.data.toList)).2.1 then (numOf (wdW (x0 :: x1 :: vs) (headW (verbOf x0.data.toList) + 2))).1 else 0) else none := rfl
    have e2 : lineF (x0 :: x1 :: vs) = (verbOf x0.data.toList, (labRead x1).1, (labRead x1).2.1, goL (formS (verbOf x0.data.toList)).data.toList vs ⟨#[]⟩ 0 0 0 (labRead x1).2.2) := rfl
    rw [e, e2]
    clear e e2
    generalize verbOf x0.data.toList = v at hv ⊢
    have hw1 : wdW (x0 :: x1 :: vs) 1 = x1 := rfl
    obtain ⟨l, c, is, hl⟩ : ∃ a b d, labRead x1 = (a, b, d) := ⟨_, _, _, rfl⟩
    by_cases h0 : v = 0
    · rw [if_neg (fun h => h.2 h0), if_neg (fun h => h.2.1 h0)]
    · rcases form_pair (v := v) ⟨by omega, hv.2⟩ with ⟨h1, h2⟩ | ⟨h1, h2⟩ | ⟨h1, h2⟩ | ⟨h1, h2⟩ | ⟨h1, h2⟩ | ⟨h1, h2⟩
      all_goals
        have hh : headW v = if (formV v).1 = true then 3 else 2 := rfl
        rw [h1] at hh
        simp only [okWords, hw1, hl, h1, h2, hh]
        rcases vs with _ | ⟨y1, _ | ⟨y2, _ | ⟨y3, _ | ⟨y4, _ | ⟨y5, vs⟩⟩⟩⟩⟩
        all_goals
          simp [goL, h0, wdW]
      all_goals
        cases is <;> simp [and_assoc]
set_option maxHeartbeats 2000000 in
set_option maxRecDepth 100000 in
theorem line.short (A0 : Option Addr) (n0 c0 : Nat) (w : World) (hn : n0 < 2) :
    Calls Tryd.prog 25 #[.slice A0 n0 c0] w fun e w' => e = .returned (.tuple #[.agg (reqCells 0 0 0 ⟨#[]⟩ 0 0 0), .bool false]) ∧ Below w.heap.size w w' := by
  have K2 := Lib.hid (show ((w.alloc (.cells zeroReq 28)).alloc (.cells zeroReq 28)).heap[w.heap.size]? = some (.cells zeroReq 28 (0, 0)) from blk_alloc (blk_new w _) _)
  have K4 := Lib.hid (show ((w.alloc (.cells zeroReq 28)).alloc (.cells zeroReq 28)).heap[w.heap.size + 1]? = some (.cells zeroReq 28 (0, 0)) by have := blk_new (w.alloc (.cells zeroReq 28)) (.cells zeroReq 28); simpa using this)
  have HB0 := Lib.hid (below_alloc (below_alloc (Below.refl w.heap.size w) (.cells zeroReq 28)) (.cells zeroReq 28))
  have d1 : decide ((n0 : Int) < 2) = true := decide_eq_true (by omega)
  go_enter Tryd.func25, Tryd.ntmps25
  go_upto_region 2 with (fail)
  obtain ⟨g2, hg2⟩ : ∃ g, w.heap.size = g := ⟨_, rfl⟩
  rw [hg2] at K2 K4
  obtain ⟨g4, hg4⟩ : ∃ g, g2 + 1 = g := ⟨_, rfl⟩
  rw [hg4] at K4
  obtain ⟨W0, hW0⟩ : ∃ W0, (w.alloc (.cells zeroReq 28)).alloc (.cells zeroReq 28) = W0 := ⟨_, rfl⟩
  rw [hW0] at K2 K4 HB0
  unfold zeroReq at hW0
  rw [hW0]
  clear hW0
  simp only [hg2, hg4]
  obtain ⟨q0, q1, q2, q3, q4, q5, q6, q7⟩ := req_cells K4.out
  obtain ⟨z0, z1, z2, z3, z4, z5, z6, z7⟩ := req_cells K2.out
  obtain ⟨f0, f1, f2, f3, f4, f5, f6, f7⟩ := req_frozen K2.out
  have hne : g4 ≠ g2 := by omega
  go_wp2
  refine bodyPost_ret (results_ct rfl _ _ g2 28 (reqCells 0 0 0 ⟨#[]⟩ 0 0 0) (0, 0) _ rfl (put8_blk _ _ _ _ _ _ _ _ K2.out) Tryd.underlying28 rfl (by kernel_rfl)) rfl ?_
  exact ⟨rfl, put8_below _ _ _ _ _ _ _ _ HB0.out (by omega)⟩
theorem line_tells (ws : List ByteArray) (A0 : Option Addr) (c0 : Nat) (w : World) (hT : Tabs w) (hr0 : Kd.C Kd.string w A0 ws.length ws) (hc0 : ws.length ≤ c0) (hl : ws.length ≤ 1099511627776) (hs : ∀ s ∈ ws, s.size < 4294967281) :
    Calls Tryd.prog 25 #[.slice A0 ws.length c0] w fun e w' => e = .returned (.tuple #[.agg (reqCells (lineF ws).1 (lineF ws).2.1 (lineF ws).2.2.1 (lineF ws).2.2.2.1 (lineF ws).2.2.2.2.1 (lineF ws).2.2.2.2.2.1 (lineF ws).2.2.2.2.2.2.1), .bool (lineF ws).2.2.2.2.2.2.2]) ∧ Below w.heap.size w w' := by
  rcases ws with _ | ⟨x0, _ | ⟨x1, vs⟩⟩
  · exact line.short A0 _ c0 w (by decide)
  · exact line.short A0 _ c0 w (by simp)
  · obtain ⟨g1, g2⟩ := form_all (verbOf x0.data.toList)
    refine line.walk A0 c0 x0 x1 vs (formS (verbOf x0.data.toList)) (verbOf x0.data.toList) (labRead x1).1 (labRead x1).2.1 (labRead x1).2.2 _ 12 w hT hr0 hc0 (by simp at hl; omega) ?_ (verbOf_range _) (label_Parse_tells x1 (hs x1 (by simp))) (form_tells _) g2 g1 rfl
    have := index_tells verbT (by decide) x0
    rw [show verbOf x0.data.toList - 1 = indexL x0.data.toList verbT by unfold verbOf; omega]
    exact this
end Go.Proofs.YthaimkdnddmokaaDoor.P

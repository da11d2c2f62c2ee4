/- what this claim needs of the words and the printed functions; conditions: as each statement says -/
import Derived.Test.YthppicgolkpbaaaDoorDeltaParsesGHDMap
import Derived.Test.YthppicgolkpbaaaDoorDeltaParsesHDParsed
import Derived.Test.YthppicgolkpbaaaDoorDeltaParsesPx0
import Derived.Lib.Hide
import Derived.WalkMore
namespace Go.Proofs.YthppicgolkpbaaaDoor.P
open Go.RowKit Go.Proofs.YthppicgolkpbaaaDoorW.PrintWords Go.Proofs.YthppicgolkpbaaaDoorW.PrintLast Go.Proofs.YthppicgolkpbaaaDoorW.PrintMore
set_option linter.unusedVariables false
theorem delta_parsed.calls (A0 : Option Addr) (c0 : Nat) (l0 : List S39) (r : List S27) (w : World) (hr0 : Kd.C k39 w A0 l0.length l0) (hc0 : l0.length ≤ c0) (hT : Tabs w) (h : delta_parsed.f l0 = some r) :
  Calls Tryd.prog 33 #[.slice A0 l0.length c0] w fun e w' => ∃ v0_ : Value, e = .returned v0_ ∧ Kd.R k27 27 w' w.heap.size (fun _ => True) v0_ r ∧ Below w.heap.size w w' := parsed_calls A0 c0 l0 r w hr0 hc0 hT taken_said h
end Go.Proofs.YthppicgolkpbaaaDoor.P
namespace Go.Proofs.YthppicgolkpbaaaDoor.P
open Go.RowKit Go.Proofs.YthppicgolkpbaaaDoorW.PrintWords Go.Proofs.YthppicgolkpbaaaDoorW.PrintLast Go.Proofs.YthppicgolkpbaaaDoorW.PrintMore
set_option linter.unusedVariables false
set_option linter.unusedSimpArgs false
def linesAcc (cur : List Int) : List Int → List S39
 | [] => if cur = [] then [] else [⟨strOfNums cur, true⟩]
 | c :: l => if c = 10 then ⟨strOfNums cur, false⟩ :: linesAcc [] l else linesAcc (cur ++ [c]) l
def linesOf (l : List Int) : List S39 := linesAcc [] l
def text_Lines.f (l : List Int) : Option (List S39) := if l.length < 5864062014805 then some (linesOf l) else none
theorem lines_head (ys : List Int) : ∀ (i : Nat) (cur : List Int), i ≤ ys.length → (∀ j, j < i → rd ys j ≠ 10) → linesAcc cur ys = linesAcc (cur ++ ys.take i) (ys.drop i)
 | 0, cur, _, _ => by simp
 | i + 1, cur, hi, h => by
  cases ys with
  | nil => simp at hi
  | cons y ys =>
   have h0 : y ≠ 10 := by have := h 0 (by omega); simpa [rd] using this
   have := lines_head ys i (cur ++ [y]) (by simpa using hi) (fun j hj => by have := h (j + 1) (by omega); simpa [rd] using this)
   simp only [linesAcc, if_neg h0, List.take_succ_cons, List.drop_succ_cons]
   rw [this, List.append_assoc]; rfl
theorem lines_cut (ys : List Int) (i : Nat) (hi : i < ys.length) (h : ∀ j : Nat, j < i → rd ys j ≠ 10) (h1 : rd ys (i : Int) = 10) : linesAcc [] ys = ⟨strOfNums (ys.take i), false⟩ :: linesAcc [] (ys.drop (i + 1)) := by
 rw [lines_head ys i [] (by omega) h, List.nil_append, List.drop_eq_getElem_cons hi]
 have : ys[i] = 10 := by rw [← h1]; simp [rd, List.getD_eq_getElem?_getD, hi]
 rw [this]; simp [linesAcc]
theorem lines_end (ys : List Int) (h0 : ys ≠ []) (h : ∀ j : Nat, j < ys.length → rd ys j ≠ 10) : linesAcc [] ys = [⟨strOfNums ys, true⟩] := by
 rw [lines_head ys ys.length [] (Nat.le_refl _) h]; simp [linesAcc, h0]
def LinesRel (w : World) (l : List Int) (v3 v4 : Value) (w' : World) : Prop := ∃ (xs : List S39) (ys : List Int) (A : Option Addr) (c : Nat), v4 = .slice A ys.length c ∧ Kd.C (Kd.int .u8) w A ys.length ys ∧ ys.length ≤ c ∧
 Kd.R k39 39 w' w.heap.size (fun _ => True) v3 xs ∧ Below w.heap.size w w' ∧ xs ++ linesAcc [] ys = linesAcc [] l ∧ xs.length + ys.length ≤ l.length
def lineLen : Value → Nat
 | .slice _ n _ => n
 | _ => 0
theorem lines_rest (ad : Addr) (c : Nat) (ys : List Int) (i : Nat) (hi : i < ys.length) (hc : ys.length ≤ c) (w : World) (h : Kd.C (Kd.int .u8) w (some ad) ys.length ys) :
  Kd.C (Kd.int .u8) w (if c = i + 1 then some ad else some (ad.add (i + 1))) (ys.drop (i + 1)).length (ys.drop (i + 1)) := by
 have := ReadsInt.drop_ (Kd.reads_of_C (enc := Value.int .u8) (d := (0 : Int)) (h1 := fun _ => rfl) h) (i + 1) hi hc
 rw [List.length_drop]
 exact Kd.C_of_reads (h1 := fun _ => rfl) this
theorem lines_piece (A : Option Addr) (c : Nat) (ys : List Int) (i : Nat) (hi : i < ys.length) (hc : ys.length ≤ c) :
  (∀ W : World, (Instr.slice 43 (.slice A ys.length c) none (some (.int .i64 (i : Int))) (some (.int .i64 (i : Int)))).run Tryd.prog W = .ok (.slice A i i) W) ∧
   (∀ w : World, Kd.C (Kd.int .u8) w A ys.length ys → Kd.C (Kd.int .u8) w A i (ys.take i)) := by
 obtain ⟨i0, hi0, _, hsz, _⟩ := info_parts info5
 obtain ⟨h1, h2, h3⟩ := print_take_of (P := Tryd.prog) (Value.int .u8) 0 43 5 .i64 Tryd.underlying43 hi0 hsz A c ys (i : Int) (by omega) (by omega) hc
 refine ⟨fun W => ?_, fun w h => ?_⟩
 ·
  have hel : Tryd.prog.elem 43 = 5 := by kernel_rfl
  have hu : Tryd.prog.underlying 43 = some (.slice (Tryd.prog.elem 43)) := by rw [hel]; exact Tryd.underlying43
  have ha : (A.map fun x => x.add 0) = A := by cases A <;> simp [Addr.add]
  rw [run_slice_hm W 43 A ys.length c hu .i64 .i64 (i : Int) (i : Int) (by omega) (by omega) (by omega), hel]
  simp [sizeOf, typeInfo, hi0, hsz, sliced, Result.andThen, ha]
 ·
  have := Kd.C_of_reads (h1 := fun _ => rfl) (h2 w (Kd.reads_of_C h))
  have hl : (ys.take i).length = i := by simp; omega
  simp only [Int.toNat_natCast] at this
  rwa [hl] at this
set_option maxHeartbeats 4000000 in
set_option maxRecDepth 100000 in
theorem text_Lines.calls (A0 : Option Addr) (c0 : Nat) (l0 : List Int) (r : List S39) (w : World) (hr0 : Kd.C (Kd.int .u8) w A0 l0.length l0) (hc0 : l0.length ≤ c0) (h : text_Lines.f l0 = some r) :
  Calls Tryd.prog 34 #[.slice A0 l0.length c0] w fun e w' => ∃ v0_ : Value, e = .returned v0_ ∧ Kd.R k39 39 w' w.heap.size (fun _ => True) v0_ r ∧ Below w.heap.size w w' := by
 have hlen : l0.length < 5864062014805 := by
  by_cases hl : l0.length < 5864062014805
  ·
   exact hl
  ·
   rw [text_Lines.f, if_neg hl] at h; cases h
 rw [text_Lines.f, if_pos hlen] at h
 obtain rfl := Option.some.inj h
 clear h
 have hu39 := Tryd.underlying39
 have HLEN := Lib.hid hlen
 clear hlen
 go_enter Tryd.func34, Tryd.ntmps34
 go_wp2
 go_step3
 go_wp2
 go_step3
 go_wp2
 go_loopw [3, 4] (fun v3 v4 w' => LinesRel w l0 v3 v4 w') (fun _ v4 _ => lineLen v4)
 case atStart => exact ⟨[], l0, A0, c0, rfl, hr0, hc0, Kd.R_nil _ _ _ _ _, Below.refl _ _, rfl, by simp⟩
 case round =>
  obtain ⟨xs, ys, A, c, rfl, HY, hyc, HO, HB, heq, hle⟩ := hrel
  have HEQ := Lib.hid heq
  clear heq
  have hlt := HB.size
  have hxs : xs.length < 5864062014805 := by have := HLEN.out; omega
  by_cases h0 : ys.length = 0
  ·
   have hd : decide (0 < ys.length) = false := decide_eq_false (by omega)
   have hy : ys = [] := List.eq_nil_of_length_eq_zero h0
   have HE : Hid (linesOf l0 = xs) := by show linesAcc [] l0 = xs; rw [← HEQ.out, hy]; simp [linesAcc]
   clear h0 hy
   go_wp2
   (try rw [Exit.noGoto_ret])
   go_ret
   exact ⟨_, rfl, by rw [HE.out]; exact HO, HB⟩
  ·
   have hd : decide (0 < ys.length) = true := decide_eq_true (by omega)
   have hpos : 0 < ys.length := by omega
   clear h0
   go_wp2
   go_loop [3, 4, 5, 6, 13] (fun v3 v4 _ _ v13 => ∃ i : Nat, v4 = .slice A ys.length c ∧ Aside0 (Kd.R k39 39 wr w.heap.size (fun _ => True) v3 xs) ∧ v13 = .int .i64 i ∧ i ≤ ys.length ∧ Aside0 (∀ j : Nat, j < i → rd ys j ≠ 10)) (fun _ _ _ _ v13 => ys.length - (intOf v13).toNat)
   case atStart => exact ⟨0, rfl, ⟨HO⟩, rfl, by omega, ⟨fun j hj => absurd hj (by omega)⟩⟩
   case round =>
    obtain ⟨i, rfl, HO', rfl, hi, hnl⟩ := hrel
    have HO := HO'.out
    clear HO'
    by_cases hlt2 : i < ys.length
    ·
     have hd2 : decide (i < ys.length) = true := by simpa using hlt2
     obtain ⟨ad, rfl, hcell⟩ := Kd.at_int HY (i : Int) (by omega) (by omega)
     rw [Int.toNat_natCast] at hcell
     replace hcell := (HB.cell (World.block_lt_of_cell? w _ hcell)).trans hcell
     have hib : (i : Int) + 1 < 5864062014806 := by have := HLEN.out; omega
     have hib2 : (i : Int) + 1 ≤ ys.length := by omega
     have hib3 : (i : Int) + 1 ≤ c := by omega
     by_cases h10 : rd ys (i : Int) = 10
     ·
      have hc10 : (rd ys (i : Int) == 10) = true := by simpa using h10
      have hp := (lines_piece (some ad) c ys i hlt2 hyc).1
      have HP := Lib.hid ((lines_piece (some ad) c ys i hlt2 hyc).2 w HY)
      have HR' := Lib.hid (lines_rest ad c ys i hlt2 hyc w HY)
      have hconv : (convert 43 9 (.slice (some ad) i i)).run Tryd.prog wr = .ok (.string (strOfNums (ys.take i))) wr := Kd.C_string Tryd.underlying43 Tryd.underlying5 Tryd.underlying9 (Kd.C_below HP.out HB)
      have H10 := Lib.hid h10
      clear h10
      go_wp2_with (first | ((with_reducible refine gate_builtin (b := .append) (xs := #[.tmp 20, .tmp 27]) rfl ?_); at_builtin; refine Kd.R_append k39 (w0 := w) w.heap.size rfl (.tmp 20) (.tmp 27) 68 39 (.agg #[(.string ⟨#[]⟩), (.bool false)]) 24 rfl Tryd.underlying68 info39 rfl (by decide) (by omega) _ xs (⟨strOfNums (ys.take i), false⟩ : S39) [.string (strOfNums (ys.take i)), .bool false] (fun _ => True) (fun _ => False) rfl rfl (k39_mkM _ _ _ (⟨strOfNums (ys.take i), false⟩ : S39)) (fun _ hk => hk.elim) (fun _ _ => trivial) HO HB hlt (by omega) ?_; intro v1 w1 ho1 hb1 hg1 hat1; clear hconv hcell))
      go_roundw
      case rel => exact ⟨_, ys.drop (i + 1), _, c - (i + 1), by rw [List.length_drop]; simp [Addr.add], HR'.out, by rw [List.length_drop]; omega, ho1, hb1, by rw [List.append_assoc, ← HEQ.out, lines_cut ys i hlt2 hnl.out H10.out]; rfl, by simp; omega⟩
      case measure => show ys.length - _ < ys.length; omega
     ·
      have hc10 : (rd ys (i : Int) == 10) = false := by simpa using h10
      go_wp2
      go_round
      case rel => exact ⟨i + 1, rfl, ⟨HO⟩, by go_num, by omega, ⟨fun j hj => by
       by_cases e : j = i
       ·
        subst e; exact h10
       ·
        exact hnl.out j (by omega)⟩⟩
      case measure => simp [intOf]; omega
    ·
     have hd2 : decide (i < ys.length) = false := by simpa using hlt2
     obtain rfl : i = ys.length := by omega
     have hconv : (convert 43 9 (.slice A ys.length c)).run Tryd.prog wr = .ok (.string (strOfNums ys)) wr := Kd.C_string Tryd.underlying43 Tryd.underlying5 Tryd.underlying9 (Kd.C_below HY HB)
     have HE : Hid (linesOf l0 = xs ++ [(⟨strOfNums ys, true⟩ : S39)]) := by
      show linesAcc [] l0 = _
      rw [← HEQ.out, lines_end ys (by intro e; rw [e] at hpos; simp at hpos) hnl.out]
     go_wp2_with (first | ((with_reducible refine gate_builtin (b := .append) (xs := #[.tmp 34, .tmp 38]) rfl ?_); at_builtin; refine Kd.R_append k39 (w0 := w) w.heap.size rfl (.tmp 34) (.tmp 38) 68 39 (.agg #[(.string ⟨#[]⟩), (.bool false)]) 24 rfl Tryd.underlying68 info39 rfl (by decide) (by omega) _ xs (⟨strOfNums ys, true⟩ : S39) [.string (strOfNums ys), .bool true] (fun _ => True) (fun _ => False) rfl rfl (k39_mkM _ _ _ (⟨strOfNums ys, true⟩ : S39)) (fun _ hk => hk.elim) (fun _ _ => trivial) HO HB hlt (by omega) ?_; intro v1 w1 ho1 hb1 hg1 hat1; clear hconv))
     (try rw [Exit.noGoto_ret])
     go_ret
     exact ⟨_, rfl, by rw [HE.out]; exact ho1, hb1⟩
end Go.Proofs.YthppicgolkpbaaaDoor.P

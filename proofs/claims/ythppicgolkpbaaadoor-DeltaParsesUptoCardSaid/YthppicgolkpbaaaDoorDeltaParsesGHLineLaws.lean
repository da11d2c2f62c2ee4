/- what this claim needs of the words and the printed functions; conditions: as each statement says -/
import Derived.Test.YthppicgolkpbaaaDoorDeltaParsesPx0
import Derived.Test.YthppicgolkpbaaaDoorDeltaParsesGHLines
import Derived.Lib.Hide
import Derived.Test.YthppicgolkpbaaaDoorDeltaParsesGHDLines
namespace Go.Proofs.YthppicgolkpbaaaDoor.P
open Go.RowKit Go.Proofs.YthppicgolkpbaaaDoorW.PrintWords Go.Proofs.YthppicgolkpbaaaDoorW.PrintLast Go.Proofs.YthppicgolkpbaaaDoorW.PrintMore
set_option linter.unusedVariables false
set_option linter.unusedSimpArgs false
def jalousieref01_Lines.f (l : List Int) : Option (List S39) := if l.length < 5864062014805 then some (linesOf l) else none
theorem strOfNums_snoc (a b : List Int) : strOfNums a ++ strOfNums b = strOfNums (a ++ b) := by
 unfold strOfNums
 apply ByteArray.ext
 simp
theorem take_drop_one (l : List Int) (i : Nat) (h : i < l.length) : (l.take (i + 1)).drop i = [rd l (i : Int)] := by
 rw [List.drop_take, show i + 1 - i = 1 by omega, List.drop_eq_getElem_cons h]
 rw [show rd l (i : Int) = l[i] by simp [rd, List.getD_eq_getElem?_getD, h]]
 rfl
theorem lines_next (cur l : List Int) (i : Nat) (h : i < l.length) : linesAcc cur (l.drop i) = if rd l (i : Int) = 10 then ⟨strOfNums cur, false⟩ :: linesAcc [] (l.drop (i + 1)) else linesAcc (cur ++ [rd l (i : Int)]) (l.drop (i + 1)) := by
 rw [List.drop_eq_getElem_cons h]
 have : l[i] = rd l (i : Int) := by simp [rd, List.getD_eq_getElem?_getD, h]
 rw [this]; rfl
def RefLinesRel (w : World) (l : List Int) (v3 v4 v5 v6 : Value) (w' : World) : Prop := ∃ (xs : List S39) (cur : List Int) (i : Nat), v4 = .string (strOfNums cur) ∧ v5 = .bool (!cur.isEmpty) ∧ v6 = .int .i64 i ∧ i ≤ l.length ∧
 Kd.R k39 39 w' w.heap.size (fun _ => True) v3 xs ∧ Below w.heap.size w w' ∧ xs ++ linesAcc cur (l.drop i) = linesAcc [] l ∧ xs.length ≤ i ∧ cur.length ≤ i
set_option maxHeartbeats 4000000 in
set_option maxRecDepth 100000 in
theorem jalousieref01_Lines.calls (A0 : Option Addr) (c0 : Nat) (l0 : List Int) (r : List S39) (w : World) (hr0 : Kd.C (Kd.int .u8) w A0 l0.length l0) (hc0 : l0.length ≤ c0) (h : jalousieref01_Lines.f l0 = some r) :
  Calls Tryd.prog 36 #[.slice A0 l0.length c0] w fun e w' => ∃ v0_ : Value, e = .returned v0_ ∧ Kd.R k39 39 w' w.heap.size (fun _ => True) v0_ r ∧ Below w.heap.size w w' := by
 have hlen : l0.length < 5864062014805 := by
  by_cases hl : l0.length < 5864062014805
  ·
   exact hl
  ·
   rw [jalousieref01_Lines.f, if_neg hl] at h; cases h
 rw [jalousieref01_Lines.f, if_pos hlen] at h
 obtain rfl := Option.some.inj h
 clear h
 have hu39 := Tryd.underlying39
 have HLEN := Lib.hid hlen
 clear hlen
 go_enter Tryd.func36, Tryd.ntmps36
 go_wp2_with ((with_reducible refine gate_dst (N := 7) rfl ?_); refine Kd.R_lit k39 _ 39 ?hg (N := 7) ?hd (xs := ([] : List S39)) (inner := []) (ok := fun _ => True) (okp := fun _ => True) ?hr ?hp (fun _ hk => hk) trivial (Below.refl _ _) (Nat.le_refl _) (by simp) ?_; (case hd => rfl); (case hg => rfl); (case hr => first | (go_simp; done) | (go_simp; rfl)); (case hp => exact (Reps.none _ _)); intro v1 w2 ho3 hb hg_ hnew_; clear hg_ hnew_)
 go_loopw [3, 4, 5, 6] (fun v3 v4 v5 v6 w' => RefLinesRel w l0 v3 v4 v5 v6 w') (fun _ _ _ v6 _ => l0.length - (intOf v6).toNat)
 case atStart => exact ⟨[], [], 0, rfl, rfl, rfl, by omega, ho3, hb, rfl, by simp, by simp⟩
 case round =>
  obtain ⟨xs, cur, i, rfl, rfl, rfl, hi, HO, HB, heq, hxi, hci⟩ := hrel
  have HEQ := Lib.hid heq
  clear heq ho3 hb
  have hlt := HB.size
  have hxs : xs.length < 5864062014805 := by have := HLEN.out; omega
  by_cases hlt2 : i < l0.length
  ·
   have hd2 : decide (i < l0.length) = true := by simpa using hlt2
   have hib : (i : Int) + 1 < 5864062014806 := by have := HLEN.out; omega
   have hib2 : (i : Int) + 1 ≤ l0.length := by omega
   have hib3 : (i : Int) + 1 ≤ c0 := by omega
   obtain ⟨ad, rfl, hcell⟩ := Kd.at_int hr0 (i : Int) (by omega) (by omega)
   rw [Int.toNat_natCast] at hcell
   replace hcell := (HB.cell (World.block_lt_of_cell? w _ hcell)).trans hcell
   have HN := Lib.hid (lines_next cur l0 i hlt2)
   by_cases h10 : rd l0 (i : Int) = 10
   ·
    have hc10 : (rd l0 (i : Int) == 10) = true := by simpa using h10
    have H10 := Lib.hid h10
    clear h10
    go_wp2_with ((with_reducible refine gate_builtin (b := .append) (xs := #[.tmp 19, .tmp 22]) rfl ?_); at_builtin; refine Kd.R_append k39 (w0 := w) w.heap.size rfl (.tmp 19) (.tmp 22) 68 39 (.agg #[(.string ⟨#[]⟩), (.bool false)]) 24 rfl Tryd.underlying68 info39 rfl (by decide) (by omega) _ xs (⟨strOfNums cur, false⟩ : S39) [.string (strOfNums cur), .bool false] (fun _ => True) (fun _ => False) rfl rfl (k39_mkM _ _ _ (⟨strOfNums cur, false⟩ : S39)) (fun _ hk => hk.elim) (fun _ _ => trivial) HO HB hlt (by omega) ?_; intro v1 w1 ho1 hb1 hg1 hat1; clear hcell)
    go_roundw
    case rel => exact ⟨_, [], i + 1, rfl, rfl, by go_num, by omega, ho1, hb1, by rw [List.append_assoc, ← HEQ.out, HN.out, if_pos H10.out]; rfl, by simp; omega, by simp⟩
    case measure => simp [intOf]; omega
   ·
    have hc10 : (rd l0 (i : Int) == 10) = false := by simpa using h10
    obtain ⟨i0, hi0, _, hsz, _⟩ := info_parts info5
    obtain ⟨A', hcut, hA, hC⟩ := print_mid_of (P := Tryd.prog) (Value.int .u8) 0 43 5 .i64 .i64 Tryd.underlying43 hi0 hsz (some ad) c0 l0 (i : Int) ((i : Int) + 1) (by omega) (by omega) (by omega) hc0
    have e1 : ((i : Int) + 1).toNat = i + 1 := by omega
    rw [e1, Int.toNat_natCast, take_drop_one l0 i hlt2] at hcut hA hC
    have hconv : ∀ c, (convert 43 9 (.slice A' 1 c)).run Tryd.prog wr = .ok (.string (strOfNums [rd l0 (i : Int)])) wr := fun c => Kd.C_string Tryd.underlying43 Tryd.underlying5 Tryd.underlying9 (Kd.C_below (Kd.C_of_reads (h1 := fun _ => rfl) (hA w (Kd.reads_of_C hr0))) HB)
    have hbig : (9223372036854775807 < (strOfNums cur).size + (strOfNums [rd l0 (i : Int)]).size) = False := eq_false (by rw [strOfNums_size, strOfNums_size]; simp; omega)
    have H10 := Lib.hid h10
    clear h10 e1 hA hC hsz hi0
    go_wp2
    go_roundw
    case rel => exact ⟨xs, cur ++ [rd l0 (i : Int)], i + 1, by rw [strOfNums_snoc], by simp, by go_num, by omega, HO, HB, by rw [← HEQ.out, HN.out, if_neg H10.out], by omega, by simp; omega⟩
    case measure => simp [intOf]; omega
  ·
   have hd2 : decide (i < l0.length) = false := by simpa using hlt2
   obtain rfl : i = l0.length := by omega
   cases hcur : cur with
   | nil =>
    subst hcur
    have HE : Hid (linesOf l0 = xs) := by show linesAcc [] l0 = xs; rw [← HEQ.out, List.drop_length]; simp [linesAcc]
    go_wp2
    go_ret
    exact ⟨_, rfl, by rw [HE.out]; exact HO, HB⟩
   | cons y ys =>
    have HE : Hid (linesOf l0 = xs ++ [(⟨strOfNums cur, true⟩ : S39)]) := by show linesAcc [] l0 = _; rw [← HEQ.out, List.drop_length]; simp [linesAcc, hcur]
    have hemp : cur.isEmpty = false := by rw [hcur]; rfl
    rw [← hcur, hemp]
    clear hcur
    go_wp2_with ((with_reducible refine gate_builtin (b := .append) (xs := #[.tmp 33, .tmp 36]) rfl ?_); at_builtin; refine Kd.R_append k39 (w0 := w) w.heap.size rfl (.tmp 33) (.tmp 36) 68 39 (.agg #[(.string ⟨#[]⟩), (.bool false)]) 24 rfl Tryd.underlying68 info39 rfl (by decide) (by omega) _ xs (⟨strOfNums cur, true⟩ : S39) [.string (strOfNums cur), .bool true] (fun _ => True) (fun _ => False) rfl rfl (k39_mkM _ _ _ (⟨strOfNums cur, true⟩ : S39)) (fun _ hk => hk.elim) (fun _ _ => trivial) HO HB hlt (by omega) ?_; intro v1 w1 ho1 hb1 hg1 hat1)
    go_ret
    exact ⟨_, rfl, by rw [HE.out]; exact ho1, hb1⟩
end Go.Proofs.YthppicgolkpbaaaDoor.P
namespace Go.Proofs.YthppicgolkpbaaaDoor.P
open Go.RowKit Go.Proofs.YthppicgolkpbaaaDoorW.PrintWords Go.Proofs.YthppicgolkpbaaaDoorW.PrintLast Go.Proofs.YthppicgolkpbaaaDoorW.PrintMore
set_option linter.unusedVariables false
set_option linter.unusedSimpArgs false
theorem indexByte_mem (c : UInt8) (l : List UInt8) : 0 ≤ Lib.indexByte l c ↔ c ∈ l := by
 constructor
 ·
  intro h
  obtain ⟨i, hi⟩ := Int.eq_ofNat_of_zero_le h
  exact List.mem_of_getElem? (Lib.indexByte_some hi).1
 ·
  intro h
  rcases indexByte_cases c l with ⟨h1, _⟩ | ⟨i, h1, _⟩
  ·
   exfalso
   obtain ⟨k, hk⟩ := List.getElem?_of_mem h
   exact Lib.indexByte_none h1 k hk
  ·
   omega
end Go.Proofs.YthppicgolkpbaaaDoor.P
namespace Go.Proofs.YthppicgolkpbaaaDoor.P
open Go.RowKit Go.Proofs.YthppicgolkpbaaaDoorW.PrintWords Go.Proofs.YthppicgolkpbaaaDoorW.PrintLast Go.Proofs.YthppicgolkpbaaaDoorW.PrintMore
set_option linter.unusedVariables false
set_option linter.unusedSimpArgs false
theorem linesAcc_le : ∀ (ys cur : List Int), (linesAcc cur ys).length ≤ ys.length + 1
 | [], cur => by unfold linesAcc; split <;> simp
 | c :: l, cur => by
  unfold linesAcc
  split
  ·
   have := linesAcc_le l []; simp only [List.length_cons]; omega
  ·
   have := linesAcc_le l (cur ++ [c]); simp only [List.length_cons]; omega
theorem linesOf_le (l : List Int) : (linesOf l).length ≤ l.length + 1 := linesAcc_le l []
theorem str_of_bytes (s : ByteArray) : strOfNums (bytesOf s) = s := by
 apply ByteArray.ext
 apply Array.toList_inj.1
 simp [strOfNums, bytesOf, Function.comp_def]
theorem str_join : ∀ (ys cur : List Int), strOfNums (joinOf (linesAcc cur ys)) = strOfNums (cur ++ ys)
 | [], cur => by
  unfold linesAcc
  split
  ·
   rename_i h; subst h; rfl
  ·
   simp [joinOf, nlOf, str_of_bytes]
 | c :: l, cur => by
  unfold linesAcc
  split
  ·
   rename_i h
   subst h
   simp only [joinOf, nlOf, if_neg (show ¬ (false = true) by decide)]
   rw [← strOfNums_snoc, ← strOfNums_snoc, str_of_bytes, str_join l [], strOfNums_snoc, strOfNums_snoc]
   simp
  ·
   rw [str_join l (cur ++ [c])]; simp
theorem back_join (l : List Int) : strOfNums (joinOf (linesOf l)) = strOfNums l := str_join l []
theorem lines_run : ∀ (a cur rest : List Int), (10 : Int) ∉ a → linesAcc cur (a ++ rest) = linesAcc (cur ++ a) rest
 | [], cur, rest, _ => by simp
 | x :: a, cur, rest, h => by
  have hx : x ≠ 10 := fun e => h (by simp [e])
  have ha : (10 : Int) ∉ a := fun e => h (by simp [e])
  rw [List.cons_append, linesAcc, if_neg hx, lines_run a _ rest ha, List.append_assoc]; rfl
theorem bytes_nl (s : ByteArray) (h : ¬ 0 ≤ Lib.indexByte s.data.toList 10) : (10 : Int) ∉ bytesOf s := by
 rw [indexByte_mem] at h
 intro hm
 simp only [bytesOf, List.mem_map] at hm
 obtain ⟨b, hb, e⟩ := hm
 apply h
 have : b = 10 := by apply UInt8.toNat_inj.1; have h3 : (10 : UInt8).toNat = 10 := rfl; rw [h3]; omega
 exact this ▸ hb
theorem lines_back : ∀ (l : List S39), rightOf l = true → linesOf (joinOf l) = l
 | [], _ => rfl
 | x :: l, h => by
  simp only [rightOf] at h
  by_cases h0 : 0 ≤ Lib.indexByte x.f0.data.toList 10
  ·
   rw [if_pos h0] at h; cases h
  rw [if_neg h0] at h
  have hb := bytes_nl x.f0 h0
  unfold linesOf joinOf
  rw [List.append_assoc, lines_run _ _ _ hb, List.nil_append]
  by_cases h1 : x.f1 = true
  ·
   rw [if_pos h1] at h
   by_cases h2 : l.isEmpty = true
   ·
    rw [if_pos h2] at h
    have hl : l = [] := List.isEmpty_iff.1 h2
    subst hl
    have h3 : x.f0.size ≠ 0 := by intro e; rw [if_pos e] at h; cases h
    simp only [nlOf, if_pos h1, joinOf]
    have h4 : bytesOf x.f0 ≠ [] := by intro e; apply h3; rw [← bytesOf_length, e]; rfl
    simp only [List.isEmpty_nil, if_true, List.append_nil, linesAcc, if_neg h4, str_of_bytes]
    rw [← h1]
   ·
    rw [if_neg h2] at h; cases h
  ·
   rw [if_neg h1] at h
   simp only [nlOf, if_neg h1, List.cons_append, List.nil_append, linesAcc, if_true, str_of_bytes]
   have := lines_back l h
   unfold linesOf at this
   rw [this]
   have h5 : x.f1 = false := by simpa using h1
   rw [← h5]
end Go.Proofs.YthppicgolkpbaaaDoor.P

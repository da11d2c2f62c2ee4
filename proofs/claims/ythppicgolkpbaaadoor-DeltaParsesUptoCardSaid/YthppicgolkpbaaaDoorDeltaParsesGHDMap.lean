/- what this claim needs of the words and the printed functions; conditions: as each statement says -/
import Derived.Test.YthppicgolkpbaaaDoorDeltaParsesGHBContains
import Derived.Test.YthppicgolkpbaaaDoorDeltaParsesPxDelta
import Derived.Test.YthppicgolkpbaaaDoorDeltaParsesGHLabelOf
import Derived.Maps.Own
import Derived.Maps.OwnOps
import Derived.Maps.Views
import Derived.WideKeyEntry
import Derived.DeepKeys4
namespace Go.Proofs.YthppicgolkpbaaaDoor.P
open Go.RowKit Go.Proofs.YthppicgolkpbaaaDoorW.PrintWords Go.Proofs.YthppicgolkpbaaaDoorW.PrintLast Go.Proofs.YthppicgolkpbaaaDoorW.PrintMore
set_option linter.unusedVariables false
set_option linter.unusedSimpArgs false
theorem ba_toList (a b : ByteArray) : (a.toList == b.toList) = (a.data.toList == b.data.toList) := by
 rw [Lib.toList_data, Lib.toList_data]
theorem hasPrefix_tells (s : ByteArray) (c : UInt8) (hs : s.size ≤ 140737488355328) : strings_HasPrefix.f s ⟨#[c]⟩ = some (beginsC s c) := by
 unfold strings_HasPrefix.f stringslite_HasPrefix.f
 have h1 : ((⟨#[c]⟩ : ByteArray).size : Int) = 1 := rfl
 rw [h1]
 by_cases h : (s.size : Int) ≥ 1
 ·
  rw [if_pos h, if_pos (by decide), if_pos (by omega), ba_toList]
  simp only [Option.bind_some, Option.some.injEq]
  unfold beginsC
  have hl : s.data.toList.length = s.size := data_length s
  have : (s.extract 0 (1 : Int).toNat).data.toList = s.data.toList.take 1 := by simp [ByteArray.extract, ByteArray.copySlice]
  rw [this]
  cases hd : s.data.toList with
  | nil => rw [hd] at hl; simp at hl; omega
  | cons b l => simp
 ·
  rw [if_neg h]
  simp only [Option.bind_some, Option.some.injEq]
  unfold beginsC
  have hl : s.data.toList.length = s.size := data_length s
  cases hd : s.data.toList with
  | nil => rfl
  | cons b l => rw [hd] at hl; simp at hl; omega
theorem hasSuffix_tells (s : ByteArray) (c : UInt8) (hs : s.size ≤ 140737488355328) : strings_HasSuffix.f s ⟨#[c]⟩ = some (endsC s c) := by
 unfold strings_HasSuffix.f stringslite_HasSuffix.f
 have h1 : ((⟨#[c]⟩ : ByteArray).size : Int) = 1 := rfl
 rw [h1]
 have hl : s.data.toList.length = s.size := data_length s
 by_cases h : (s.size : Int) ≥ 1
 ·
  have hw : wrap64 ((s.size : Int) - 1) = (s.size : Int) - 1 := w64 _ (by omega) (by omega)
  rw [if_pos h, hw, if_pos (by omega), if_pos (by omega), ba_toList]
  simp only [Option.bind_some, Option.some.injEq]
  unfold endsC
  have hn : ((s.size : Int) - 1).toNat = s.size - 1 := by omega
  have : (s.extract ((s.size : Int) - 1).toNat s.size).data.toList = s.data.toList.drop (s.size - 1) := by
   rw [hn, Lib.extract_to_end]
  rw [this]
  rcases List.eq_nil_or_concat s.data.toList with h0 | ⟨l, b, h0⟩
  ·
   rw [h0] at hl; simp at hl; omega
  ·
   rw [h0] at hl ⊢
   simp only [List.concat_eq_append, List.length_append, List.length_singleton] at hl
   rw [show s.size - 1 = l.length by omega]
   simp
 ·
  rw [if_neg h]
  simp only [Option.bind_some, Option.some.injEq]
  unfold endsC
  cases hd : s.data.toList with
  | nil => rfl
  | cons b l => rw [hd] at hl; simp at hl; omega
theorem taken_tells (s : ByteArray) (hs : s.size < 4294967281) : delta_taken.f 13 s = some (takenRes s) := by
 have hp : strings_SplitN.f s ⟨#[32]⟩ 5 = some (piecesOf s) := by
  unfold strings_SplitN.f
  rw [if_pos (show (⟨#[32]⟩ : ByteArray).size = 1 from rfl), if_pos (by decide), if_pos hs]
  rfl
 unfold delta_taken.f takenRes
 rw [hp]
 simp only [Option.bind_some]
 by_cases h5 : (piecesOf s).length < 5
 ·
  rw [if_pos (by omega), if_pos h5]
 rw [if_neg (by omega), if_neg h5, if_pos (by omega), show (1 : Int) = ((1 : Nat) : Int) from rfl, rd_wd, text_Number_tells]
 simp only [Option.bind_some]
 rw [if_pos (by omega), show (2 : Int) = ((2 : Nat) : Int) from rfl, rd_wd, label_Parse_tells _ (Nat.lt_of_le_of_lt (piece_size s 2) hs)]
 simp only [Option.bind_some]
 have h3 := piece_size s 3
 rw [if_pos (by omega), show (3 : Int) = ((3 : Nat) : Int) from rfl, rd_wd, hasPrefix_tells _ _ (by omega)]
 simp only [Option.bind_some]
 rw [if_pos (by omega), hasSuffix_tells _ _ (by omega)]
 simp only [Option.bind_some]
 rw [show (4 : Int) = ((4 : Nat) : Int) from rfl, rd_wd]
 cases hb : (numOf (wdOf (piecesOf s) 1)).2
 ·
  rw [if_neg (by decide)]; rfl
 ·
  rw [if_pos rfl]; rfl
theorem taken_said : TakenSaid := fun s w hT hs => delta_taken.calls 13 s _ _ _ _ _ _ _ w hT (taken_tells s hs)
end Go.Proofs.YthppicgolkpbaaaDoor.P
namespace Go.Proofs.YthppicgolkpbaaaDoor.P
open Go.RowKit Go.Proofs.YthppicgolkpbaaaDoorW.PrintWords Go.Proofs.YthppicgolkpbaaaDoorW.PrintLast Go.Proofs.YthppicgolkpbaaaDoorW.PrintMore
open Go.Maps (Keyed)
set_option linter.unusedVariables false
set_option linter.unusedSimpArgs false
def litsOf (x : S41) : List Lit := [.int .i64 x.f0, .int .i64 x.f1.f0, .int .u64 x.f1.f1, .bool x.f2, .string x.f3.f0.data.toList, .bool x.f3.f1]
def keyLit (x : S41) : Lit := .string (keyBytes (litsOf x))
def valOf (x : S41) : Value := .agg #[.int .i64 x.f0, .int .i64 x.f1.f0, .int .u64 x.f1.f1, .bool x.f2, .string x.f3.f0, .bool x.f3.f1]
def itemWf (x : S41) : Bool := (Lit.int .i64 x.f0).wf && (Lit.int .i64 x.f1.f0).wf && (Lit.int .u64 x.f1.f1).wf && decide (x.f3.f0.size ≤ maxLen)
theorem item_deep : Tryd.prog.keyTypeAt (Tryd.prog.types.size + 1) 41 = true := by kernel_rfl
set_option maxRecDepth 100000 in
theorem item_row : (41 : TypeId) < Tryd.prog.types.size := of_decide_eq_true (by kernel_rfl)
set_option maxRecDepth 100000 in
theorem item_out : laidOutB Tryd.prog = true := by kernel_rfl
theorem item_law : WideMaps.KeyLaw Tryd.prog 41 := deep_law_laid item_out (m := 5) (by omega) item_row (by kernel_rfl) (by rw [Tryd.underlying41])
theorem item_keyed : Keyed Tryd.prog 41 := Keyed.of_law item_law
theorem item_cells : Tryd.prog.cellsOf 41 = 6 := by kernel_rfl
theorem label_cells : Tryd.prog.cellsOf 37 = 2 := by kernel_rfl
theorem line_cells : Tryd.prog.cellsOf 39 = 2 := by kernel_rfl
theorem int_cells : Tryd.prog.cellsOf 3 = 1 := by kernel_rfl
theorem u64_cells : Tryd.prog.cellsOf 35 = 1 := by kernel_rfl
theorem bool_cells : Tryd.prog.cellsOf 4 = 1 := by kernel_rfl
theorem str_cells : Tryd.prog.cellsOf 9 = 1 := by kernel_rfl
theorem kl_int (d : Nat) (a : Int) (h : (Lit.int .i64 a).wf = true) : Tryd.prog.keyLits (d + 1) 3 [.int .i64 a] = some [.int .i64 a] := by
 (unfold Program.keyLits; rw [Tryd.underlying3])
 simp [h]
theorem kl_u64 (d : Nat) (a : Int) (h : (Lit.int .u64 a).wf = true) : Tryd.prog.keyLits (d + 1) 35 [.int .u64 a] = some [.int .u64 a] := by
 (unfold Program.keyLits; rw [Tryd.underlying35])
 simp [h]
theorem kl_bool (d : Nat) (a : Bool) : Tryd.prog.keyLits (d + 1) 4 [.bool a] = some [.bool a] := by
 (unfold Program.keyLits; rw [Tryd.underlying4])
theorem kl_str (d : Nat) (a : ByteArray) (h : a.size ≤ maxLen) : Tryd.prog.keyLits (d + 1) 9 [.string a] = some [.string a.data.toList] := by
 (unfold Program.keyLits; rw [Tryd.underlying9])
 simp [h]
theorem kl_label (d : Nat) (a b : Int) (h : (Lit.int .i64 a).wf = true) (k : (Lit.int .u64 b).wf = true) : Tryd.prog.keyLits (d + 2) 37 [.int .i64 a, .int .u64 b] = some [.int .i64 a, .int .u64 b] := by
 (unfold Program.keyLits; rw [Tryd.underlying37])
 simp only []
 rw [if_pos ⟨by rw [label_cells]; rfl, by kernel_rfl⟩]
 simp [int_cells, u64_cells, kl_int d a h, kl_u64 d b k]
theorem kl_line (d : Nat) (a : ByteArray) (b : Bool) (h : a.size ≤ maxLen) : Tryd.prog.keyLits (d + 2) 39 [.string a, .bool b] = some [.string a.data.toList, .bool b] := by
 (unfold Program.keyLits; rw [Tryd.underlying39])
 simp only []
 rw [if_pos ⟨by rw [line_cells]; rfl, by kernel_rfl⟩]
 simp [str_cells, bool_cells, kl_str d a h, kl_bool d b]
theorem key_item (x : S41) (h : itemWf x = true) : keyOf Tryd.prog 41 (valOf x) = some (keyLit x) := by
 have hk : Tryd.prog.keyType 41 = true := item_deep
 have hf : (valOf x).formed Tryd.prog 41 = true := by
  simp only [valOf, Value.formed, Tryd.underlying41, item_cells]
  rfl
 unfold itemWf at h
 simp only [Bool.and_eq_true, decide_eq_true_eq] at h
 obtain ⟨⟨⟨h1, h2⟩, h3⟩, h4⟩ := h
 have hl : Tryd.prog.keyLits (Tryd.prog.types.size + 1) 41 (valOf x).cells.toList = some (litsOf x) := by
  obtain ⟨m, hm⟩ : ∃ m, Tryd.prog.types.size + 1 = m + 3 := ⟨Tryd.prog.types.size - 2, by have : 41 < Tryd.prog.types.size := item_row; omega⟩
  rw [hm]; (unfold Program.keyLits; rw [Tryd.underlying41])
  simp only []
  rw [if_pos ⟨by rw [item_cells]; rfl, by kernel_rfl⟩]
  have e1 := kl_int (m + 1) x.f0 h1
  have e2 := kl_label m x.f1.f0 x.f1.f1 h2 h3
  have e3 := kl_bool (m + 1) x.f2
  have e4 := kl_line m x.f3.f0 x.f3.f1 h4
  simp [valOf, Value.cells, litsOf, int_cells, label_cells, line_cells, bool_cells, e1, e2, e3, e4]
 unfold keyOf
 rw [Tryd.underlying41]
 simp only []
 rw [hk, hf, if_pos (show (true && true) = true from rfl), hl]
 rfl
def eqIt (x y : S41) : Bool := x.f0 == y.f0 && ((x.f1.f0 == y.f1.f0 && (x.f1.f1 == y.f1.f1)) && (x.f2 == y.f2 && ((x.f3.f0.toList == y.f3.f0.toList && (x.f3.f1 == y.f3.f1)))))
theorem ba_inj {a b : ByteArray} (h : a.data.toList = b.data.toList) : a = b := by
 cases a; cases b
 simp only [ByteArray.mk.injEq]
 exact Array.toList_inj.1 h
theorem eqIt_iff (x y : S41) : eqIt x y = true ↔ x = y := by
 unfold eqIt
 simp only [Bool.and_eq_true, beq_iff_eq]
 constructor
 ·
  rintro ⟨h0, ⟨h1, h2⟩, h3, h4, h5⟩
  obtain ⟨a, ⟨b1, b2⟩, c, ⟨d1, d2⟩⟩ := x
  obtain ⟨a', ⟨b1', b2'⟩, c', ⟨d1', d2'⟩⟩ := y
  simp only at h0 h1 h2 h3 h4 h5
  have e : d1 = d1' := by
   apply ba_inj
   rw [← toList_data, ← toList_data]
   exact h4
  subst h0 h1 h2 h3 h5 e
  rfl
 ·
  rintro rfl
  exact ⟨rfl, ⟨rfl, rfl⟩, rfl, rfl, rfl⟩
def cntIt (l : List S41) (x : S41) : Int := ((l.filter (eqIt x)).length : Int)
theorem valOf_inj {x y : S41} (h : valOf x = valOf y) : x = y := by
 obtain ⟨a, ⟨b1, b2⟩, c, ⟨d1, d2⟩⟩ := x
 obtain ⟨a', ⟨b1', b2'⟩, c', ⟨d1', d2'⟩⟩ := y
 unfold valOf at h
 simp only [Value.agg.injEq, Array.mk.injEq, List.cons.injEq, Value.int.injEq, Value.bool.injEq, Value.string.injEq, true_and, and_true] at h
 obtain ⟨rfl, rfl, rfl, rfl, rfl, rfl⟩ := h
 rfl
theorem keyLit_ne {x y : S41} (hx : itemWf x = true) (hy : itemWf y = true) (h : ¬ x = y) : keyLit x ≠ keyLit y := fun e =>
 h (valOf_inj (item_law.inj (key_item x hx) (by rw [e]; exact key_item y hy)))
def CntMap (w : World) (b n : Nat) (f : S41 → Int) : Prop :=
 ∃ D : DataW Unit, w.ownsMap Tryd.prog 41 (plainElem Tryd.prog 3) b n D ∧ ∀ x, itemWf x = true → D.atKey (keyLit x) (.lit (.int .i64 0)) = .lit (.int .i64 (f x))
theorem zero_int (w : World) : (zeroValue 3).run Tryd.prog w = .ok (.int .i64 0) w := by kernel_rfl
theorem CntMap.kept {w w' : World} {b n : Nat} {f : S41 → Int} {row : Option Nat} (h : CntMap w b n f) (hg : w.grownBy w' row) (hne : some b ≠ row) : CntMap w' b n f := by
 obtain ⟨D, ho, hf⟩ := h
 exact ⟨D, ho.kept hg hne, hf⟩
theorem CntMap.lt {w : World} {b n : Nat} {f : S41 → Int} (h : CntMap w b n f) : b < w.heap.size := by
 obtain ⟨D, ho, hf⟩ := h
 exact ho.lt
theorem CntMap.below {w w' : World} {b n : Nat} {f : S41 → Int} (h : CntMap w b n f) (hb : Below w.heap.size w w') : CntMap w' b n f := h.kept (grown_of_below hb none) (by simp)
theorem CntMap.drew {w : World} {b n : Nat} {f : S41 → Int} (h : CntMap w b n f) : CntMap w.drew b n f := h
theorem CntMap.made (w : World) : CntMap (w.alloc (.map #[] 0)) w.heap.size 0 (fun _ => 0) := ⟨.map [], World.ownsMap_made _ _ _ _, fun _ _ => rfl⟩
theorem cnt_lookup {w : World} {b n : Nat} {f : S41 → Int} (h : CntMap w b n f) (x : S41) (hx : itemWf x = true) : (Instr.lookup 52 (.map (some b)) (valOf x) false).run Tryd.prog w = .ok (.int .i64 (f x)) w := by
 obtain ⟨D, ho, hf⟩ := h
 obtain ⟨c, hrun, hat, _⟩ := ho.lookup_int item_keyed Tryd.underlying52 Tryd.underlying3 (zero_int w) (key_item x hx)
 rw [hf x hx] at hat
 simp only [DataW.lit.injEq, Lit.int.injEq, true_and] at hat
 rw [hrun, hat]
theorem CntMap.isMap {w : World} {b n : Nat} {D : DataW Unit} (h : w.ownsMap Tryd.prog 41 (plainElem Tryd.prog 3) b n D) : ∃ es, D = .map es := by
 obtain ⟨es, clock, _, _, _, rfl⟩ := h
 exact ⟨_, rfl⟩
theorem cnt_update {w : World} {b n : Nat} {f : S41 → Int} (h : CntMap w b n f) (hn : n < maxLen) (x : S41) (hx : itemWf x = true) (v : Int) (hv : (Lit.int .i64 v).wf = true) :
  ∃ w', (Instr.mapUpdate 52 (.map (some b)) (valOf x) (.int .i64 v)).run Tryd.prog w = .ok () w' ∧ CntMap w' b (n + 1) (fun y => if eqIt y x = true then v else f y) ∧ w.grownBy w' (some b) := by
 obtain ⟨D, ho, hf⟩ := h
 obtain ⟨w', hrun, ho', hg⟩ := ho.update item_keyed Tryd.underlying52 hn (key_item x hx) (plainElem_int Tryd.underlying3 hv)
 refine ⟨w', hrun, ⟨_, ho', fun y hy => ?_⟩, hg⟩
 obtain ⟨es, rfl⟩ := CntMap.isMap ho
 by_cases e : y = x
 ·
  subst e
  show _ = DataW.lit (Lit.int IntKind.i64 (if eqIt y y = true then v else f y))
  rw [if_pos ((eqIt_iff _ _).2 rfl)]
  exact Go.Maps.atKey_put_same ⟨es, rfl⟩ (item_keyed.key (key_item y hy)) _ _
 ·
  show _ = DataW.lit (Lit.int IntKind.i64 (if eqIt y x = true then v else f y))
  rw [if_neg (fun h => e ((eqIt_iff _ _).1 h))]
  rw [Go.Maps.atKey_put_other (keyLit_ne hy hx e)]
  exact hf y hy
section
open Go.ChangeMaps Go.MapKept Go.WideElems
theorem set_set_self {α : Type} (a : Array α) (i : Nat) (x y : α) : (a.setIfInBounds i x).setIfInBounds i y = a.setIfInBounds i y := by
 apply Array.ext'
 simp
theorem setBlock_twice (w : World) (b : Nat) (o o' : Obj) : setBlock (setBlock w b o) b o' = setBlock w b o' := by
 unfold setBlock
 simp only [set_set_self]
theorem setBlock_same {w : World} {b : Nat} {o : Obj} (h : w.heap[b]? = some o) : setBlock w b o = w := by
 unfold setBlock
 have : w.heap.setIfInBounds b o = w.heap := by
  apply Array.ext'
  rw [Array.toList_setIfInBounds]
  apply List.ext_getElem?
  intro i
  by_cases e : b = i
  ·
   subst e
   have h2 : w.heap.toList[b]? = some o := by simpa using h
   have h3 : b < w.heap.toList.length := (List.getElem?_eq_some_iff.1 h2).1
   rw [List.getElem?_set_self h3, h2]
  ·
   rw [List.getElem?_set_ne e]
 rw [this]
set_option maxRecDepth 100000 in
theorem cnt_region {w : World} {b n : Nat} {f : S41 → Int} (h : CntMap w b n f) (hn : n < maxLen) (x : S41) (hx : itemWf x = true) (v : Int) (hv : (Lit.int .i64 v).wf = true) :
  ∃ (st : Nat) (w2 w3 : World), (Instr.lookup 52 (.map (some b)) (valOf x) false).run Tryd.prog w = .ok (.int .i64 (f x)) w ∧
   (Instr.mapEntry 52 (.map (some b)) (valOf x)).run Tryd.prog w = .ok (.tuple #[.int .i64 (f x), .int .i64 st]) w2 ∧
   (Instr.lookup 52 (.map (some b)) (valOf x) false).run Tryd.prog w2 = .ok (.int .i64 (f x)) w2 ∧
   (Instr.entryStore 52 (.map (some b)) (.int .i64 st) (.int .i64 v)).run Tryd.prog w2 = .ok () w3 ∧
   CntMap w3 b (n + 1) (fun y => if eqIt y x = true then v else f y) ∧ w.grownBy w3 (some b) := by
 have h0 := cnt_lookup h x hx
 obtain ⟨w3, hupd, hc3, hg3⟩ := cnt_update h hn x hx v hv
 have hcopy := h
 obtain ⟨D, ⟨es, clock, hb, F, hs, hD⟩, hf⟩ := h
 obtain ⟨v0, st, es1, clock1, hent, hcase, hstore⟩ := entry_then_store item_law Tryd.underlying52 (z := .int .i64 0) zero_int hb F (key_item x hx)
 have hb1 : (setBlock w b (.map es1 clock1)).heap[b]? = some (.map es1 clock1) := heap_setBlock_same hb _
 obtain ⟨es', clock', hst, hup2⟩ := hstore (setBlock w b (.map es1 clock1)) (.int .i64 v) hb1
 rw [setBlock_twice] at hst
 have e3 : w3 = setBlock w b (.map es' clock') := by
  have := hupd.symm.trans hup2
  injection this
 have hz : (Lit.int .i64 0).wf = true := by decide
 have key : v0 = .int .i64 (f x) ∧ ∃ n', CntMap (setBlock w b (.map es1 clock1)) b n' f := by
  rcases item_keyed.find w (key_item x hx) es.toList F.keys with ⟨h1, h2⟩ | ⟨j, e0, h1, h2, h3⟩
  ·
   have hent2 : (Instr.mapEntry 52 (.map (some b)) (valOf x)).run Tryd.prog w = .ok (.tuple #[.int .i64 0, goInt clock]) (setBlock w b (.map (es.push ⟨valOf x, .int .i64 0, clock⟩) (clock + 1))) := by
    simp [Instr.mapEntry, run_underlying Tryd.underlying52, MapKept.run_getObj_map hb, item_law.check w false (key_item x hx), h1, zero_int, MapKept.run_setObj_map _ hb, Result.andThen, setBlock]
   have hlk : (Instr.lookup 52 (.map (some b)) (valOf x) false).run Tryd.prog w = .ok (.int .i64 0) w := by
    simp [Instr.lookup, run_underlying Tryd.underlying52, MapKept.run_getObj_map hb, item_law.check w es.isEmpty (key_item x hx), h1, zero_int, Result.andThen]
   have hfx : f x = 0 := by
    have := h0.symm.trans hlk
    injection this with this
    injection this
   obtain ⟨wz, hupz, hcz, _⟩ := cnt_update hcopy hn x hx 0 hz
   have hupz2 : (Instr.mapUpdate 52 (.map (some b)) (valOf x) (.int .i64 0)).run Tryd.prog w = .ok () (setBlock w b (.map (es.push ⟨valOf x, .int .i64 0, clock⟩) (clock + 1))) := by
    simp [Instr.mapUpdate, run_underlying Tryd.underlying52, MapKept.run_getObj_map hb, item_law.check w false (key_item x hx), h1, MapKept.run_setObj_map _ hb, Result.andThen, setBlock]
   have ez : wz = setBlock w b (.map (es.push ⟨valOf x, .int .i64 0, clock⟩) (clock + 1)) := by
    have := hupz.symm.trans hupz2
    injection this
   have ee := hent.symm.trans hent2
   injection ee with ee1 ee2
   injection ee1 with ee1
   have ev : v0 = .int .i64 0 := by
    have := congrArg (fun a => a[0]?) ee1
    simpa using this
   refine ⟨by rw [ev, hfx], n + 1, ?_⟩
   rw [ee2, ← ez]
   have hfe : (fun y => if eqIt y x = true then (0 : Int) else f y) = f := by
    funext y
    by_cases e : eqIt y x = true
    ·
     rw [if_pos e, (eqIt_iff _ _).1 e, hfx]
    ·
     rw [if_neg e]
   rw [hfe] at hcz
   exact hcz
  ·
   have hj : es[j]? = some e0 := by simpa using h2
   have hsame : es.modify j (fun e => { e with key := valOf x }) = es := by
    apply Array.ext'
    rw [Array.toList_modify, modify_eq_set _ _ _ _ h2]
    have : ({ e0 with key := valOf x } : MapEntry) = e0 := by rw [← h3]
    rw [this]
    exact set_self _ _ _ h2
   have hent2 : (Instr.mapEntry 52 (.map (some b)) (valOf x)).run Tryd.prog w = .ok (.tuple #[e0.val, goInt e0.born]) (setBlock w b (.map es clock)) := by
    simp [Instr.mapEntry, run_underlying Tryd.underlying52, MapKept.run_getObj_map hb, item_law.check w false (key_item x hx), h1, hj, h3, item_law.stays w (key_item x hx), hsame, MapKept.run_setObj_map _ hb, Result.andThen, setBlock]
   have hlk : (Instr.lookup 52 (.map (some b)) (valOf x) false).run Tryd.prog w = .ok e0.val w := by
    simp [Instr.lookup, run_underlying Tryd.underlying52, MapKept.run_getObj_map hb, item_law.check w es.isEmpty (key_item x hx), h1, zero_int, Result.andThen]
   have hfx : e0.val = .int .i64 (f x) := by
    have := hlk.symm.trans h0
    injection this
   have ee := hent.symm.trans hent2
   injection ee with ee1 ee2
   injection ee1 with ee1
   have ev : v0 = e0.val := by
    have := congrArg (fun a => a[0]?) ee1
    simpa using this
   refine ⟨by rw [ev, hfx], n, ?_⟩
   rw [ee2, setBlock_same hb]
   exact hcopy
 obtain ⟨rfl, n', hc2⟩ := key
 exact ⟨st, _, w3, h0, hent, cnt_lookup hc2 x hx, by rw [e3]; exact hst, hc3, hg3⟩
end
end Go.Proofs.YthppicgolkpbaaaDoor.P

/- what is appended to bytes that were made of a string -/
import Derived.Test.YthaimkdnddmokaaDoorWireParsesGHTabs
import Derived.Lib.ConvBytes
import Derived.Laws.IdiomCopy
import Derived.ArgAppend
namespace Go.Proofs.YthaimkdnddmokaaDoor.P
open Go.RowKit Go.Proofs.YthaimkdnddmokaaDoorW.PrintWords Go.Proofs.YthaimkdnddmokaaDoorW.PrintLast Go.Proofs.YthaimkdnddmokaaDoorW.PrintMore
set_option linter.unusedVariables false
set_option linter.unusedSimpArgs false
theorem news_of {w : World} {A : Option Addr} {m : Nat} {ys : List Int} (h : Kd.C (Kd.int .u8) w A m ys) (ad : Addr) (e : A = some ad) : ∀ j u, (nums .u8 ys)[j]? = some u → w.cell? (ad.add j) = some u := by
  intro j u hu
  obtain ⟨h1, _, h3⟩ := Kd.reads_of_C (enc := Value.int .u8) (d := (0 : Int)) (h1 := fun _ => rfl) h
  have hj : j < ys.length := by
    have := (List.getElem?_eq_some_iff.1 hu).1
    simpa [nums] using this
  obtain ⟨ad', e', hc⟩ := h3 (by omega)
  rw [e] at e'
  obtain rfl := Option.some.inj e'
  rw [hc j (by omega)]
  rw [← hu]
  simp [nums, List.getD_eq_getElem?_getD, List.getElem?_eq_getElem hj]
theorem nums_len (ys : List Int) : (nums .u8 ys).length = ys.length := by simp [nums]
theorem nums_one (ys : List Int) : ∀ u ∈ nums .u8 ys, u.oneCell' = true := by
  intro u hu
  simp only [nums, List.mem_map] at hu
  obtain ⟨z, _, rfl⟩ := hu
  rfl
theorem C_of_cells {w : World} {g : Nat} {n : Nat} {xs : List Int} (hl : xs.length = n) (hn : n ≤ 9223372036854775807) (hc : ∀ j (h : j < xs.length), w.cell? ⟨g, j, none⟩ = some (.int .u8 xs[j])) : Kd.C (Kd.int .u8) w (some ⟨g, 0, none⟩) n xs := by
  refine Kd.C_of_reads (d := (0 : Int)) (h1 := fun _ => rfl) ⟨hl, hn, fun h => ⟨_, rfl, fun i hi => ?_⟩⟩
  have hi' : i < xs.length := by omega
  rw [add_plain, hc i hi']
  simp [List.getD_eq_getElem?_getD, List.getElem?_eq_getElem hi']
theorem below_cells (g : Nat) (vs : List Value) (o : Nat) (w : World) : Below g w (w.setCells g o vs) :=
  have h := setCells_same g vs o w
  ⟨h.1, h.2.1, h.2.2.1, Nat.le_of_eq h.2.2.2.symm, fun k hk => setCells_far vs o k (by omega)⟩
theorem bytesOf_eq (s : ByteArray) : bytesOf s = s.data.toList.map fun b => (b.toNat : Int) := rfl
/-- bytes made of a string, and more behind them: in their own block, or in a new one -/
theorem bytes_append {P : Program} {t ty e : TypeId} {i : TypeInfo} (ht : P.underlying t = some (.slice e)) (hi : P.info? e = some i) (hz : i.zero = some (.int .u8 0)) (hs1 : i.size = 1) (hb1 : i.bytes = 1)
    {W w : World} {s : ByteArray} {g : Nat} (hg : w.heap[g]? = some (.cells (Lib.bytesCells W e s) e ((Lib.bytesCells W e s).size, (Lib.bytesCells W e s).size + 1))) {A : Option Addr} {m c : Nat} {ys : List Int} (hr : Kd.C (Kd.int .u8) w A m ys) (hb : s.size + m ≤ 140737488355328) :
    ∃ A' c' w', (Builtin.append_ #[t, t] ty #[.slice (some ⟨g, 0, none⟩) s.size (grownCap W s.size 0 e), .slice A m c]).run P w = .ok (.slice A' (s.size + m) c') w' ∧ Kd.C (Kd.int .u8) w' A' (s.size + m) (bytesOf s ++ ys) ∧ s.size + m ≤ c' ∧ Below g w w' := by
  obtain ⟨hy, _, hy3⟩ := Kd.reads_of_C (enc := Value.int .u8) (d := (0 : Int)) (h1 := fun _ => rfl) hr
  have hge := grownCap_ge W s.size 0 e
  have hsz : (Lib.bytesCells W e s).size = grownCap W s.size 0 e := by
    unfold Lib.bytesCells
    rw [Array.size_append, Array.size_map, Array.size_replicate]
    have : s.data.size = s.size := rfl
    omega
  have hglt : g < w.heap.size := (Array.getElem?_eq_some_iff.1 hg).1
  have hcell : ∀ j, j < grownCap W s.size 0 e → (w.cell? ⟨g, j, none⟩).isSome = true := fun j hj => by
    unfold World.cell?
    rw [hg]
    simp [hsz, hj]
  have hfz : ∀ j, j < grownCap W s.size 0 e → w.frozen? ⟨g, j, none⟩ = false := fun j hj => by
    unfold World.frozen?
    rw [hg]
    simp only [hsz, Bool.and_eq_false_iff, decide_eq_false_iff_not]
    omega
  have hold : ∀ j (h : j < s.size), w.cell? ⟨g, j, none⟩ = some (.int .u8 ((s.data.toList[j]'(by rw [data_length]; exact h)).toNat : Int)) := fun j hj => by
    unfold World.cell?
    rw [hg]
    have h1 : j < s.data.size := hj
    simp [Lib.bytesCells, Array.getElem?_append, h1, hj]
  have hbl : (bytesOf s).length = s.size := bytesOf_length s
  rcases A with _ | ad
  · have hm : m = 0 := by
      rcases Nat.eq_zero_or_pos m with h0 | h0
      · exact h0
      · obtain ⟨ad, h, _⟩ := hy3 h0; cases h
    subst hm
    obtain rfl : ys = [] := List.eq_nil_of_length_eq_zero hy
    refine ⟨some ⟨g, 0, none⟩, grownCap W s.size 0 e, w, ?_, ?_, by omega, Below.refl _ _⟩
    · simp [Builtin.append_, run_underlying ht, sizeOf, typeInfo, hi, Builtin.lenOf, Builtin.firstCells, hge, storeCells]
    · refine C_of_cells (by simp [hbl]) (by omega) fun j hj => ?_
      have hj' : j < s.size := by simpa [hbl] using hj
      rw [hold j hj']
      simp [bytesOf_eq]
  · have hnews := news_of hr ad rfl
    by_cases hroom : s.size + m ≤ grownCap W s.size 0 e
    · refine ⟨some ⟨g, 0, none⟩, grownCap W s.size 0 e, w.setCells g (0 + s.size * i.size) (nums .u8 ys), ?_, ?_, hroom, below_cells g _ _ w⟩
      · refine run_append_room_cells w t ty e i ht hi g 0 s.size (grownCap W s.size 0 e) ad m c (nums .u8 ys) (by rw [nums_len, hs1, hy]; omega) hnews (nums_one ys) hroom (fun j hj => ?_) (fun j hj => ?_)
        · rw [nums_len] at hj; rw [hs1]; exact hcell _ (by omega)
        · rw [nums_len] at hj; rw [hs1]; exact hfz _ (by omega)
      · rw [hs1]
        have e0 : 0 + s.size * 1 = s.size := by omega
        rw [e0]
        refine C_of_cells (by rw [List.length_append, hbl, hy]) (by omega) fun j hj => ?_
        rw [List.length_append, hbl] at hj
        by_cases hj' : j < s.size
        · rw [World.cell?_setCells_out g (nums .u8 ys) s.size w ⟨g, j, none⟩ (fun _ _ => .inl hj'), hold j hj', List.getElem_append_left (by rw [hbl]; exact hj')]
          simp [bytesOf_eq]
        · have e1 : j = s.size + (j - s.size) := by omega
          have h2 : j - s.size < (nums .u8 ys).length := by rw [nums_len]; omega
          have := World.cell?_setCells_in g (nums .u8 ys) s.size w (fun k hk => hcell _ (by rw [nums_len] at hk; omega)) (j - s.size) h2
          rw [← e1] at this
          rw [this, List.getElem_append_right (by rw [hbl]; omega)]
          simp [nums, hbl]
    · obtain ⟨v', w', h1, h2, h3⟩ := run_append_arg_grows w t ty e i (.int .u8 0) 1 1 ht hi hz hs1 hb1 rfl (by decide) ⟨g, 0, none⟩ s.size (grownCap W s.size 0 e) (nums .u8 (bytesOf s)) (by rw [nums_len, hbl]; omega) (fun j u hu => by
        have hj : j < s.size := by
          have := (List.getElem?_eq_some_iff.1 hu).1
          rw [nums_len, hbl] at this
          exact this
        rw [add_plain, hold j hj, ← hu]
        have h9 : j < s.data.size := hj
        simp [nums, bytesOf_eq, h9, hj]) ad m c (nums .u8 ys) (by rw [nums_len]; omega) hnews (by omega) (by unfold maxLen; omega) (by omega)
      have hown : Kd.R (Kd.int .u8) e w' w.heap.size (fun _ => True) v' (bytesOf s ++ ys) := by
        refine Kd.R_of_own (enc := Value.int .u8) (h1 := fun _ => rfl) ?_ (fun _ _ => trivial)
        have : encs (Value.int .u8) (bytesOf s ++ ys) = nums .u8 (bytesOf s) ++ nums .u8 ys := by simp [nums, encs]
        rw [this, List.length_append, hbl, hy]
        exact h2
      obtain ⟨A9, c9, e9, hc9, hC9⟩ := Kd.R_reads hown
      have hl9 : (bytesOf s ++ ys).length = s.size + m := by rw [List.length_append, hbl, hy]
      rw [hl9] at e9 hc9 hC9
      subst e9
      exact ⟨A9, c9, w', h1, hC9, hc9, ((Below.refl w.heap.size w).grown h3 (Nat.le_refl _) (fun k hk => by cases hk)).mono (Nat.le_of_lt hglt)⟩
/-- a conversion's run, and an append's, out of the value's own -/
theorem conv_run {P : Program} {eval : Operand → Value} {o : Oper} {s d : TypeId} {x : Operand} {v v' : Value} {W W' : World} (ho : o.op = .convert s d x) (hx : eval x = v) (h : (convert s d v).run P W = .ok v' W') : (execOp eval o).run P W = .ok (.value v') W' := by
  unfold execOp
  rw [ho]
  simp [hx, h, Sem.run_bind, Result.andThen]
theorem append_run {P : Program} {eval : Operand → Value} {o : Oper} {s x : Operand} {t ty : TypeId} {vs vx v' : Value} {W W' : World} (ho : o.op = .call { callee := .builtin .append, args := #[s, x], argTypes := #[t, t] }) (hty : o.type = ty) (hs : eval s = vs) (hx : eval x = vx) (h : (Builtin.append_ #[t, t] ty #[vs, vx]).run P W = .ok v' W') : (execOp eval o).run P W = .ok (.value v') W' := by
  subst hty
  unfold execOp
  simp only [ho, resolve, invoke, builtin, Sem.run_bind, Sem.run_pure, Result.andThen_ok, List.map_toArray, List.map_cons, List.map_nil, hs, hx, h]
end Go.Proofs.YthaimkdnddmokaaDoor.P

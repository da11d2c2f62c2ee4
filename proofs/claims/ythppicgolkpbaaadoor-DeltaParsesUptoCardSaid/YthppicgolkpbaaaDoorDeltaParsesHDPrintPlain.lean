/- a delta's text: the printed function and the reference's check, as plain lists -/
import Derived.Test.YthppicgolkpbaaaDoorDeltaParsesGHDDeltaLaws
import Derived.Test.YthppicgolkpbaaaDoorDeltaParsesHDBehind
import Derived.Test.YthppicgolkpbaaaDoorDeltaParsesPxDeltav1
import Derived.Test.YthppicgolkpbaaaDoorDeltaParsesPxJalousieref15
namespace Go.Proofs.YthppicgolkpbaaaDoor.P
open Go.RowKit Go.Proofs.YthppicgolkpbaaaDoorW.PrintWords Go.Proofs.YthppicgolkpbaaaDoorW.PrintLast Go.Proofs.YthppicgolkpbaaaDoorW.PrintMore
set_option linter.unusedVariables false
set_option linter.unusedSimpArgs false
theorem hasNl_mem (s : ByteArray) : hasNl s = true ↔ (10 : UInt8) ∈ s.data.toList := by
 unfold hasNl
 rw [decide_eq_true_iff]
 have hge := Lib.indexByte_ge s.data.toList 10
 constructor
 ·
  intro h
  obtain ⟨o, ho⟩ := Int.eq_ofNat_of_zero_le h
  exact List.mem_of_getElem? (Lib.indexByte_some ho).1
 ·
  intro h
  obtain ⟨i, hi⟩ := List.getElem?_of_mem h
  by_cases e : Lib.indexByte s.data.toList 10 = -1
  ·
   exact absurd hi (Lib.indexByte_none e i)
  ·
   omega
theorem ref_check_go (x : S41) (hs : x.f3.f0.size ≤ 4000000000000) : ∀ (n i : Nat), x.f3.f0.size - i = n → i ≤ x.f3.f0.size → Ev (fun k => jalousieref15_check.l0 k (i : Int) x.f0 x.f1.f0 x.f1.f1 x.f2 x.f3.f0 x.f3.f1) (if (10 : UInt8) ∈ x.f3.f0.data.toList.drop i then 3 else if 200 < x.f3.f0.size then 4 else 0)
 | 0, i, hn, hi => by
  have hd : x.f3.f0.data.toList.drop i = [] := List.drop_eq_nil_of_le (by rw [data_length]; omega)
  rw [hd, if_neg (by simp)]
  refine Ev.step (f := fun _ => some (if 200 < x.f3.f0.size then 4 else 0)) (fun k => ?_) (Ev.now _)
  simp only [jalousieref15_check.l0]
  rw [if_neg (by omega)]
  by_cases h2 : 200 < x.f3.f0.size
  ·
   rw [if_pos (by omega), if_pos h2]
  ·
   rw [if_neg (by omega), if_neg h2]
 | n + 1, i, hn, hi => by
  have hlt : i < x.f3.f0.size := by omega
  have hl : i < x.f3.f0.data.toList.length := by rw [data_length]; exact hlt
  rw [List.drop_eq_getElem_cons hl]
  by_cases hb : bt x.f3.f0 (i : Int) = 10
  ·
   have : x.f3.f0.data.toList[i] = 10 := (byte_is x.f3.f0 i hlt 10).2 hb
   rw [this, if_pos (by simp)]
   refine Ev.step (f := fun _ => some 3) (fun k => ?_) (Ev.now _)
   simp only [jalousieref15_check.l0]
   rw [if_pos (by omega), if_pos (by omega), if_pos hb]
  ·
   have hne : ¬ x.f3.f0.data.toList[i] = 10 := fun e => hb ((byte_is x.f3.f0 i hlt 10).1 e)
   have hm : ((10 : UInt8) ∈ x.f3.f0.data.toList[i] :: x.f3.f0.data.toList.drop (i + 1)) ↔ (10 : UInt8) ∈ x.f3.f0.data.toList.drop (i + 1) := by
    rw [List.mem_cons]
    constructor
    ·
     rintro (h | h)
     ·
      exact absurd h.symm hne
     ·
      exact h
    ·
     exact .inr
   simp only [hm]
   refine Ev.step (fun k => ?_) (ref_check_go x hs n (i + 1) (by omega) (by omega))
   simp only [jalousieref15_check.l0]
   rw [if_pos (by omega), if_pos (by omega), if_neg hb, wrap_at (by omega)]
theorem ref_check_ev (x : S41) (hs : x.f3.f0.size ≤ 4000000000000) : Ev (fun k => jalousieref15_check.f k x.f0 x.f1.f0 x.f1.f1 x.f2 x.f3.f0 x.f3.f1) (checkOf x) := by
 unfold checkOf
 have bad : ∀ k, jalousieref15_check.j0 (k + 1) true x.f0 x.f1.f0 x.f1.f1 x.f2 x.f3.f0 x.f3.f1 = some 2 := fun k => by simp only [jalousieref15_check.j0]; rw [if_pos trivial]
 by_cases h0 : x.f0 < 0
 ·
  rw [if_pos h0]
  exact Ev.step (f := fun _ => some 2) (fun k => by unfold jalousieref15_check.f; rw [if_pos h0, bad]) (Ev.now _)
 ·
  rw [if_neg h0]
  by_cases h1 : 2147483647 < x.f0
  ·
   rw [if_pos h1]
   exact Ev.step (f := fun _ => some 2) (fun k => by unfold jalousieref15_check.f; rw [if_neg h0, if_pos h1, bad]) (Ev.now _)
  ·
   rw [if_neg h1]
   cases hr : (decide (0 ≤ x.f1.f0) && decide (x.f1.f0 ≤ 15)) with
   | false =>
    rw [if_pos rfl]
    exact Ev.step (f := fun _ => some 2) (fun k => by unfold jalousieref15_check.f; rw [if_neg h0, if_neg h1, ref_right_tells, hr]; simp only [Option.bind_some, Bool.not_false]; exact bad k) (Ev.now _)
   | true =>
    rw [if_neg (by decide)]
    have := ref_check_go x hs _ 0 rfl (Nat.zero_le _)
    rw [List.drop_zero] at this
    have e : (if (10 : UInt8) ∈ x.f3.f0.data.toList then (3 : Int) else if 200 < x.f3.f0.size then 4 else 0) = if hasNl x.f3.f0 = true then 3 else if 200 < x.f3.f0.size then 4 else 0 := by
     by_cases hn : hasNl x.f3.f0 = true
     ·
      rw [if_pos hn, if_pos ((hasNl_mem _).1 hn)]
     ·
      rw [if_neg hn, if_neg (fun h => hn ((hasNl_mem _).2 h))]
    rw [e] at this
    refine Ev.step (fun k => ?_) this
    unfold jalousieref15_check.f
    rw [if_neg h0, if_neg h1, ref_right_tells, hr]
    simp only [Option.bind_some, Bool.not_true, jalousieref15_check.j0]
    rw [if_neg (by decide)]
    rfl
def printGo : Bool → List S27 → List UInt8 → List UInt8 × Int
 | _, [], acc => (acc, 0)
 | nx, p :: ps, acc => if (partL p.f0 p.f1 p.f2 nx).2 = 0 then printGo (decide (0 < p.f2.length)) ps (acc ++ (partL p.f0 p.f1 p.f2 nx).1) else ([], (partL p.f0 p.f1 p.f2 nx).2)
def roomP (d : List S27) : Nat := (d.map fun p => roomL p.f2 + 1000).sum
def partsOk (d : List S27) : Prop := ∀ p ∈ d, itemsFit p.f2 = true
theorem lines_len (l : List S41) : ∀ acc : List UInt8, (linesGo l acc).1.length ≤ acc.length + roomL l := by
 induction l with
 | nil => intro acc; simp [linesGo]
 | cons x l ih =>
  intro acc
  rw [linesGo]
  have hr : roomL (x :: l) = x.f3.f0.size + 800 + roomL l := by simp [roomL]
  rw [hr]
  by_cases h : checkOf x = 0
  ·
   rw [if_pos h]
   have := ih (acc ++ lineL x)
   have h2 := lineL_len x
   rw [List.length_append] at this
   omega
  ·
   rw [if_neg h]; simp
theorem copyL_len (a n : Int) : (copyL a n).length ≤ 600 := by
 have h1 := decL_len a
 have h2 := decL_len n
 unfold copyL
 simp only [List.length_append, List.length_cons, List.length_nil]
 omega
theorem part_len (p : S27) (nx : Bool) : (partL p.f0 p.f1 p.f2 nx).1.length ≤ roomL p.f2 + 1000 := by
 unfold partL
 by_cases h1 : ¬ wrongOf p.f0 p.f1 p.f2.length = 0
 ·
  rw [if_pos h1]; simp
 ·
  rw [if_neg h1]
  by_cases h2 : 2147483647 < p.f0
  ·
   rw [if_pos h2]; simp
  ·
   rw [if_neg h2]
   by_cases h3 : 2147483647 < p.f1
   ·
    rw [if_pos h3]; simp
   ·
    rw [if_neg h3]
    by_cases h4 : 0 < p.f1
    ·
     rw [if_pos h4]
     have := copyL_len p.f0 p.f1
     simp only
     omega
    ·
     rw [if_neg h4]
     have := lines_len p.f2 (if nx = true then [110, 101, 120, 116, 10] else [])
     cases nx with
     | true => simp at this ⊢; omega
     | false => simp at this ⊢; omega
def bytesL (l : List UInt8) : List Int := l.map fun b => (b.toNat : Int)
theorem bytesOf_ba (l : List UInt8) : bytesOf (baOf l) = bytesL l := rfl
def nextAt (d : List S27) (i : Nat) : Bool := decide (0 < i ∧ 0 < (rd_T27 d ((i : Int) - 1)).f2.length)
set_option maxHeartbeats 1000000 in
theorem print_go (d : List S27) (hd : d.length ≤ 4000000000000) (hok : partsOk d) : ∀ (n i : Nat) (acc : List UInt8), d.length - i = n → i ≤ d.length → acc.length + roomP (d.drop i) < 140737488355328 →
  Ev (fun k => delta_Print.l0 k d (bytesL acc) d (d.length : Int) (i : Int)) (bytesL (printGo (nextAt d i) (d.drop i) acc).1, (printGo (nextAt d i) (d.drop i) acc).2)
 | 0, i, acc, hn, hi, hr => by
  obtain rfl : i = d.length := by omega
  rw [List.drop_length]
  refine Ev.step (f := fun _ => some (bytesL acc, 0)) (fun k => ?_) (Ev.now _)
  simp only [delta_Print.l0]
  rw [if_neg (by omega)]
 | n + 1, i, acc, hn, hi, hr => by
  have h1 : i < d.length := by omega
  have hdr := part_drop d i h1
  have hm := hok _ (List.mem_of_getElem? (part_at d i h1))
  rw [hdr] at hr ⊢
  have hnx : nextAt d (i + 1) = decide (0 < (rd_T27 d (i : Int)).f2.length) := by
   unfold nextAt
   rw [show ((i + 1 : Nat) : Int) - 1 = (i : Int) by omega]
   simp
  generalize hp : rd_T27 d (i : Int) = p at hr hm hnx
  have hrp : roomP (p :: d.drop (i + 1)) = roomL p.f2 + 1000 + roomP (d.drop (i + 1)) := by simp [roomP]
  rw [hrp] at hr
  rw [printGo]
  have hlen := part_len p (nextAt d i)
  have hlf : delta_lines.f p.f0 p.f1 p.f2 (nextAt d i) = some (baOf (partL p.f0 p.f1 p.f2 (nextAt d i)).1, (partL p.f0 p.f1 p.f2 (nextAt d i)).2) := by unfold delta_lines.f; rw [if_pos hm]
  have head : ∀ r, Ev (fun k => ((delta_lines.f p.f0 p.f1 p.f2 (nextAt d i)).bind fun b => (if b.2 = 0 then (if (bytesL acc).length + b.1.size < 140737488355328 then (delta_Print.l0 k d (bytesL acc ++ bytesOf b.1) d (d.length : Int) ((i + 1 : Nat) : Int)) else (none)) else (some (([] : List Int), b.2))))) r → Ev (fun k => delta_Print.l0 k d (bytesL acc) d (d.length : Int) (i : Int)) r := by
   intro r h
   refine Ev.step (fun k => ?_) h
   simp only [delta_Print.l0]
   rw [if_pos (by omega), if_pos (by omega), if_pos (by omega), hp, wrap_at (by omega)]
   by_cases h0 : 0 < i
   ·
    have hw : wrap64 ((i : Int) - 1) = (i : Int) - 1 := by unfold wrap64; omega
    have he : decide (((rd_T27 d ((i : Int) - 1)).f2.length : Int) > 0) = nextAt d i := by
     unfold nextAt
     rw [decide_eq_decide]
     omega
    rw [if_pos (by omega), hw, if_pos (by omega), if_pos (by omega), he]
   ·
    have he : nextAt d i = false := by unfold nextAt; simp; omega
    rw [if_neg (by omega), he]
  refine head _ ?_
  rw [hlf]
  simp only [Option.bind_some]
  by_cases he : (partL p.f0 p.f1 p.f2 (nextAt d i)).2 = 0
  ·
   rw [if_pos he]
   have hsz : (baOf (partL p.f0 p.f1 p.f2 (nextAt d i)).1).size = (partL p.f0 p.f1 p.f2 (nextAt d i)).1.length := ba_size _
   have hbl : (bytesL acc).length = acc.length := by simp [bytesL]
   have ih := print_go d hd hok n (i + 1) (acc ++ (partL p.f0 p.f1 p.f2 (nextAt d i)).1) (by omega) (by omega) (by rw [List.length_append]; omega)
   rw [hnx] at ih
   refine Ev.congr (fun k => ?_) ih
   rw [if_pos he, if_pos (by rw [hsz, hbl]; omega), bytesOf_ba]
   have : bytesL acc ++ bytesL (partL p.f0 p.f1 p.f2 (nextAt d i)).1 = bytesL (acc ++ (partL p.f0 p.f1 p.f2 (nextAt d i)).1) := by simp [bytesL]
   rw [this]
  ·
   rw [if_neg he]
   exact Ev.congr (fun k => by rw [if_neg he]; rfl) (Ev.now _)
theorem print_tells (d : List S27) (hd : d.length ≤ 4000000000000) (hok : partsOk d) (hr : roomP d < 140737488355328) : Ev (fun k => delta_Print.f k d) (bytesL (printGo false d []).1, (printGo false d []).2) := by
 have := print_go d hd hok _ 0 [] rfl (Nat.zero_le _) (by simpa using hr)
 rw [List.drop_zero] at this
 have e : nextAt d 0 = false := by unfold nextAt; simp
 rw [e] at this
 exact this
theorem roomP_len (d : List S27) : 1000 * d.length ≤ roomP d := by
 induction d with
 | nil => simp [roomP]
 | cons p d ih =>
  have : roomP (p :: d) = roomL p.f2 + 1000 + roomP d := by simp [roomP]
  rw [this, List.length_cons]
  omega
end Go.Proofs.YthppicgolkpbaaaDoor.P

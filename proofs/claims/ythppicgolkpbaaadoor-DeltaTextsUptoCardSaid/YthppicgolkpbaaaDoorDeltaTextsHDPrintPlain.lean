/- a delta's text: the printed function and the reference's check, as plain lists -/
import Derived.Test.YthppicgolkpbaaaDoorDeltaTextsGHDDeltaLaws
import Derived.Test.YthppicgolkpbaaaDoorDeltaTextsHDBehind
import Derived.Test.YthppicgolkpbaaaDoorDeltaTextsPxDeltav1
import Derived.Test.YthppicgolkpbaaaDoorDeltaTextsPxJalousieref15
namespace Go.Proofs.YthppicgolkpbaaaDoor.P
open Go.RowKit Go.Proofs.YthppicgolkpbaaaDoorW.PrintWords Go.Proofs.YthppicgolkpbaaaDoorW.PrintLast Go.Proofs.YthppicgolkpbaaaDoorW.PrintMore
set_option linter.unusedVariables false
set_option linter.unusedSimpArgs false
theorem hasNl_mem (s : ByteArray) : hasNl s = true ↔ (10 : UInt8) ∈ s.data.toList := by
  unfold hasNl
  rw [decide_eq_true_iff]
  have hge := Lib.indexByte_ge s.data.toList 10
  constructor
  · intro h
    obtain ⟨o, ho⟩ := Int.eq_ofNat_of_zero_le h
    exact List.mem_of_getElem? (Lib.indexByte_some ho).1
  · intro h
    obtain ⟨i, hi⟩ := List.getElem?_of_mem h
    by_cases e : Lib.indexByte s.data.toList 10 = -1
    · exact absurd hi (Lib.indexByte_none e i)
    · omega
/-! ### a delta's text -/
def printGo : Bool → List S27 → List UInt8 → List UInt8 × Int
  | _, [], acc => (acc, 0)
  | nx, p :: ps, acc => if (partL p.f0 p.f1 p.f2 nx).2 = 0 then printGo (decide (0 < p.f2.length)) ps (acc ++ (partL p.f0 p.f1 p.f2 nx).1) else ([], (partL p.f0 p.f1 p.f2 nx).2)
def roomP (d : List S27) : Nat := (d.map fun p => roomL p.f2 + 1000).sum
def partsOk (d : List S27) : Prop := ∀ p ∈ d, itemsFit p.f2 = true
theorem lines_len (l : List S41) : ∀ acc : List UInt8, (linesGo l acc).1.length ≤ acc.length + roomL l := by
  induction l with
  | nil => intro acc; simp [linesGo]
  | cons x l ih =>
    intro acc
    rw [linesGo]
    have hr : roomL (x :: l) = x.f3.f0.size + 800 + roomL l := by simp [roomL]
    rw [hr]
    by_cases h : checkOf x = 0
    · rw [if_pos h]
      have := ih (acc ++ lineL x)
      have h2 := lineL_len x
      rw [List.length_append] at this
      omega
    · rw [if_neg h]; simp
theorem copyL_len (a n : Int) : (copyL a n).length ≤ 600 := by
  have h1 := decL_len a
  have h2 := decL_len n
  unfold copyL
  simp only [List.length_append, List.length_cons, List.length_nil]
  omega
theorem part_len (p : S27) (nx : Bool) : (partL p.f0 p.f1 p.f2 nx).1.length ≤ roomL p.f2 + 1000 := by
  unfold partL
  by_cases h1 : ¬ wrongOf p.f0 p.f1 p.f2.length = 0
  · rw [if_pos h1]; simp
  · rw [if_neg h1]
    by_cases h2 : 2147483647 < p.f0
    · rw [if_pos h2]; simp
    · rw [if_neg h2]
      by_cases h3 : 2147483647 < p.f1
      · rw [if_pos h3]; simp
      · rw [if_neg h3]
        by_cases h4 : 0 < p.f1
        · rw [if_pos h4]
          have := copyL_len p.f0 p.f1
          simp only
          omega
        · rw [if_neg h4]
          have := lines_len p.f2 (if nx = true then [110, 101, 120, 116, 10] else [])
          cases nx with
          | true => simp at this ⊢; omega
          | false => simp at this ⊢; omega
def bytesL (l : List UInt8) : List Int := l.map fun b => (b.toNat : Int)
theorem bytesOf_ba (l : List UInt8) : bytesOf (baOf l) = bytesL l := rfl
def nextAt (d : List S27) (i : Nat) : Bool := decide (0 < i ∧ 0 < (rd_T27 d ((i : Int) - 1)).f2.length)
set_option maxHeartbeats 1000000 in
theorem print_go (d : List S27) (hd : d.length ≤ 4000000000000) (hok : partsOk d) : ∀ (n i : Nat) (acc : List UInt8), d.length - i = n → i ≤ d.length → acc.length + roomP (d.drop i) < 140737488355328 →
    Ev (fun k => delta_Print.l0 k d (bytesL acc) d (d.length : Int) (i : Int)) (bytesL (printGo (nextAt d i) (d.drop i) acc).1, (printGo (nextAt d i) (d.drop i) acc).2)
  | 0, i, acc, hn, hi, hr => by
    obtain rfl : i = d.length := by omega
    rw [List.drop_length]
    refine Ev.step (f := fun _ => some (bytesL acc, 0)) (fun k => ?_) (Ev.now _)
    simp only [delta_Print.l0]
    rw [if_neg (by omega)]
  | n + 1, i, acc, hn, hi, hr => by
    have h1 : i < d.length := by omega
    have hdr := part_drop d i h1
    have hm := hok _ (List.mem_of_getElem? (part_at d i h1))
    rw [hdr] at hr ⊢
    have hnx : nextAt d (i + 1) = decide (0 < (rd_T27 d (i : Int)).f2.length) := by
      unfold nextAt
      rw [show ((i + 1 : Nat) : Int) - 1 = (i : Int) by omega]
      simp
    generalize hp : rd_T27 d (i : Int) = p at hr hm hnx
    have hrp : roomP (p :: d.drop (i + 1)) = roomL p.f2 + 1000 + roomP (d.drop (i + 1)) := by simp [roomP]
    rw [hrp] at hr
    rw [printGo]
    have hlen := part_len p (nextAt d i)
    have hlf : delta_lines.f p.f0 p.f1 p.f2 (nextAt d i) = some (baOf (partL p.f0 p.f1 p.f2 (nextAt d i)).1, (partL p.f0 p.f1 p.f2 (nextAt d i)).2) := by unfold delta_lines.f; rw [if_pos hm]
    have head : ∀ r, Ev (fun k => ((delta_lines.f p.f0 p.f1 p.f2 (nextAt d i)).bind fun b => (if b.2 = 0 then (if (bytesL acc).length + b.1.size < 140737488355328 then (delta_Print.l0 k d (bytesL acc ++ bytesOf b.1) d (d.length : Int) ((i + 1 : Nat) : Int)) else (none)) else (some (([] : List Int), b.2))))) r → Ev (fun k => delta_Print.l0 k d (bytesL acc) d (d.length : Int) (i : Int)) r := by
      intro r h
      refine Ev.step (fun k => ?_) h
      simp only [delta_Print.l0]
      rw [if_pos (by omega), if_pos (by omega), if_pos (by omega), hp, wrap_at (by omega)]
      by_cases h0 : 0 < i
      · have hw : wrap64 ((i : Int) - 1) = (i : Int) - 1 := by unfold wrap64; omega
        have he : decide (((rd_T27 d ((i : Int) - 1)).f2.length : Int) > 0) = nextAt d i := by
          unfold nextAt
          rw [decide_eq_decide]
          omega
        rw [if_pos (by omega), hw, if_pos (by omega), if_pos (by omega), he]
      · have he : nextAt d i = false := by unfold nextAt; simp; omega
        rw [if_neg (by omega), he]
    refine head _ ?_
    rw [hlf]
    simp only [Option.bind_some]
    by_cases he : (partL p.f0 p.f1 p.f2 (nextAt d i)).2 = 0
    · rw [if_pos he]
      have hsz : (baOf (partL p.f0 p.f1 p.f2 (nextAt d i)).1).size = (partL p.f0 p.f1 p.f2 (nextAt d i)).1.length := ba_size _
      have hbl : (bytesL acc).length = acc.length := by simp [bytesL]
      have ih := print_go d hd hok n (i + 1) (acc ++ (partL p.f0 p.f1 p.f2 (nextAt d i)).1) (by omega) (by omega) (by rw [List.length_append]; omega)
      rw [hnx] at ih
      refine Ev.congr (fun k => ?_) ih
      rw [if_pos he, if_pos (by rw [hsz, hbl]; omega), bytesOf_ba]
      have : bytesL acc ++ bytesL (partL p.f0 p.f1 p.f2 (nextAt d i)).1 = bytesL (acc ++ (partL p.f0 p.f1 p.f2 (nextAt d i)).1) := by simp [bytesL]
      rw [this]
    · rw [if_neg he]
      exact Ev.congr (fun k => by rw [if_neg he]; rfl) (Ev.now _)
theorem print_tells (d : List S27) (hd : d.length ≤ 4000000000000) (hok : partsOk d) (hr : roomP d < 140737488355328) : Ev (fun k => delta_Print.f k d) (bytesL (printGo false d []).1, (printGo false d []).2) := by
  have := print_go d hd hok _ 0 [] rfl (Nat.zero_le _) (by simpa using hr)
  rw [List.drop_zero] at this
  have e : nextAt d 0 = false := by unfold nextAt; simp
  rw [e] at this
  exact this
theorem roomP_len (d : List S27) : 1000 * d.length ≤ roomP d := by
  induction d with
  | nil => simp [roomP]
  | cons p d ih =>
    have : roomP (p :: d) = roomL p.f2 + 1000 + roomP d := by simp [roomP]
    rw [this, List.length_cons]
    omega
end Go.Proofs.YthppicgolkpbaaaDoor.P

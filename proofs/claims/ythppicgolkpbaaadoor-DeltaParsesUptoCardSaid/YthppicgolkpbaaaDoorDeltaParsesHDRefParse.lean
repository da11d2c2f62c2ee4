/- the reference's Parse of a delta's lines comes to refGo -/
import Derived.Test.YthppicgolkpbaaaDoorDeltaParsesHDRefReads
namespace Go.Proofs.YthppicgolkpbaaaDoor.P
open Go.RowKit Go.Proofs.YthppicgolkpbaaaDoorW.PrintWords Go.Proofs.YthppicgolkpbaaaDoorW.PrintLast Go.Proofs.YthppicgolkpbaaaDoorW.PrintMore
set_option linter.unusedVariables false
set_option linter.unusedSimpArgs false
def refOut (o : Option (List S27)) : List S27 × Int := match o with
 | none => ([], 3)
 | some d => (d, 0)
theorem ref_words (s : ByteArray) (hs : s.size < 4294967281) : jalousieref01_Words.f s = some (wordsOf s) := by
 unfold jalousieref01_Words.f
 rw [if_pos hs]
 rfl
theorem last_f2 (ps : List S27) (i : Nat) (h : linesFit ps i) (hne : ps ≠ []) : (rd_T27 ps ((ps.length : Int) - 1)).f2.length ≤ i := by
 obtain ⟨qs, q, rfl⟩ := parts_last hne
 have h2 := part_at (qs ++ [q]) qs.length (by simp)
 rw [show ((qs ++ [q]).length : Int) - 1 = (qs.length : Int) by simp]
 rw [List.getElem?_append_right (Nat.le_refl _)] at h2
 simp at h2
 rw [← h2]
 exact h.2 q (by simp)
theorem refIn_fit {ps : List S27} {i : Nat} (y : S41) (h : linesFit ps i) (hne : ps ≠ []) : linesFit (refIn ps y) (i + 1) ∧ refIn ps y ≠ [] := by
 obtain ⟨qs, q, rfl⟩ := parts_last hne
 rw [refIn_snoc]
 refine ⟨h.init (by have := h.2 q (by simp); simp; omega), by simp⟩
set_option maxHeartbeats 1000000 in
theorem parse_go (L : List S39) (hL : L.length ≤ 4000000) (hf : L.all lineFit = true) : ∀ (n i : Nat) (ps : List S27) (it nx : Bool), L.length - i = n → i ≤ L.length → linesFit ps i → (it = true → ps ≠ []) →
  Ev (fun k => jalousieref15_Parse.l0 k ps L it nx (i : Int)) (refOut (refGo (L.drop i) ps it nx))
 | 0, i, ps, it, nx, hn, hi, hfit, hit => by
  obtain rfl : i = L.length := by omega
  rw [List.drop_length, refGo]
  cases nx with
  | true =>
   refine Ev.step (f := fun _ => some ([], 3)) (fun k => ?_) (Ev.now _)
   simp only [jalousieref15_Parse.l0]
   rw [if_neg (by omega), if_pos trivial]
  | false =>
   refine Ev.step (f := fun _ => some (ps, 0)) (fun k => ?_) (Ev.now _)
   simp only [jalousieref15_Parse.l0]
   rw [if_neg (by omega), if_neg (by decide)]
 | n + 1, i, ps, it, nx, hn, hi, hfit, hit => by
  have hlt : i < L.length := by omega
  have hsz := fit_ln hf i hlt
  have ih := fun ps' it' nx' h1 h2 => parse_go L hL hf n (i + 1) ps' it' nx' (by omega) (by omega) h1 h2
  rw [ln_drop L i hlt, refGo]
  have e0 : ∀ {r}, Ev (fun k => if (rd_T39 L (i : Int)).f1 = true then (some (([] : List S27), (3 : Int))) else (if ((rd_T39 L (i : Int)).f0).toList = ([110, 101, 120, 116] : List UInt8) then (if it = true then (if nx = true then (some (([] : List S27), 3)) else (jalousieref15_Parse.l0 k ps L it true ((i + 1 : Nat) : Int))) else (some (([] : List S27), 3))) else ((jalousieref01_Words.f ((rd_T39 L (i : Int)).f0)).bind fun t344 => (if 0 < (t344.length : Int) then (if (rdOf ByteArray.empty t344 0).toList = ([99, 111, 112, 121] : List UInt8) then (jalousieref15_Parse.j1 k ps L it nx (i : Int) ((rd_T39 L (i : Int)).f0) t344 ((t344.length : Int) == 3)) else (jalousieref15_Parse.j1 k ps L it nx (i : Int) ((rd_T39 L (i : Int)).f0) t344 false)) else (none))))) r → Ev (fun k => jalousieref15_Parse.l0 k ps L it nx (i : Int)) r := by
   intro r h
   refine Ev.step (fun k => ?_) h
   simp only [jalousieref15_Parse.l0]
   rw [if_pos (by omega), if_pos (by omega), wrap_at (by omega)]
  generalize rd_T39 L (i : Int) = x at e0 hsz
  refine e0 ?_
  by_cases hb : x.f1 = true
  ·
   rw [if_pos hb]
   exact Ev.congr (fun k => by rw [if_pos hb]; rfl) (Ev.now _)
  rw [if_neg hb]
  refine Ev.congr (f := fun k => _) (fun k => if_neg hb) ?_
  by_cases hnx : x.f0.data.toList = nextT
  ·
   have hnx' : x.f0.toList = ([110, 101, 120, 116] : List UInt8) := by rw [toList_data]; exact hnx
   rw [if_pos hnx]
   refine Ev.congr (f := fun k => _) (fun k => if_pos hnx') ?_
   cases it with
   | false =>
    rw [if_neg (by simp)]
    exact Ev.congr (fun k => by rw [if_neg (by decide)]; rfl) (Ev.now _)
   | true =>
    cases nx with
    | true =>
     rw [if_neg (by simp)]
     exact Ev.congr (fun k => by rw [if_pos rfl, if_pos rfl]; rfl) (Ev.now _)
    | false =>
     rw [if_pos ⟨rfl, rfl⟩]
     refine Ev.congr (fun k => by rw [if_pos rfl, if_neg (by decide)]) (ih ps true true hfit.mono hit)
  have hnx' : ¬ x.f0.toList = ([110, 101, 120, 116] : List UInt8) := by rw [toList_data]; exact hnx
  rw [if_neg hnx]
  refine Ev.congr (f := fun k => _) (fun k => if_neg hnx') ?_
  have hw := ref_words x.f0 hsz
  have hne := words_ne x.f0
  have e1 : ∀ {r}, Ev (fun k => if (wdOf (wordsOf x.f0) 0).toList = ([99, 111, 112, 121] : List UInt8) then (jalousieref15_Parse.j1 k ps L it nx (i : Int) x.f0 (wordsOf x.f0) (((wordsOf x.f0).length : Int) == 3)) else (jalousieref15_Parse.j1 k ps L it nx (i : Int) x.f0 (wordsOf x.f0) false)) r → Ev (fun k => ((jalousieref01_Words.f x.f0).bind fun t344 => (if 0 < (t344.length : Int) then (if (rdOf ByteArray.empty t344 0).toList = ([99, 111, 112, 121] : List UInt8) then (jalousieref15_Parse.j1 k ps L it nx (i : Int) x.f0 t344 ((t344.length : Int) == 3)) else (jalousieref15_Parse.j1 k ps L it nx (i : Int) x.f0 t344 false)) else (none)))) r := by
   intro r h
   refine Ev.congr (fun k => ?_) h
   rw [hw]
   simp only [Option.bind_some]
   rw [if_pos (show 0 < ((wordsOf x.f0).length : Int) by omega)]
   rfl
  refine e1 ?_
  by_cases hcp : isCopy x.f0
  ·
   rw [if_pos hcp]
   refine Ev.congr (f := fun k => _) (fun k => if_pos hcp.1) ?_
   have h3 : (((wordsOf x.f0).length : Int) == 3) = true := by have := hcp.2; simp; omega
   have hlen := hcp.2
   rw [h3]
   refine Ev.step (fun k => by simp only [jalousieref15_Parse.j1]; rw [if_pos trivial, if_pos (show 1 < ((wordsOf x.f0).length : Int) by omega)]) ?_
   refine Ev.bind (ref_num_ev (wdOf (wordsOf x.f0) 1)) ?_
   refine Ev.congr (f := fun k => _) (fun k => if_pos (show 2 < ((wordsOf x.f0).length : Int) by omega)) ?_
   refine Ev.bind (ref_num_ev (wdOf (wordsOf x.f0) 2)) ?_
   generalize numOf (wdOf (wordsOf x.f0) 1) = n1
   generalize numOf (wdOf (wordsOf x.f0) 2) = n2
   obtain ⟨n1, b1⟩ := n1
   obtain ⟨n2, b2⟩ := n2
   simp only
   cases b1 with
   | false =>
    rw [if_neg (by simp)]
    exact Ev.congr (fun k => by rw [if_neg (by decide)]; rfl) (Ev.now _)
   | true =>
    cases b2 with
    | false =>
     rw [if_neg (by simp)]
     exact Ev.congr (fun k => by rw [if_pos rfl, if_neg (by decide)]; rfl) (Ev.now _)
    | true =>
     by_cases hz : n2 = 0
     ·
      rw [if_neg (by simp [hz])]
      exact Ev.congr (fun k => by rw [if_pos rfl, if_pos rfl, if_pos hz]; rfl) (Ev.now _)
     ·
      cases nx with
      | true =>
       rw [if_neg (by simp)]
       exact Ev.congr (fun k => by rw [if_pos rfl, if_pos rfl, if_neg hz, if_pos rfl]; rfl) (Ev.now _)
      | false =>
       rw [if_pos ⟨rfl, rfl, hz, rfl⟩]
       have hl := hfit.1
       refine Ev.congr (fun k => ?_) (ih (ps ++ [⟨n1, n2, []⟩]) false false (hfit.snoc (Nat.zero_le _)) (fun e => by cases e))
       rw [if_pos rfl, if_pos rfl, if_neg hz, if_neg (by decide)]
       simp only [Option.bind_some]
       rw [if_pos (by simp; omega), wrap_at (by omega)]
  rw [if_neg hcp]
  have e2 : ∀ {r}, Ev (fun k => jalousieref15_Parse.j1 k ps L it nx (i : Int) x.f0 (wordsOf x.f0) false) r → Ev (fun k => if (wdOf (wordsOf x.f0) 0).toList = ([99, 111, 112, 121] : List UInt8) then (jalousieref15_Parse.j1 k ps L it nx (i : Int) x.f0 (wordsOf x.f0) (((wordsOf x.f0).length : Int) == 3)) else (jalousieref15_Parse.j1 k ps L it nx (i : Int) x.f0 (wordsOf x.f0) false)) r := by
   intro r h
   refine Ev.congr (fun k => ?_) h
   by_cases h1 : (wdOf (wordsOf x.f0) 0).toList = [99, 111, 112, 121]
   ·
    have : (((wordsOf x.f0).length : Int) == 3) = false := by
     have h2 : ¬ (wordsOf x.f0).length = 3 := fun h2 => hcp ⟨h1, h2⟩
     simp; omega
    rw [if_pos h1, this]
   ·
    rw [if_neg h1]
  refine e2 ?_
  obtain ⟨t, ht, hs⟩ := item_ev x.f0 (by omega)
  refine Ev.step (fun k => by simp only [jalousieref15_Parse.j1]; rw [if_neg (by decide)]) ?_
  refine Ev.bind ht ?_
  rcases hs with ⟨hr, h7⟩ | ⟨y, hr, rfl⟩
  ·
   rw [hr]
   refine Ev.congr (fun k => ?_) (Ev.now _)
   rw [h7, if_neg (by decide)]
   rfl
  ·
   rw [hr]
   simp only
   have hl := hfit.1
   refine Ev.congr (f := fun k => _) (fun k => if_pos trivial) ?_
   have happ : ∀ {r}, Ev (fun k => jalousieref15_Parse.l0 k (ps ++ [⟨0, 0, [y]⟩]) L true false ((i + 1 : Nat) : Int)) r → Ev (fun k => ((some (([(⟨0, 0, (([(⟨y.f0, (⟨y.f1.f0, y.f1.f1⟩ : S37), y.f2, (⟨y.f3.f0, y.f3.f1⟩ : S39)⟩ : S41)] : List S41))⟩ : S27)] : List S27) : List S27)).bind fun y371 => (if ps.length + y371.length < 3518437208883 then (jalousieref15_Parse.l0 k (ps ++ y371) L true false (wrap64 ((i : Int) + 1))) else (none)))) r := by
    intro r h
    refine Ev.congr (fun k => ?_) h
    simp only [Option.bind_some]
    rw [if_pos (by simp; omega), wrap_at (by omega)]
   have hnew := ih (ps ++ [⟨0, 0, [y]⟩]) true false (hfit.snoc (by simp)) (fun _ => by simp)
   cases it with
   | false =>
    rw [if_neg (by simp)]
    exact Ev.congr (f := fun k => _) (fun k => if_neg (by decide)) (happ hnew)
   | true =>
    refine Ev.congr (f := fun k => _) (fun k => if_pos rfl) ?_
    cases nx with
    | true =>
     rw [if_neg (by simp)]
     exact Ev.congr (f := fun k => _) (fun k => if_pos rfl) (happ hnew)
    | false =>
     rw [if_pos ⟨rfl, rfl⟩]
     have hps := hit rfl
     obtain ⟨f1, f2⟩ := refIn_fit y hfit hps
     refine Ev.congr (fun k => ?_) (ih (refIn ps y) true false f1 (fun _ => f2))
     have hp0 : 0 < ps.length := List.length_pos_iff.2 hps
     have hlast := last_f2 ps i hfit hps
     have hwl : wrap64 ((ps.length : Int) - 1) = (ps.length : Int) - 1 := by unfold wrap64; omega
     rw [if_neg (by decide), hwl, if_pos (by omega), if_pos (by omega)]
     simp only [Option.bind_some, List.length_nil, List.nil_append, Nat.zero_add]
     rw [if_pos (by omega), if_pos (by simp; omega), wrap_at (by omega)]
     rw [show ((ps.length : Int) - 1).toNat = ps.length - 1 by omega]
     rfl
end Go.Proofs.YthppicgolkpbaaaDoor.P

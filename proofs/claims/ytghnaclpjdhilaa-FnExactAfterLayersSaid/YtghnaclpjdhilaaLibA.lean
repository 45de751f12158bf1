/- after the layers -/
import Derived.Test.YtghnaclpjdhilaaPAx15
import Derived.Test.YtghnaclpjdhilaaPAx16
import Derived.Test.YtghnaclpjdhilaaLibP
namespace Go.Proofs.Ytghnaclpjdhilaa.PA
open Go.RowKit Go.Proofs.YtghnaclpjdhilaaW.PrintWords Go.Proofs.YtghnaclpjdhilaaW.PrintLast Go.Proofs.YtghnaclpjdhilaaW.PrintMore
set_option linter.unusedVariables false
set_option linter.unusedSimpArgs false

/-! AfterLayers -/
def afterL (t : List Int) : List Int := t.map fun x => mx 0 (wrap64 (-x))
def afterOf (l m : List Int) (a : Int) : List Int × Bool := if markerOk l m = true ∧ (0 ≤ a ∧ a ≤ 1000) then (afterL (extraL l m a), true) else ([], false)
theorem extraL_len2 : ∀ (l m : List Int) (a : Int), m.length = l.length → (extraL l m a).length = l.length := by
  intro l
  induction l with
  | nil => intro m a _; simp [extraL]
  | cons n l ih =>
    intro m a h
    cases m with
    | nil => simp at h
    | cons q m => simp [extraL]; exact ih m a (by simpa using h)
theorem afterOf_len (l m : List Int) (a : Int) : (afterOf l m a).1.length ≤ 5 := by
  unfold afterOf
  split
  · rename_i h
    have := extraOf_len l m a
    unfold extraOf at this
    rw [if_pos h] at this
    simpa [afterL] using this
  · simp
theorem extra_pos {l m : List Int} {a : Int} (h : markerOk l m = true ∧ (0 ≤ a ∧ a ≤ 1000)) : 0 < (extraL l m a).length ∧ (extraL l m a).length ≤ 5 := by
  obtain ⟨h1, h2, _⟩ := markerOk_iff.1 h.1
  rw [extraL_len2 l m a h2]
  have := wantedOk_iff.1 h1
  exact ⟨this.1, this.2.1⟩
theorem spec_after_l (t : List Int) (ht : t.length ≤ 5) : ∀ (d i : Nat) (acc : List Int), i + d = t.length → acc.length = i →
    Ev (fun k => spec_AfterLayers.l0 k acc t (t.length : Int) (i : Int)) (acc ++ afterL (t.drop i), true) := by
  intro d
  induction d with
  | zero =>
    intro i acc hi h0
    refine Ev.step (f := fun _ => some (acc, true)) (fun k => ?_) (ev_eq (Ev.now _) (by rw [List.drop_of_length_le (by omega)]; simp [afterL]))
    simp only [spec_AfterLayers.l0]
    rw [if_neg (by omega)]
  | succ d ih =>
    intro i acc hi h0
    have hlt : i < t.length := by omega
    rw [List.drop_eq_getElem_cons hlt]
    have hn := ih (i + 1) (acc ++ [mx 0 (wrap64 (-t[i]))]) (by omega) (by simp; omega)
    rw [List.append_assoc, List.singleton_append] at hn
    refine Ev.step (f := fun k => spec_AfterLayers.l0 k (acc ++ [mx 0 (wrap64 (-t[i]))]) t (t.length : Int) ((i + 1 : Nat) : Int)) (fun k => ?_) hn
    simp only [spec_AfterLayers.l0]
    rw [if_pos (by omega), if_pos (by omega), if_pos (by omega), if_pos (by omega), rd_get hlt, w64 (x := (i : Int) + 1) (by omega) (by omega)]
    rfl
theorem spec_After_ev (l m : List Int) (a : Int) : Ev (fun k => spec_AfterLayers.f k l m a) (afterOf l m a) := by
  unfold spec_AfterLayers.f
  refine Ev.bind (spec_Extra_ev l m a) ?_
  unfold afterOf extraOf
  by_cases c : markerOk l m = true ∧ (0 ≤ a ∧ a ≤ 1000)
  · rw [if_pos c, if_pos c]
    obtain ⟨h1, h2⟩ := extra_pos c
    exact Ev.congr (fun k => if_neg (by omega)) (spec_after_l (extraL l m a) h2 (extraL l m a).length 0 [] (by omega) rfl)
  · rw [if_neg c, if_neg c]
    exact Ev.congr (fun k => if_pos (by simp)) (Ev.now _)
theorem impl_after_l : ∀ (suf pre : List Int), pre.length + suf.length ≤ 5 →
    Ev (fun k => impl_AfterLayers.l0 k (pre ++ suf) ((pre.length + suf.length : Nat) : Int) (pre.length : Int)) (pre ++ afterL suf) := by
  intro suf
  induction suf with
  | nil =>
    intro pre hp
    refine Ev.step (f := fun _ => some (pre ++ [])) (fun k => ?_) (Ev.now _)
    simp only [impl_AfterLayers.l0]
    rw [if_neg (by simp)]
  | cons x suf ih =>
    intro pre hp
    simp only [List.length_cons] at hp
    have hn := ih (pre ++ [mx 0 (wrap64 (-x))]) (by simp; omega)
    have hg : rd (pre ++ x :: suf) (pre.length : Int) = x := by rw [rd_nat]; simp [List.getD_eq_getElem?_getD]
    have hs : (pre ++ x :: suf).set pre.length (mx 0 (wrap64 (-x))) = pre ++ [mx 0 (wrap64 (-x))] ++ suf := by simp
    have e1 : (pre ++ [mx 0 (wrap64 (-x))]).length = pre.length + 1 := by simp
    rw [e1] at hn
    refine Ev.step (f := fun k => impl_AfterLayers.l0 k (pre ++ [mx 0 (wrap64 (-x))] ++ suf) ((pre.length + 1 + suf.length : Nat) : Int) ((pre.length + 1 : Nat) : Int)) (fun k => ?_) (ev_eq hn (by simp [afterL]))
    simp only [impl_AfterLayers.l0, List.length_cons]
    rw [if_pos (by omega), if_pos (by omega), if_pos (by simp; omega), hg, Int.toNat_natCast, hs, w64 (x := (pre.length : Int) + 1) (by omega) (by omega), show pre.length + (suf.length + 1) = pre.length + 1 + suf.length by omega]
    rfl
theorem impl_After_ev (l m : List Int) (a : Int) : Ev (fun k => impl_AfterLayers.f k l m a) (afterOf l m a) := by
  unfold impl_AfterLayers.f
  refine Ev.bind (impl_Marker_ev l m) ?_
  unfold afterOf
  by_cases c : markerOk l m = true
  · refine Ev.congr (fun k => if_pos c) ?_
    refine Ev.bind (ev_const (within_eq a 0 1000)) ?_
    by_cases c1 : 0 ≤ a ∧ a ≤ 1000
    · obtain ⟨h1, h2⟩ := extra_pos ⟨c, c1⟩
      refine ev_eq ?_ (if_pos (⟨c, c1⟩ : markerOk l m = true ∧ (0 ≤ a ∧ a ≤ 1000))).symm
      refine Ev.congr (fun k => if_pos (decide_eq_true c1)) ?_
      refine Ev.bind (impl_Extra_ev l m a) ?_
      unfold extraOf
      rw [if_pos ⟨c, c1⟩]
      refine Ev.congr (fun k => if_pos h1) ?_
      have h := impl_after_l (extraL l m a) [] (by simpa using h2)
      have h' : Ev (fun k => impl_AfterLayers.l0 k (extraL l m a) ((extraL l m a).length : Int) 0) (afterL (extraL l m a)) := by simpa using h
      exact Ev.bind h' (Ev.now (afterL (extraL l m a), true))
    · exact ev_eq (Ev.congr (fun k => if_neg (by simpa using c1)) (Ev.now _)) (if_neg (fun z => c1 z.2)).symm
  · exact ev_eq (Ev.congr (fun k => if_neg c) (Ev.now _)) (if_neg (fun z => c z.1)).symm

end Go.Proofs.Ytghnaclpjdhilaa.PA

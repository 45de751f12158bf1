/- copying lists and a line more -/
import Derived.Test.YtcdajmbnijmdfaaPAx20
import Derived.Test.YtcdajmbnijmdfaaPAx21
import Derived.Test.YtcdajmbnijmdfaaLibK
import Derived.Test.YtcdajmbnijmdfaaLibT
namespace Go.Proofs.Ytcdajmbnijmdfaa.PA
open Go.RowKit Go.Proofs.YtcdajmbnijmdfaaW.PrintWords Go.Proofs.YtcdajmbnijmdfaaW.PrintLast Go.Proofs.YtcdajmbnijmdfaaW.PrintMore
set_option linter.unusedVariables false
set_option linter.unusedSimpArgs false

/-! copyLists -/
theorem copyLists_l (l : List (List Int)) (hl : l.length ≤ 1048576) (hr : ∀ r ∈ l, r.length ≤ 1048576) : ∀ (m i : Nat) (acc : List (List Int)), i + m = l.length → acc = l.take i →
    Ev (fun k => impl_copyLists.l0 k acc l (l.length : Int) (i : Int)) l := by
  intro m
  induction m with
  | zero =>
    intro i acc hi ha
    refine Ev.step (f := fun _ => some l) (fun k => ?_) (Ev.now _)
    simp only [impl_copyLists.l0]
    rw [if_neg (by omega), ha, List.take_of_length_le (by omega)]
  | succ m ih =>
    intro i acc hi ha
    have hlt : i < l.length := by omega
    have hx := hr l[i] (List.getElem_mem hlt)
    have hacc : acc.length ≤ i := by rw [ha, List.length_take]; omega
    refine Ev.step (f := fun k => impl_copyLists.l0 k (acc ++ [l[i]]) l (l.length : Int) ((i + 1 : Nat) : Int)) (fun k => ?_) (ih (i + 1) (acc ++ [l[i]]) (by omega) (by rw [takeL_step hlt, ha]))
    simp only [impl_copyLists.l0, Option.bind_some]
    rw [if_pos (by omega), if_pos (by omega), if_pos (by omega), rdL_get hlt, if_pos (by simp; omega), if_pos (by omega), w64 (by omega) (by omega)]
    simp
theorem copyLists_ev (l : List (List Int)) (hl : l.length ≤ 1048576) (hr : ∀ r ∈ l, r.length ≤ 1048576) : Ev (fun k => impl_copyLists.f k l) l :=
  copyLists_l l hl hr l.length 0 [] (by omega) (by simp)
theorem two_of {r : List Int} (h : r.length = 2) : [rd r 0, rd r 1] = r := by
  match r, h with
  | [x, y], _ => rfl

/-! WithLine -/
def withLine (n : Int) (l : List (List Int)) (a b : Int) : List (List Int) × Bool := if drawOk n l = true ∧ drawOk n (l ++ [[a, b]]) = true then (l ++ [[a, b]], true) else ([], false)
theorem withLine_bd (n : Int) (l : List (List Int)) (a b : Int) : (withLine n l a b).1.length ≤ 12 ∧ (∀ r ∈ (withLine n l a b).1, r.length ≤ 1048576) ∧ totlen (withLine n l a b).1 ≤ 24 := by
  unfold withLine
  split
  · rename_i h
    obtain ⟨h1, h2⟩ := drawOk_iff.1 h.2
    have h3 : ∀ r ∈ l ++ [[a, b]], r.length ≤ 2 := fun r hr => by have := (of_decide_eq_true (h2 r hr)).1; omega
    have h4 := totlen_le 2 _ h3
    exact ⟨h1.2.2, fun r hr => by have := h3 r hr; omega, by show totlen (l ++ [[a, b]]) ≤ 24; have := h1.2.2; omega⟩
  · simp [totlen]
theorem impl_WithLine_ev (n : Int) (l : List (List Int)) (a b : Int) (hl : l.length ≤ 1048576) : Ev (fun k => impl_WithLine.f k n l a b) (withLine n l a b) := by
  unfold impl_WithLine.f withLine
  refine Ev.bind (impl_IsDrawing_ev n l) ?_
  by_cases c : drawOk n l = true
  · refine Ev.congr (fun k => if_pos c) ?_
    have h2 := (drawOk_iff.1 c).2
    refine Ev.bind (copyLists_ev l hl (fun r hr => by have := (of_decide_eq_true (h2 r hr)).1; omega)) ?_
    refine Ev.congr (f := fun k => (impl_IsDrawing.f k n (l ++ [[a, b]])).bind fun t => if t = true then some (l ++ [[a, b]], true) else some ([], false)) (fun k => if_pos (by omega)) ?_
    refine Ev.bind (impl_IsDrawing_ev n (l ++ [[a, b]])) ?_
    by_cases c2 : drawOk n (l ++ [[a, b]]) = true
    · exact ev_eq (Ev.congr (fun k => if_pos c2) (Ev.now _)) (if_pos ⟨c, c2⟩).symm
    · exact ev_eq (Ev.congr (fun k => if_neg c2) (Ev.now _)) (if_neg (fun z => c2 z.2)).symm
  · exact ev_eq (Ev.congr (fun k => if_neg c) (Ev.now _)) (if_neg (fun z => c z.1)).symm
theorem spec_with_l (n : Int) (l : List (List Int)) (a b : Int) (hl : l.length ≤ 12) (hr : ∀ r ∈ l, r.length = 2) : ∀ (m i : Nat) (acc : List (List Int)), i + m = l.length → acc = l.take i →
    Ev (fun k => spec_WithLine.l0 k n a b acc l (l.length : Int) (i : Int)) (if drawOk n (l ++ [[a, b]]) = true then (l ++ [[a, b]], true) else ([], false)) := by
  intro m
  induction m with
  | zero =>
    intro i acc hi ha
    have e : acc = l := by rw [ha, List.take_of_length_le (by omega)]
    subst e
    refine Ev.step (f := fun k => (spec_IsDrawing.f k n (acc ++ [[a, b]])).bind fun t => if t = true then some (acc ++ [[a, b]], true) else some ([], false)) (fun k => ?_) ?_
    · simp only [spec_WithLine.l0]
      rw [if_neg (by omega), if_pos (by omega)]
      rfl
    · refine Ev.bind (spec_IsDrawing_ev n (acc ++ [[a, b]])) ?_
      by_cases c2 : drawOk n (acc ++ [[a, b]]) = true
      · exact ev_eq (Ev.congr (fun k => if_pos c2) (Ev.now _)) (if_pos c2).symm
      · exact ev_eq (Ev.congr (fun k => if_neg c2) (Ev.now _)) (if_neg c2).symm
  | succ m ih =>
    intro i acc hi ha
    have hlt : i < l.length := by omega
    have hx := hr l[i] (List.getElem_mem hlt)
    have hacc : acc.length ≤ i := by rw [ha, List.length_take]; omega
    refine Ev.step (f := fun k => spec_WithLine.l0 k n a b (acc ++ [l[i]]) l (l.length : Int) ((i + 1 : Nat) : Int)) (fun k => ?_) (ih (i + 1) (acc ++ [l[i]]) (by omega) (by rw [takeL_step hlt, ha]))
    simp only [spec_WithLine.l0]
    rw [if_pos (by omega), if_pos (by omega), if_pos (by omega), rdL_get hlt, if_pos (by omega), if_pos (by omega), if_pos (by omega), two_of hx, w64 (by omega) (by omega)]
    simp
theorem spec_WithLine_ev (n : Int) (l : List (List Int)) (a b : Int) : Ev (fun k => spec_WithLine.f k n l a b) (withLine n l a b) := by
  unfold spec_WithLine.f withLine
  refine Ev.bind (spec_IsDrawing_ev n l) ?_
  by_cases c : drawOk n l = true
  · refine Ev.congr (fun k => if_pos c) ?_
    obtain ⟨h1, h2⟩ := drawOk_iff.1 c
    refine ev_eq (spec_with_l n l a b h1.2.2 (fun r hr => (of_decide_eq_true (h2 r hr)).1) l.length 0 [] (by omega) (by simp)) ?_
    by_cases c2 : drawOk n (l ++ [[a, b]]) = true
    · rw [if_pos c2, if_pos ⟨c, c2⟩]
    · rw [if_neg c2, if_neg (fun z => c2 z.2)]
  · exact ev_eq (Ev.congr (fun k => if_neg c) (Ev.now _)) (if_neg (fun z => c z.1)).symm

end Go.Proofs.Ytcdajmbnijmdfaa.PA

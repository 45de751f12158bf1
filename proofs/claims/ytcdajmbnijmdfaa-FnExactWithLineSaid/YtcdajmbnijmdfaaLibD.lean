/- IsDrawing: both functions. -/
import Derived.Test.YtcdajmbnijmdfaaPAx2
import Derived.Test.YtcdajmbnijmdfaaPAx5
import Derived.Test.YtcdajmbnijmdfaaLibI
namespace Go.Proofs.Ytcdajmbnijmdfaa.PA
open Go.RowKit Go.Proofs.YtcdajmbnijmdfaaW.PrintWords Go.Proofs.YtcdajmbnijmdfaaW.PrintLast Go.Proofs.YtcdajmbnijmdfaaW.PrintMore
set_option linter.unusedVariables false
set_option linter.unusedSimpArgs false

/-! IsDrawing -/
def lineOk (n : Int) (l : List Int) : Bool := decide (l.length = 2 ∧ 0 ≤ rd l 0 ∧ rd l 0 ≤ n - 1 ∧ 0 ≤ rd l 1 ∧ rd l 1 ≤ n - 1 ∧ ¬ rd l 0 = rd l 1)
def drawOk (n : Int) (l : List (List Int)) : Bool := decide (1 ≤ n ∧ n ≤ 8 ∧ l.length ≤ 12) && l.all (lineOk n)
theorem all_drop {α : Type} (l : List α) (p : α → Bool) (i : Nat) (h : i < l.length) : (l.drop i).all p = (p l[i] && (l.drop (i + 1)).all p) := by
  rw [List.drop_eq_getElem_cons h, List.all_cons]

theorem spec_IsDrawing_l (n : Int) (hn : 1 ≤ n ∧ n ≤ 8) (l : List (List Int)) (hl : l.length ≤ 12) : ∀ (d i : Nat), i + d = l.length → Ev (fun k => spec_IsDrawing.l0 k n l (l.length : Int) (i : Int)) ((l.drop i).all (lineOk n)) := by
  intro d
  induction d with
  | zero =>
    intro i hi
    refine Ev.step (f := fun _ => some ((l.drop i).all (lineOk n))) (fun k => ?_) (Ev.now _)
    simp only [spec_IsDrawing.l0]
    rw [if_neg (by omega), List.drop_of_length_le (by omega)]
    rfl
  | succ d ih =>
    intro i hi
    have hlt : i < l.length := by omega
    rw [all_drop l _ i hlt]
    by_cases c : lineOk n l[i] = true
    · rw [c, Bool.true_and]
      refine Ev.step (f := fun k => spec_IsDrawing.l0 k n l (l.length : Int) ((i + 1 : Nat) : Int)) (fun k => ?_) (ih (i + 1) (by omega))
      obtain ⟨c1, c2, c3, c4, c5, c6⟩ := of_decide_eq_true c
      simp only [spec_IsDrawing.l0, l01In_eq, Option.bind_some]
      rw [if_pos (by omega), if_pos (by omega), if_pos (by omega), rdL_get hlt, if_pos (by omega), if_pos (by omega), w64 (x := n - 1) (by omega) (by omega), if_pos (by simpa using ⟨c2, c3⟩), if_pos (by omega), if_pos (by simpa using ⟨c4, c5⟩), if_neg c6, w64 (by omega) (by omega)]
      rfl
    · have c' : lineOk n l[i] = false := by simpa using c
      rw [c', Bool.false_and]
      refine Ev.step (f := fun k => some false) (fun k => ?_) (Ev.now _)
      have hc := of_decide_eq_false c'
      simp only [spec_IsDrawing.l0, l01In_eq, Option.bind_some]
      rw [if_pos (by omega), if_pos (by omega), if_pos (by omega), rdL_get hlt, w64 (x := n - 1) (by omega) (by omega)]
      by_cases e1 : l[i].length = 2
      · rw [if_pos (by omega), if_pos (by omega)]
        by_cases e2 : 0 ≤ rd l[i] 0 ∧ rd l[i] 0 ≤ n - 1
        · rw [if_pos (by simpa using e2), if_pos (by omega)]
          by_cases e3 : 0 ≤ rd l[i] 1 ∧ rd l[i] 1 ≤ n - 1
          · rw [if_pos (by simpa using e3)]
            by_cases e4 : rd l[i] 0 = rd l[i] 1
            · rw [if_pos e4]
            · exact absurd ⟨e1, e2.1, e2.2, e3.1, e3.2, e4⟩ hc
          · rw [if_neg (by simpa using e3)]
        · rw [if_neg (by simpa using e2)]
      · rw [if_neg (by omega)]
theorem spec_IsDrawing_ev (n : Int) (l : List (List Int)) : Ev (fun k => spec_IsDrawing.f k n l) (drawOk n l) := by
  unfold spec_IsDrawing.f
  refine Ev.bind (ev_const (l01In_eq n 1 8)) ?_
  unfold drawOk
  by_cases c0 : 1 ≤ n ∧ n ≤ 8
  · refine Ev.congr (fun k => if_pos (by simpa using c0)) ?_
    by_cases c1 : l.length ≤ 12
    · rw [decide_eq_true (show 1 ≤ n ∧ n ≤ 8 ∧ l.length ≤ 12 from ⟨c0.1, c0.2, c1⟩), Bool.true_and, decide_eq_false (show ¬ ((l.length : Int) > 12) by omega)]
      refine Ev.step (f := fun k => spec_IsDrawing.l0 k n l (l.length : Int) ((0 : Nat) : Int)) (fun k => ?_) (spec_IsDrawing_l n c0 l c1 l.length 0 (by omega))
      simp only [spec_IsDrawing.j0]
      rw [if_neg (by simp)]
      rfl
    · rw [decide_eq_false (show ¬ (1 ≤ n ∧ n ≤ 8 ∧ l.length ≤ 12) from fun z => c1 z.2.2), Bool.false_and, decide_eq_true (show ((l.length : Int) > 12) by omega)]
      refine Ev.step (f := fun k => some false) (fun k => ?_) (Ev.now _)
      simp only [spec_IsDrawing.j0]
      rw [if_pos trivial]
  · refine Ev.congr (fun k => if_neg (by simpa using c0)) ?_
    rw [decide_eq_false (show ¬ (1 ≤ n ∧ n ≤ 8 ∧ l.length ≤ 12) from fun z => c0 ⟨z.1, z.2.1⟩), Bool.false_and]
    refine Ev.step (f := fun k => some false) (fun k => ?_) (Ev.now _)
    simp only [spec_IsDrawing.j0]
    rw [if_pos trivial]

theorem impl_IsDrawing_l (n : Int) (hn : 1 ≤ n ∧ n ≤ 8) (l : List (List Int)) (hl : l.length ≤ 12) : ∀ (d i : Nat), i + d = l.length → Ev (fun k => impl_IsDrawing.l0 k n l (l.length : Int) (i : Int)) ((l.drop i).all (lineOk n)) := by
  intro d
  induction d with
  | zero =>
    intro i hi
    refine Ev.step (f := fun _ => some ((l.drop i).all (lineOk n))) (fun k => ?_) (Ev.now _)
    simp only [impl_IsDrawing.l0]
    rw [if_neg (by omega), List.drop_of_length_le (by omega)]
    rfl
  | succ d ih =>
    intro i hi
    have hlt : i < l.length := by omega
    rw [all_drop l _ i hlt]
    by_cases c : lineOk n l[i] = true
    · rw [c, Bool.true_and]
      refine Ev.step (f := fun k => impl_IsDrawing.l0 k n l (l.length : Int) ((i + 1 : Nat) : Int)) (fun k => ?_) (ih (i + 1) (by omega))
      obtain ⟨c1, c2, c3, c4, c5, c6⟩ := of_decide_eq_true c
      simp only [impl_IsDrawing.l0, within_eq, Option.bind_some]
      rw [if_pos (by omega), if_pos (by omega), if_pos (by omega), rdL_get hlt, if_pos (by omega), if_pos (by omega), w64 (x := n - 1) (by omega) (by omega), if_pos (by simpa using ⟨c2, c3⟩), if_pos (by omega), if_pos (by simpa using ⟨c4, c5⟩), if_neg c6, w64 (by omega) (by omega)]
      rfl
    · have c' : lineOk n l[i] = false := by simpa using c
      rw [c', Bool.false_and]
      refine Ev.step (f := fun k => some false) (fun k => ?_) (Ev.now _)
      have hc := of_decide_eq_false c'
      simp only [impl_IsDrawing.l0, within_eq, Option.bind_some]
      rw [if_pos (by omega), if_pos (by omega), if_pos (by omega), rdL_get hlt, w64 (x := n - 1) (by omega) (by omega)]
      by_cases e1 : l[i].length = 2
      · rw [if_pos (by omega), if_pos (by omega)]
        by_cases e2 : 0 ≤ rd l[i] 0 ∧ rd l[i] 0 ≤ n - 1
        · rw [if_pos (by simpa using e2), if_pos (by omega)]
          by_cases e3 : 0 ≤ rd l[i] 1 ∧ rd l[i] 1 ≤ n - 1
          · rw [if_pos (by simpa using e3)]
            by_cases e4 : rd l[i] 0 = rd l[i] 1
            · rw [if_pos e4]
            · exact absurd ⟨e1, e2.1, e2.2, e3.1, e3.2, e4⟩ hc
          · rw [if_neg (by simpa using e3)]
        · rw [if_neg (by simpa using e2)]
      · rw [if_neg (by omega)]
theorem impl_IsDrawing_ev (n : Int) (l : List (List Int)) : Ev (fun k => impl_IsDrawing.f k n l) (drawOk n l) := by
  unfold impl_IsDrawing.f
  refine Ev.bind (ev_const (within_eq n 1 8)) ?_
  unfold drawOk
  by_cases c0 : 1 ≤ n ∧ n ≤ 8
  · refine Ev.congr (fun k => if_pos (by simpa using c0)) ?_
    by_cases c1 : l.length ≤ 12
    · rw [decide_eq_true (show 1 ≤ n ∧ n ≤ 8 ∧ l.length ≤ 12 from ⟨c0.1, c0.2, c1⟩), Bool.true_and, decide_eq_false (show ¬ ((l.length : Int) > 12) by omega)]
      refine Ev.step (f := fun k => impl_IsDrawing.l0 k n l (l.length : Int) ((0 : Nat) : Int)) (fun k => ?_) (impl_IsDrawing_l n c0 l c1 l.length 0 (by omega))
      simp only [impl_IsDrawing.j0]
      rw [if_neg (by simp)]
      rfl
    · rw [decide_eq_false (show ¬ (1 ≤ n ∧ n ≤ 8 ∧ l.length ≤ 12) from fun z => c1 z.2.2), Bool.false_and, decide_eq_true (show ((l.length : Int) > 12) by omega)]
      refine Ev.step (f := fun k => some false) (fun k => ?_) (Ev.now _)
      simp only [impl_IsDrawing.j0]
      rw [if_pos trivial]
  · refine Ev.congr (fun k => if_neg (by simpa using c0)) ?_
    rw [decide_eq_false (show ¬ (1 ≤ n ∧ n ≤ 8 ∧ l.length ≤ 12) from fun z => c0 ⟨z.1, z.2.1⟩), Bool.false_and]
    refine Ev.step (f := fun k => some false) (fun k => ?_) (Ev.now _)
    simp only [impl_IsDrawing.j0]
    rw [if_pos trivial]

end Go.Proofs.Ytcdajmbnijmdfaa.PA

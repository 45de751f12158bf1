/- The program's CanMake returns what the reference's returns, for all arguments; no condition. -/
import Derived.Test.YtebjpafnfmmjeaaPAx14
import Derived.Test.YtebjpafnfmmjeaaLibS
namespace Go.Proofs.Ytebjpafnfmmjeaa.PA
open Go.RowKit Go.Proofs.YtebjpafnfmmjeaaW.PrintWords
def laws_FnExactCanMake.Pure : Prop := ∀ (l0 : List (List Int)) (a1 : Int) (a2 : Int) (a3 : Bool), l0.length ≤ 9223372036854775807 → (∀ r ∈ l0, r.length ≤ 9223372036854775807) → (∀ r ∈ l0, ∀ x ∈ r, (Lit.int .i64 x).wf = true) → (Lit.int .i64 a1).wf = true → (Lit.int .i64 a2).wf = true → ∃ k, laws_FnExactCanMake.f k l0 a1 a2 a3 = some true
end Go.Proofs.Ytebjpafnfmmjeaa.PA
namespace Go.Proofs.Ytebjpafnfmmjeaa.Pure
open Go.RowKit Go.Proofs.Ytebjpafnfmmjeaa.PA Go.Proofs.YtebjpafnfmmjeaaW.PrintWords Go.Proofs.YtebjpafnfmmjeaaW.PrintLast Go.Proofs.YtebjpafnfmmjeaaW.PrintMore
set_option linter.unusedVariables false
set_option linter.unusedSimpArgs false

theorem spec_CanMake_ev (l : List (List Int)) (w h : Int) (t : Bool) : Ev (fun k => spec_CanMake.f k l w h t) (decide (smallest l w h ≥ 0) || (t && decide (smallest l h w ≥ 0))) := by
  unfold spec_CanMake.f
  refine Ev.bind (spec_small_ev l w h) ?_
  by_cases c : smallest l w h ≥ 0
  · refine ev_eq (Ev.congr (fun k => if_pos c) (Ev.now true)) ?_
    simp [c]
  · refine Ev.congr (fun k => if_neg c) ?_
    rw [decide_eq_false c, Bool.false_or]
    cases t with
    | true => exact ev_eq (Ev.congr (fun k => if_pos rfl) (Ev.bind (spec_small_ev l h w) (Ev.now _))) (by simp)
    | false => exact ev_eq (Ev.congr (fun k => if_neg (by simp)) (Ev.now false)) (by simp)
theorem impl_CanMake_ev (l : List (List Int)) (w h : Int) (t : Bool) : Ev (fun k => impl_CanMake.f k l w h t) (decide (smallest l w h ≥ 0) || (t && decide (smallest l h w ≥ 0))) := by
  unfold impl_CanMake.f
  refine Ev.bind (impl_small_ev l w h) ?_
  by_cases c : smallest l w h ≥ 0
  · refine ev_eq (Ev.congr (fun k => if_pos c) (Ev.now true)) ?_
    simp [c]
  · refine Ev.congr (fun k => if_neg c) ?_
    rw [decide_eq_false c, Bool.false_or]
    cases t with
    | true => exact ev_eq (Ev.congr (fun k => if_pos rfl) (Ev.bind (impl_small_ev l h w) (Ev.now _))) (by simp)
    | false => exact ev_eq (Ev.congr (fun k => if_neg (by simp)) (Ev.now false)) (by simp)
theorem FnExactCanMake : laws_FnExactCanMake.Pure := by
  intro l0 a1 a2 a3 hl0 hr0 _ _ _
  refine Ev.rounds (g := fun k => laws_FnExactCanMake.f k l0 a1 a2 a3) ?_
  unfold laws_FnExactCanMake.f
  obtain ⟨s, hs, hd⟩ := szIntSS_ev l0 hl0 hr0
  refine Ev.bind hs ?_
  by_cases c : s < 0
  · exact Ev.congr (fun k => if_pos c) (Ev.now _)
  refine Ev.congr (fun k => if_neg c) ?_
  obtain ⟨h1, h2⟩ : l0.length ≤ 1048576 ∧ ∀ x ∈ l0, x.length ≤ 1048576 := by
    rcases hd with hd | hd
    · exact absurd hd c
    · exact hd
  refine Ev.bind (toIntSS_ev l0 h1 h2) ?_
  refine Ev.bind (spec_CanMake_ev l0 a1 a2 a3) ?_
  refine Ev.bind (toIntSS_ev l0 h1 h2) ?_
  refine Ev.bind (impl_CanMake_ev l0 a1 a2 a3) ?_
  refine Ev.congr (fun k => if_neg (by simp)) ?_
  refine Ev.bind (toIntSS_ev l0 h1 h2) ?_
  refine Ev.bind (eqIntSS_ev l0 l0 (by omega) (fun x hx => by have := h2 x hx; omega)) ?_
  exact ev_const (if_pos (by simp))

end Go.Proofs.Ytebjpafnfmmjeaa.Pure

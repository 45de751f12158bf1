/- The program's IsDrawing returns what the reference's returns, for all arguments; no condition. -/
import Derived.Test.YtcdajmbnijmdfaaPAx8
import Derived.Test.YtcdajmbnijmdfaaLibD
namespace Go.Proofs.Ytcdajmbnijmdfaa.PA
open Go.RowKit Go.Proofs.YtcdajmbnijmdfaaW.PrintWords
def laws_FnExactIsDrawing.Pure : Prop := ∀ (a0 : Int) (l1 : List (List Int)), (Lit.int .i64 a0).wf = true → l1.length ≤ 9223372036854775807 → (∀ r ∈ l1, r.length ≤ 9223372036854775807) → (∀ r ∈ l1, ∀ x ∈ r, (Lit.int .i64 x).wf = true) → ∃ k, laws_FnExactIsDrawing.f k a0 l1 = some true
end Go.Proofs.Ytcdajmbnijmdfaa.PA
namespace Go.Proofs.Ytcdajmbnijmdfaa.Pure
open Go.RowKit Go.Proofs.Ytcdajmbnijmdfaa.PA Go.Proofs.YtcdajmbnijmdfaaW.PrintWords Go.Proofs.YtcdajmbnijmdfaaW.PrintLast Go.Proofs.YtcdajmbnijmdfaaW.PrintMore
set_option linter.unusedVariables false
set_option linter.unusedSimpArgs false

theorem FnExactIsDrawing : laws_FnExactIsDrawing.Pure := by
  intro n l _ hl hr _
  refine Ev.rounds (g := fun k => laws_FnExactIsDrawing.f k n l) ?_
  unfold laws_FnExactIsDrawing.f
  obtain ⟨s, hs, hd⟩ := szIntSS_ev l hl hr
  refine Ev.bind hs ?_
  by_cases c : s < 0
  · exact Ev.congr (fun k => if_pos c) (Ev.now _)
  refine Ev.congr (fun k => if_neg c) ?_
  obtain ⟨h1, h2⟩ : l.length ≤ 1048576 ∧ ∀ x ∈ l, x.length ≤ 1048576 := by
    rcases hd with hd | hd
    · exact absurd hd c
    · exact hd
  refine Ev.bind (toIntSS_ev l h1 h2) ?_
  refine Ev.bind (spec_IsDrawing_ev n l) ?_
  refine Ev.bind (toIntSS_ev l h1 h2) ?_
  refine Ev.bind (impl_IsDrawing_ev n l) ?_
  refine Ev.congr (fun k => if_neg (by simp)) ?_
  refine Ev.bind (toIntSS_ev l h1 h2) ?_
  refine Ev.bind (eqIntSS_ev l l (by omega) (fun x hx => by have := h2 x hx; omega)) ?_
  exact ev_const (if_pos (by simp))

end Go.Proofs.Ytcdajmbnijmdfaa.Pure

/- The program's IsStroke returns what the reference's returns, for all arguments; no condition. -/
import Derived.Test.YtcdajmbnijmdfaaPAx12
import Derived.Test.YtcdajmbnijmdfaaLibK
namespace Go.Proofs.Ytcdajmbnijmdfaa.PA
open Go.RowKit Go.Proofs.YtcdajmbnijmdfaaW.PrintWords
def laws_FnExactIsStroke.Pure : Prop := ∀ (a0 : Int) (l1 : List (List Int)) (a2 : Int) (l3 : List Int), (Lit.int .i64 a0).wf = true → l1.length ≤ 9223372036854775807 → (∀ r ∈ l1, r.length ≤ 9223372036854775807) → (∀ r ∈ l1, ∀ x ∈ r, (Lit.int .i64 x).wf = true) → (Lit.int .i64 a2).wf = true → l3.length ≤ 9223372036854775807 → (∀ x ∈ l3, (Lit.int .i64 x).wf = true) → ∃ k, laws_FnExactIsStroke.f k a0 l1 a2 l3 = some true
end Go.Proofs.Ytcdajmbnijmdfaa.PA
namespace Go.Proofs.Ytcdajmbnijmdfaa.Pure
open Go.RowKit Go.Proofs.Ytcdajmbnijmdfaa.PA Go.Proofs.YtcdajmbnijmdfaaW.PrintWords Go.Proofs.YtcdajmbnijmdfaaW.PrintLast Go.Proofs.YtcdajmbnijmdfaaW.PrintMore
set_option linter.unusedVariables false
set_option linter.unusedSimpArgs false

theorem FnExactIsStroke : laws_FnExactIsStroke.Pure := by
  intro a0 l1 a2 l3 _ hl1 hr1 _ _ _ _
  refine Ev.rounds (g := fun k => laws_FnExactIsStroke.f k a0 l1 a2 l3) ?_
  unfold laws_FnExactIsStroke.f
  by_cases c3 : (l3.length : Int) > 1048576
  · exact Ev.congr (fun k => if_pos c3) (Ev.now _)
  refine Ev.congr (fun k => if_neg c3) ?_
  have b3 : l3.length ≤ 1048576 := by omega
  obtain ⟨s, hs, hd⟩ := szIntSS_ev l1 hl1 hr1
  refine Ev.bind hs ?_
  by_cases c : s < 0
  · exact Ev.congr (fun k => if_pos c) (Ev.now _)
  refine Ev.congr (fun k => if_neg c) ?_
  obtain ⟨h1, h2⟩ : l1.length ≤ 1048576 ∧ ∀ x ∈ l1, x.length ≤ 1048576 := by
    rcases hd with hd | hd
    · exact absurd hd c
    · exact hd
  refine Ev.bind (toIntSS_ev l1 h1 h2) ?_
  refine Ev.bind (toIntS_ev l3 b3) ?_
  refine Ev.bind (spec_IsStroke_ev a0 l1 a2 l3 (by omega)) ?_
  refine Ev.bind (toIntSS_ev l1 h1 h2) ?_
  refine Ev.bind (toIntS_ev l3 b3) ?_
  refine Ev.bind (impl_IsStroke_ev a0 l1 a2 l3 (by omega)) ?_
  refine Ev.congr (fun k => if_neg (by simp)) ?_
  refine Ev.bind (toIntSS_ev l1 h1 h2) ?_
  refine Ev.bind (eqIntSS_ev l1 l1 (by omega) (fun x hx => by have := h2 x hx; omega)) ?_
  refine Ev.congr (fun k => if_pos (by simp)) ?_
  refine Ev.bind (toIntS_ev l3 b3) ?_
  refine Ev.bind (eqIntS_ev l3 l3 (by omega)) ?_
  exact ev_const (if_pos (by simp))

end Go.Proofs.Ytcdajmbnijmdfaa.Pure

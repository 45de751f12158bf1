/- The program's WithLine returns what the reference's returns, for all arguments; no condition. -/
import Derived.Test.YtcdajmbnijmdfaaWalkFnExactWithLine
import Derived.Test.YtcdajmbnijmdfaaLibL
import Derived.Test.YtcdajmbnijmdfaaLibH
namespace Go.Proofs.Ytcdajmbnijmdfaa.PA
open Go.RowKit Go.Proofs.YtcdajmbnijmdfaaW.PrintWords
def laws_FnExactWithLine.Pure : Prop := ∀ (a0 : Int) (l1 : List (List Int)) (a2 : Int) (a3 : Int), (Lit.int .i64 a0).wf = true → l1.length ≤ 9223372036854775807 → (∀ r ∈ l1, r.length ≤ 9223372036854775807) → (∀ r ∈ l1, ∀ x ∈ r, (Lit.int .i64 x).wf = true) → (Lit.int .i64 a2).wf = true → (Lit.int .i64 a3).wf = true → ∃ k, laws_FnExactWithLine.f k a0 l1 a2 a3 = some true
end Go.Proofs.Ytcdajmbnijmdfaa.PA
namespace Go.Proofs.Ytcdajmbnijmdfaa.Pure
open Go.RowKit Go.Proofs.Ytcdajmbnijmdfaa.PA Go.Proofs.YtcdajmbnijmdfaaW.PrintWords Go.Proofs.YtcdajmbnijmdfaaW.PrintLast Go.Proofs.YtcdajmbnijmdfaaW.PrintMore
set_option linter.unusedVariables false
set_option linter.unusedSimpArgs false

theorem FnExactWithLine : laws_FnExactWithLine.Pure := by
  intro a0 l1 a2 a3 _ hl1 hr1 _ _ _
  refine Ev.rounds (g := fun k => laws_FnExactWithLine.f k a0 l1 a2 a3) ?_
  unfold laws_FnExactWithLine.f
  obtain ⟨s1, hs1, hd1⟩ := szTot_ev l1 1048576 (by omega) (by omega) hl1 hr1
  refine Ev.bind hs1 ?_
  by_cases c1 : s1 < 0
  · exact Ev.congr (fun k => if_pos c1) (Ev.now _)
  refine Ev.congr (fun k => if_neg c1) ?_
  obtain ⟨p1, t1⟩ : 0 ≤ s1 ∧ s1 + l1.length + totlen l1 ≤ 1048576 := by
    rcases hd1 with hd | hd
    · exact absurd hd c1
    · exact hd
  have b1 : l1.length ≤ 1048576 := by omega
  have g1 : ∀ x ∈ l1, x.length ≤ 1048576 := fun x hx => by have := mem_totlen hx; omega
  refine Ev.bind (toIntSS_ev l1 b1 g1) ?_
  refine Ev.bind (spec_WithLine_ev a0 l1 a2 a3) ?_
  refine Ev.bind (toIntSS_ev l1 b1 g1) ?_
  refine Ev.bind (impl_WithLine_ev a0 l1 a2 a3 b1) ?_
  obtain ⟨hw0, hq0, ht0⟩ := withLine_bd a0 l1 a2 a3
  refine Ev.bind (eqIntSS_ev _ _ (by omega) (fun x hx => by have := hq0 x hx; omega)) ?_
  refine Ev.congr (fun k => if_pos (by simp)) ?_
  refine Ev.congr (fun k => if_pos rfl) ?_
  refine Ev.bind (toIntSS_ev l1 b1 g1) ?_
  refine Ev.bind (eqIntSS_ev l1 l1 (by omega) (fun x hx => by have := g1 x hx; omega)) ?_
  refine Ev.congr (fun k => if_pos (by simp)) ?_
  refine Ev.bind (markIntSS_ev l1 (1) g1 (by omega) (by omega)) ?_
  refine Ev.congr (fun k => if_pos (by omega)) ?_
  refine Ev.bind (markIntSS_ev _ _ hq0 (by omega) (by omega)) ?_
  refine Ev.bind (heldIntSS_ev _ _ hq0 (by omega) (by omega) (by omega)) ?_
  refine Ev.congr (fun k => if_pos (by omega)) ?_
  refine Ev.congr (fun k => if_pos rfl) ?_
  refine Ev.bind (toIntSS_ev l1 b1 g1) ?_
  refine Ev.bind (impl_WithLine_ev a0 l1 a2 a3 b1) ?_
  refine Ev.bind (eqIntSS_ev _ _ (by omega) (fun x hx => by have := hq0 x hx; omega)) ?_
  refine Ev.congr (fun k => if_pos (by simp)) ?_
  refine Ev.congr (fun k => if_pos rfl) ?_
  exact Ev.now _

end Go.Proofs.Ytcdajmbnijmdfaa.Pure

/- The program's CutCloth returns what the reference's returns, for all arguments; no condition. -/
import Derived.Test.YtoildabjnioafaaWalkFnExactCutCloth
import Derived.Test.YtoildabjnioafaaLibCC
import Derived.Test.YtoildabjnioafaaLibMM
import Derived.Test.YtoildabjnioafaaLibM
namespace Go.Proofs.Ytoildabjnioafaa.PA
open Go.RowKit Go.Proofs.YtoildabjnioafaaW.PrintWords
def laws_FnExactCutCloth.Pure : Prop := ∀ (a0 : Int) (a1 : Int) (l2 : List Int), (Lit.int .i64 a0).wf = true → (Lit.int .i64 a1).wf = true → l2.length ≤ 9223372036854775807 → (∀ x ∈ l2, (Lit.int .i64 x).wf = true) → ∃ k, laws_FnExactCutCloth.f k a0 a1 l2 = some true
end Go.Proofs.Ytoildabjnioafaa.PA
namespace Go.Proofs.Ytoildabjnioafaa.Pure
open Go.RowKit Go.Proofs.Ytoildabjnioafaa.PA Go.Proofs.YtoildabjnioafaaW.PrintWords Go.Proofs.YtoildabjnioafaaW.PrintLast Go.Proofs.YtoildabjnioafaaW.PrintMore
set_option linter.unusedVariables false
set_option linter.unusedSimpArgs false

theorem FnExactCutCloth : laws_FnExactCutCloth.Pure := by
  intro a0 a1 l2 _ _ _ _
  refine Ev.rounds (g := fun k => laws_FnExactCutCloth.f k a0 a1 l2) ?_
  unfold laws_FnExactCutCloth.f
  by_cases c2 : (l2.length : Int) > 1048576
  · exact Ev.congr (fun k => if_pos c2) (Ev.now _)
  refine Ev.congr (fun k => if_neg c2) ?_
  have b2 : l2.length ≤ 1048576 := by omega
  refine Ev.bind (toIntS_ev l2 b2) ?_
  refine Ev.bind (spec_Cut_ev a0 a1 l2) ?_
  refine Ev.bind (toIntS_ev l2 b2) ?_
  refine Ev.bind (impl_Cut_ev a0 a1 l2) ?_
  obtain ⟨hw0, hq0, ht0⟩ := cut_bd a0 a1 l2
  refine Ev.bind (eqIntSS_ev _ _ (by omega) (fun x hx => by have := hq0 x hx; omega)) ?_
  refine Ev.congr (fun k => if_pos (by simp)) ?_
  refine Ev.bind (toIntS_ev l2 b2) ?_
  refine Ev.bind (eqIntS_ev l2 l2 (by omega)) ?_
  refine Ev.congr (fun k => if_pos (by simp)) ?_
  refine Ev.bind (markIntS_ev l2 (1) (by omega) (by omega) (by omega)) ?_
  refine Ev.congr (fun k => if_pos (by omega)) ?_
  refine Ev.bind (markIntSS_ev _ _ hq0 (by omega) (by omega)) ?_
  refine Ev.bind (heldIntSS_ev _ _ hq0 (by omega) (by omega) (by omega)) ?_
  refine Ev.congr (fun k => if_pos (by omega)) ?_
  refine Ev.congr (fun k => if_pos rfl) ?_
  refine Ev.bind (toIntS_ev l2 b2) ?_
  refine Ev.bind (impl_Cut_ev a0 a1 l2) ?_
  refine Ev.bind (eqIntSS_ev _ _ (by omega) (fun x hx => by have := hq0 x hx; omega)) ?_
  refine Ev.congr (fun k => if_pos (by simp)) ?_
  exact Ev.now _

end Go.Proofs.Ytoildabjnioafaa.Pure

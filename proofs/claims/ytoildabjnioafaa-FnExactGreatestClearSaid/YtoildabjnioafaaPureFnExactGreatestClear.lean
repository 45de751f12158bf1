/- The program's GreatestClear returns what the reference's returns, for all arguments; no condition. -/
import Derived.Test.YtoildabjnioafaaPAx30
import Derived.Test.YtoildabjnioafaaLibG
import Derived.Test.YtoildabjnioafaaLibM
namespace Go.Proofs.Ytoildabjnioafaa.Pure
open Go.RowKit Go.Proofs.Ytoildabjnioafaa.PA Go.Proofs.YtoildabjnioafaaW.PrintWords Go.Proofs.YtoildabjnioafaaW.PrintLast Go.Proofs.YtoildabjnioafaaW.PrintMore
set_option linter.unusedVariables false
set_option linter.unusedSimpArgs false

theorem FnExactGreatestClear : laws_FnExactGreatestClear.Pure := by
  intro w h m _ _ _
  refine Ev.rounds (g := fun k => laws_FnExactGreatestClear.f k w h m) ?_
  unfold laws_FnExactGreatestClear.f
  have hl := greatest_len w h m
  refine Ev.bind (spec_Greatest_ev w h m) ?_
  refine Ev.bind (impl_Greatest_ev w h m) ?_
  refine Ev.bind (eqIntS_ev _ _ (by omega)) ?_
  refine Ev.congr (fun k => if_pos (by simp)) ?_
  refine Ev.step (fun k => rfl) ?_
  simp only [laws_FnExactGreatestClear.j0]
  refine Ev.congr (fun k => if_neg (by simp)) ?_
  refine Ev.bind (markIntS_ev _ 1 (by omega) (by omega) (by omega)) ?_
  refine Ev.bind (heldIntS_ev _ 1 (by omega) (by omega) (by omega)) ?_
  refine Ev.congr (fun k => (if_neg (by omega)).trans (if_pos rfl)) ?_
  refine Ev.bind (impl_Greatest_ev w h m) ?_
  refine Ev.bind (eqIntS_ev _ _ (by omega)) ?_
  refine Ev.congr (fun k => if_pos (by simp)) ?_
  refine Ev.step (fun k => rfl) ?_
  simp only [laws_FnExactGreatestClear.j1]
  refine Ev.congr (fun k => if_neg (by simp)) ?_
  refine Ev.bind (heldIntS_ev _ 1 (by omega) (by omega) (by omega)) ?_
  exact Ev.congr (fun k => (if_neg (by omega)).trans (if_pos rfl)) (Ev.now _)

end Go.Proofs.Ytoildabjnioafaa.Pure

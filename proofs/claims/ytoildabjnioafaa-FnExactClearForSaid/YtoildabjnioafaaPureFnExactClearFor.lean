/- The program's ClearFor returns what the reference's returns, for all arguments; no condition. -/
import Derived.Test.YtoildabjnioafaaPAx27
import Derived.Test.YtoildabjnioafaaLibAc
import Derived.Test.YtoildabjnioafaaLibM
namespace Go.Proofs.Ytoildabjnioafaa.Pure
open Go.RowKit Go.Proofs.Ytoildabjnioafaa.PA Go.Proofs.YtoildabjnioafaaW.PrintWords Go.Proofs.YtoildabjnioafaaW.PrintLast Go.Proofs.YtoildabjnioafaaW.PrintMore
set_option linter.unusedVariables false
set_option linter.unusedSimpArgs false

theorem FnExactClearFor : laws_FnExactClearFor.Pure := by
  intro w h m v u _ _ _ _ _
  refine Ev.rounds (g := fun k => laws_FnExactClearFor.f k w h m v u) ?_
  unfold laws_FnExactClearFor.f
  have hl := clearFor_len w h m v u
  refine Ev.bind (spec_ClearFor_ev w h m v u) ?_
  refine Ev.bind (impl_ClearFor_ev w h m v u) ?_
  refine Ev.bind (eqIntS_ev _ _ (by omega)) ?_
  refine Ev.congr (fun k => if_pos (by simp)) ?_
  refine Ev.step (fun k => rfl) ?_
  simp only [laws_FnExactClearFor.j0]
  refine Ev.congr (fun k => if_neg (by simp)) ?_
  refine Ev.bind (markIntS_ev _ 1 (by omega) (by omega) (by omega)) ?_
  refine Ev.bind (heldIntS_ev _ 1 (by omega) (by omega) (by omega)) ?_
  refine Ev.congr (fun k => (if_neg (by omega)).trans (if_pos rfl)) ?_
  refine Ev.bind (impl_ClearFor_ev w h m v u) ?_
  refine Ev.bind (eqIntS_ev _ _ (by omega)) ?_
  refine Ev.congr (fun k => if_pos (by simp)) ?_
  refine Ev.step (fun k => rfl) ?_
  simp only [laws_FnExactClearFor.j1]
  refine Ev.congr (fun k => if_neg (by simp)) ?_
  refine Ev.bind (heldIntS_ev _ 1 (by omega) (by omega) (by omega)) ?_
  exact Ev.congr (fun k => (if_neg (by omega)).trans (if_pos rfl)) (Ev.now _)

end Go.Proofs.Ytoildabjnioafaa.Pure

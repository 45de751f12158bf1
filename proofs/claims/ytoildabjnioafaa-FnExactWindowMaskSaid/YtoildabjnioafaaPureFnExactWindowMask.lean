/- The program's WindowMask returns what the reference's returns, for all arguments; no condition. -/
import Derived.Test.YtoildabjnioafaaPAx14
import Derived.Test.YtoildabjnioafaaLibAm
namespace Go.Proofs.Ytoildabjnioafaa.Pure
open Go.RowKit Go.Proofs.Ytoildabjnioafaa.PA Go.Proofs.YtoildabjnioafaaW.PrintWords Go.Proofs.YtoildabjnioafaaW.PrintLast Go.Proofs.YtoildabjnioafaaW.PrintMore
set_option linter.unusedVariables false
set_option linter.unusedSimpArgs false

theorem spec_WindowMask_ev (w h : Int) (l : List Int) : Ev (fun k => spec_WindowMask.f k w h l) (maskI w h l) := by
  refine Ev.bind (spec_WindowOk_ev w h l) ?_
  by_cases c : winOk w h l = true
  · refine Ev.congr (fun k => if_pos c) ?_
    exact Ev.bind (spec_l20Mask_ev w h l c) (Ev.now _)
  · refine ev_eq (Ev.congr (fun k => if_neg c) (Ev.now 0)) ?_
    unfold maskI
    rw [if_neg c]
theorem FnExactWindowMask : laws_FnExactWindowMask.Pure := by
  intro a0 a1 l _ _ _ _ _
  refine Ev.rounds (g := fun k => laws_FnExactWindowMask.f k a0 a1 l) ?_
  unfold laws_FnExactWindowMask.f
  by_cases c : (l.length : Int) > 1048576
  · exact Ev.congr (fun k => if_pos c) (Ev.now _)
  refine Ev.congr (fun k => if_neg c) ?_
  have hl : l.length ≤ 1048576 := by omega
  refine Ev.bind (toIntS_ev l hl) ?_
  refine Ev.bind (spec_WindowMask_ev a0 a1 l) ?_
  refine Ev.bind (toIntS_ev l hl) ?_
  refine Ev.bind (impl_WindowMask_ev a0 a1 l) ?_
  refine Ev.congr (fun k => if_pos rfl) ?_
  refine Ev.bind (toIntS_ev l hl) ?_
  refine Ev.bind (eqIntS_ev l l (by omega)) ?_
  refine ev_const (if_pos (by simp))

end Go.Proofs.Ytoildabjnioafaa.Pure

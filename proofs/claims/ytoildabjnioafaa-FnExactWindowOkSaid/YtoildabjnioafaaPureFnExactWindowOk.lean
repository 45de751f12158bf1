/- The program's WindowOk returns what the reference's returns, for all arguments; no condition. -/
import Derived.Test.YtoildabjnioafaaPAx10
import Derived.Test.YtoildabjnioafaaLibAw
namespace Go.Proofs.Ytoildabjnioafaa.Pure
open Go.RowKit Go.Proofs.Ytoildabjnioafaa.PA Go.Proofs.YtoildabjnioafaaW.PrintWords Go.Proofs.YtoildabjnioafaaW.PrintLast Go.Proofs.YtoildabjnioafaaW.PrintMore

theorem FnExactWindowOk : laws_FnExactWindowOk.Pure := by
  intro a0 a1 l _ _ _ _ _
  refine Ev.rounds (g := fun k => laws_FnExactWindowOk.f k a0 a1 l) ?_
  unfold laws_FnExactWindowOk.f
  by_cases c : (l.length : Int) > 1048576
  · exact Ev.congr (fun k => if_pos c) (Ev.now _)
  refine Ev.congr (fun k => if_neg c) ?_
  have hl : l.length ≤ 1048576 := by omega
  refine Ev.bind (toIntS_ev l hl) ?_
  refine Ev.bind (spec_WindowOk_ev a0 a1 l) ?_
  refine Ev.bind (toIntS_ev l hl) ?_
  refine Ev.bind (ev_const (impl_WindowOk_eq a0 a1 l)) ?_
  refine Ev.congr (fun k => if_neg (by simp)) ?_
  refine Ev.bind (toIntS_ev l hl) ?_
  refine Ev.bind (eqIntS_ev l l (by omega)) ?_
  refine ev_const (if_pos (by simp))

end Go.Proofs.Ytoildabjnioafaa.Pure

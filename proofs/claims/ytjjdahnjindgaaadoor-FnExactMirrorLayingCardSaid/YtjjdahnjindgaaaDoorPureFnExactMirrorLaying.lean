/- The program's MirrorLaying returns what the reference's returns, for all arguments. -/
import Derived.Test.YtjjdahnjindgaaaDoorPAx19
import Derived.Test.YtjjdahnjindgaaaDoorLibN
namespace Go.Proofs.YtjjdahnjindgaaaDoor.Pure
open Go.RowKit Go.Proofs.YtjjdahnjindgaaaDoor.PA Go.Proofs.YtjjdahnjindgaaaDoorW.PrintWords Go.Proofs.YtjjdahnjindgaaaDoorW.PrintLast Go.Proofs.YtjjdahnjindgaaaDoorW.PrintMore
set_option linter.unusedVariables false
set_option linter.unusedSimpArgs false

theorem FnExactMirrorLaying : laws_FnExactMirrorLaying.Pure := by
  intro a0 _
  refine Ev.rounds (g := fun k => laws_FnExactMirrorLaying.f k a0) ?_
  unfold laws_FnExactMirrorLaying.f
  by_cases c0 : (a0.size : Int) > 1048576
  · exact Ev.congr (fun k => if_pos c0) (Ev.now _)
  refine Ev.congr (fun k => if_neg c0) ?_
  refine Ev.bind (spec_Mirror_ev a0) ?_
  refine Ev.bind (ev_const (impl_Mirror_eq a0)) ?_
  exact Ev.congr (fun k => if_pos rfl) (Ev.now _)

end Go.Proofs.YtjjdahnjindgaaaDoor.Pure

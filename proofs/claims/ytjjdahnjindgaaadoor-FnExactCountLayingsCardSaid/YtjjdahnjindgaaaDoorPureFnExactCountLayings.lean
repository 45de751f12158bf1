/- The program's CountLayings returns what the reference's returns, for all arguments. -/
import Derived.Test.YtjjdahnjindgaaaDoorPAx16
import Derived.Test.YtjjdahnjindgaaaDoorLibE
import Derived.Test.YtjjdahnjindgaaaDoorLibM
namespace Go.Proofs.YtjjdahnjindgaaaDoor.Pure
open Go.RowKit Go.Proofs.YtjjdahnjindgaaaDoor.PA Go.Proofs.YtjjdahnjindgaaaDoorW.PrintWords Go.Proofs.YtjjdahnjindgaaaDoorW.PrintLast Go.Proofs.YtjjdahnjindgaaaDoorW.PrintMore
set_option linter.unusedVariables false
set_option linter.unusedSimpArgs false

theorem FnExactCountLayings : laws_FnExactCountLayings.Pure := by
  intro l0 a1 _ _ _ _
  refine Ev.rounds (g := fun k => laws_FnExactCountLayings.f k l0 a1) ?_
  unfold laws_FnExactCountLayings.f
  by_cases c0 : (l0.length : Int) > 1048576
  · exact Ev.congr (fun k => if_pos c0) (Ev.now _)
  refine Ev.congr (fun k => if_neg c0) ?_
  have b0 : l0.length ≤ 1048576 := by omega
  refine Ev.bind (toIntS_ev l0 b0) ?_
  refine Ev.bind (spec_Count_ev l0 a1) ?_
  refine Ev.bind (toIntS_ev l0 b0) ?_
  refine Ev.bind (impl_Count_ev l0 a1) ?_
  refine Ev.congr (fun k => if_pos rfl) ?_
  refine Ev.bind (toIntS_ev l0 b0) ?_
  refine Ev.bind (eqIntS_ev l0 l0 (by omega)) ?_
  exact Ev.congr (fun k => if_pos (by simp)) (Ev.now _)

end Go.Proofs.YtjjdahnjindgaaaDoor.Pure

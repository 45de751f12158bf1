/- The program's LeastRoom returns what the reference's returns, for all arguments; no condition. -/
import Derived.Test.YtjjdahnjindgaaaPAx15
import Derived.Test.YtjjdahnjindgaaaLibB
namespace Go.Proofs.Ytjjdahnjindgaaa.Pure
open Go.RowKit Go.Proofs.Ytjjdahnjindgaaa.PA Go.Proofs.YtjjdahnjindgaaaW.PrintWords Go.Proofs.YtjjdahnjindgaaaW.PrintLast Go.Proofs.YtjjdahnjindgaaaW.PrintMore
set_option linter.unusedVariables false
set_option linter.unusedSimpArgs false

theorem FnExactLeastRoom : laws_FnExactLeastRoom.Pure := by
  intro l0 _ _ _
  refine Ev.rounds (g := fun k => laws_FnExactLeastRoom.f k l0) ?_
  unfold laws_FnExactLeastRoom.f
  by_cases c0 : (l0.length : Int) > 1048576
  · exact Ev.congr (fun k => if_pos c0) (Ev.now _)
  refine Ev.congr (fun k => if_neg c0) ?_
  have b0 : l0.length ≤ 1048576 := by omega
  refine Ev.bind (toIntS_ev l0 b0) ?_
  refine Ev.bind (spec_Least_ev l0) ?_
  refine Ev.bind (toIntS_ev l0 b0) ?_
  refine Ev.bind (impl_Least_ev l0) ?_
  refine Ev.congr (fun k => if_pos rfl) ?_
  refine Ev.bind (toIntS_ev l0 b0) ?_
  refine Ev.bind (eqIntS_ev l0 l0 (by omega)) ?_
  exact ev_const (if_pos (by simp))

end Go.Proofs.Ytjjdahnjindgaaa.Pure

/- The program's LayersFor returns what the reference's returns, for all arguments; no condition. -/
import Derived.Test.YtghnaclpjdhilaaPAx10
import Derived.Test.YtghnaclpjdhilaaLibP
namespace Go.Proofs.Ytghnaclpjdhilaa.Pure
open Go.RowKit Go.Proofs.Ytghnaclpjdhilaa.PA Go.Proofs.YtghnaclpjdhilaaW.PrintWords Go.Proofs.YtghnaclpjdhilaaW.PrintLast Go.Proofs.YtghnaclpjdhilaaW.PrintMore
set_option linter.unusedVariables false
set_option linter.unusedSimpArgs false

theorem FnExactLayersFor : laws_FnExactLayersFor.Pure := by
  intro l0 l1 _ _ _ _ _ _
  refine Ev.rounds (g := fun k => laws_FnExactLayersFor.f k l0 l1) ?_
  unfold laws_FnExactLayersFor.f
  by_cases c0 : (l0.length : Int) > 1048576
  · exact Ev.congr (fun k => if_pos c0) (Ev.now _)
  refine Ev.congr (fun k => if_neg c0) ?_
  have b0 : l0.length ≤ 1048576 := by omega
  by_cases c1 : (l1.length : Int) > 1048576
  · exact Ev.congr (fun k => if_pos c1) (Ev.now _)
  refine Ev.congr (fun k => if_neg c1) ?_
  have b1 : l1.length ≤ 1048576 := by omega
  refine Ev.bind (toIntS_ev l0 b0) ?_
  refine Ev.bind (toIntS_ev l1 b1) ?_
  refine Ev.bind (spec_LayersFor_ev l0 l1) ?_
  refine Ev.bind (toIntS_ev l0 b0) ?_
  refine Ev.bind (toIntS_ev l1 b1) ?_
  refine Ev.bind (impl_LayersFor_ev l0 l1) ?_
  refine Ev.congr (fun k => if_pos rfl) ?_
  refine Ev.bind (toIntS_ev l0 b0) ?_
  refine Ev.bind (eqIntS_ev l0 l0 (by omega)) ?_
  refine Ev.congr (fun k => if_pos (by simp)) ?_
  refine Ev.bind (toIntS_ev l1 b1) ?_
  refine Ev.bind (eqIntS_ev l1 l1 (by omega)) ?_
  exact ev_const (if_pos (by simp))

end Go.Proofs.Ytghnaclpjdhilaa.Pure

/- The program's CountClear returns what the reference's returns, for all arguments; no condition. -/
import Derived.Test.YtoildabjnioafaaPAx19
import Derived.Test.YtoildabjnioafaaLibAa
namespace Go.Proofs.Ytoildabjnioafaa.Pure
open Go.RowKit Go.Proofs.Ytoildabjnioafaa.PA Go.Proofs.YtoildabjnioafaaW.PrintWords Go.Proofs.YtoildabjnioafaaW.PrintLast Go.Proofs.YtoildabjnioafaaW.PrintMore
set_option linter.unusedVariables false
set_option linter.unusedSimpArgs false

theorem FnExactCountClear : laws_FnExactCountClear.Pure := by
  intro w h m _ _ _
  refine Ev.rounds (g := fun k => laws_FnExactCountClear.f k w h m) ?_
  unfold laws_FnExactCountClear.f
  have key : ∃ r : Int, Ev (fun k => spec_CountClear.f k w h m) r ∧ Ev (fun k => impl_CountClear.f k w h m) r := by
    by_cases c : shapeOk w h m = true
    · refine ⟨((allWin w h m).length : Int), ?_, ?_⟩
      · unfold spec_CountClear.f
        refine Ev.bind (ev_const (spec_ShapeOk_eq w h m)) ?_
        refine Ev.congr (fun k => if_pos c) ?_
        exact Ev.bind (spec_all_ev c) (Ev.now _)
      · unfold impl_CountClear.f
        refine Ev.bind (ev_const (impl_ShapeOk_eq w h m)) ?_
        refine Ev.congr (fun k => if_pos c) ?_
        exact Ev.bind (impl_all_ev c) (Ev.now _)
    · refine ⟨-1, ?_, ?_⟩
      · unfold spec_CountClear.f
        refine Ev.bind (ev_const (spec_ShapeOk_eq w h m)) ?_
        exact Ev.congr (fun k => if_neg c) (Ev.now _)
      · unfold impl_CountClear.f
        refine Ev.bind (ev_const (impl_ShapeOk_eq w h m)) ?_
        exact Ev.congr (fun k => if_neg c) (Ev.now _)
  obtain ⟨r, h1, h2⟩ := key
  refine Ev.bind h1 ?_
  refine Ev.bind h2 ?_
  exact Ev.congr (fun k => if_pos rfl) (Ev.now _)

end Go.Proofs.Ytoildabjnioafaa.Pure

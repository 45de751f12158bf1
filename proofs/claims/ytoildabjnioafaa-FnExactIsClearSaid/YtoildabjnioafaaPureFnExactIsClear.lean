/- The program's IsClear returns what the reference's returns, for all arguments; no condition. -/
import Derived.Test.YtoildabjnioafaaPAx15
import Derived.Test.YtoildabjnioafaaLibAm
namespace Go.Proofs.Ytoildabjnioafaa.Pure
open Go.RowKit Go.Proofs.Ytoildabjnioafaa.PA Go.Proofs.YtoildabjnioafaaW.PrintWords Go.Proofs.YtoildabjnioafaaW.PrintLast Go.Proofs.YtoildabjnioafaaW.PrintMore
set_option linter.unusedVariables false
set_option linter.unusedSimpArgs false

def isClear (w h m : Int) (l : List Int) : Bool := shapeOk w h m && winOk w h l && (Go.bits .and .i64 (maskI w h l) m == 0)
theorem spec_IsClear_ev (w h m : Int) (l : List Int) : Ev (fun k => spec_IsClear.f k w h m l) (isClear w h m l) := by
  unfold spec_IsClear.f
  refine Ev.bind (ev_const (spec_ShapeOk_eq w h m)) ?_
  unfold isClear
  by_cases c0 : shapeOk w h m = true
  · refine Ev.congr (fun k => if_pos c0) ?_
    refine Ev.bind (spec_WindowOk_ev w h l) ?_
    by_cases c : winOk w h l = true
    · refine Ev.congr (fun k => if_pos c) ?_
      refine ev_eq (Ev.bind (spec_l20Mask_ev w h l c) (Ev.now _)) ?_
      simp [c0, c]
    · refine ev_eq (Ev.congr (fun k => if_neg c) (Ev.now false)) ?_
      simp [c]
  · refine ev_eq (Ev.congr (fun k => if_neg c0) (Ev.now false)) ?_
    simp [c0]
theorem impl_IsClear_ev (w h m : Int) (l : List Int) : Ev (fun k => impl_IsClear.f k w h m l) (isClear w h m l) := by
  unfold impl_IsClear.f
  refine Ev.bind (ev_const (impl_ShapeOk_eq w h m)) ?_
  unfold isClear
  by_cases c0 : shapeOk w h m = true
  · refine Ev.congr (fun k => if_pos c0) ?_
    refine Ev.bind (ev_const (impl_WindowOk_eq w h l)) ?_
    by_cases c : winOk w h l = true
    · refine Ev.congr (fun k => if_pos c) ?_
      refine ev_eq (Ev.bind (impl_WindowMask_ev w h l) (Ev.now _)) ?_
      simp [c0, c]
    · refine ev_eq (Ev.congr (fun k => if_neg c) (Ev.now false)) ?_
      simp [c]
  · refine ev_eq (Ev.congr (fun k => if_neg c0) (Ev.now false)) ?_
    simp [c0]
theorem FnExactIsClear : laws_FnExactIsClear.Pure := by
  intro a0 a1 a2 l _ _ _ _ _ _
  refine Ev.rounds (g := fun k => laws_FnExactIsClear.f k a0 a1 a2 l) ?_
  unfold laws_FnExactIsClear.f
  by_cases c : (l.length : Int) > 1048576
  · exact Ev.congr (fun k => if_pos c) (Ev.now _)
  refine Ev.congr (fun k => if_neg c) ?_
  have hl : l.length ≤ 1048576 := by omega
  refine Ev.bind (toIntS_ev l hl) ?_
  refine Ev.bind (spec_IsClear_ev a0 a1 a2 l) ?_
  refine Ev.bind (toIntS_ev l hl) ?_
  refine Ev.bind (impl_IsClear_ev a0 a1 a2 l) ?_
  refine Ev.congr (fun k => if_neg (by simp)) ?_
  refine Ev.bind (toIntS_ev l hl) ?_
  refine Ev.bind (eqIntS_ev l l (by omega)) ?_
  refine ev_const (if_pos (by simp))

end Go.Proofs.Ytoildabjnioafaa.Pure

/- The program's EndsOf returns what the reference's returns, for all arguments. -/
import Derived.Test.YtjjdahnjindgaaaDoorPAx9
import Derived.Test.YtjjdahnjindgaaaDoorLibE
import Derived.Test.YtjjdahnjindgaaaDoorLibM
namespace Go.Proofs.YtjjdahnjindgaaaDoor.Pure
open Go.RowKit Go.Proofs.YtjjdahnjindgaaaDoor.PA Go.Proofs.YtjjdahnjindgaaaDoorW.PrintWords Go.Proofs.YtjjdahnjindgaaaDoorW.PrintLast Go.Proofs.YtjjdahnjindgaaaDoorW.PrintMore
set_option linter.unusedVariables false
set_option linter.unusedSimpArgs false

theorem ends_j0_ev (l0 : List Int) (a1 : ByteArray) (b0 : l0.length ≤ 1048576) : Ev (fun k => laws_FnExactEndsOf.j0 k l0 a1 (endsOf l0 a1) (endsOf l0 a1) false) true := by
  have hq := endsOf_len l0 a1
  refine Ev.step (f := fun k => ((laws_markIntS.f k (endsOf l0 a1) 1).bind fun bt167 => ((laws_heldIntS.f k bt167.2 1).bind fun t169 => (if t169 < 0 then (some false) else (if t169 = bt167.1 then ((laws_toIntS.f k l0).bind fun t170 => ((impl_EndsOf.f k t170 a1).bind fun t173 => ((laws_eqIntS.f k t173 (endsOf l0 a1)).bind fun t176 => (if t176 = true then ((laws_heldIntS.f k bt167.2 1).bind fun t177 => (if t177 < 0 then (some false) else (if t177 = bt167.1 then (some true) else (some false)))) else (some false))))) else (some false)))))) (fun k => ?_) ?_
  · rw [laws_FnExactEndsOf.j0, if_neg (by simp)]
  refine Ev.bind (markIntS_ev _ _ (by omega) (by omega) (by omega)) ?_
  refine Ev.bind (heldIntS_ev _ _ (by omega) (by omega) (by omega)) ?_
  refine Ev.congr (fun k => if_neg (by omega)) ?_
  refine Ev.congr (fun k => if_pos rfl) ?_
  refine Ev.bind (toIntS_ev l0 b0) ?_
  refine Ev.bind (impl_EndsOf_ev l0 a1) ?_
  refine Ev.bind (eqIntS_ev _ _ (by omega)) ?_
  refine Ev.congr (fun k => if_pos (by simp)) ?_
  refine Ev.bind (heldIntS_ev _ _ (by omega) (by omega) (by omega)) ?_
  refine Ev.congr (fun k => if_neg (by omega)) ?_
  refine Ev.congr (fun k => if_pos rfl) ?_
  exact Ev.now _
theorem FnExactEndsOf : laws_FnExactEndsOf.Pure := by
  intro l0 a1 _ _ _ _
  refine Ev.rounds (g := fun k => laws_FnExactEndsOf.f k l0 a1) ?_
  unfold laws_FnExactEndsOf.f
  by_cases c0 : (l0.length : Int) > 1048576
  · exact Ev.congr (fun k => if_pos c0) (Ev.now _)
  refine Ev.congr (fun k => if_neg c0) ?_
  by_cases c1 : (a1.size : Int) > 1048576
  · exact Ev.congr (fun k => if_pos c1) (Ev.now _)
  refine Ev.congr (fun k => if_neg c1) ?_
  have b0 : l0.length ≤ 1048576 := by omega
  have hq := endsOf_len l0 a1
  refine Ev.bind (toIntS_ev l0 b0) ?_
  refine Ev.bind (spec_EndsOf_ev l0 a1) ?_
  refine Ev.bind (toIntS_ev l0 b0) ?_
  refine Ev.bind (impl_EndsOf_ev l0 a1) ?_
  refine Ev.bind (eqIntS_ev _ _ (by omega)) ?_
  refine Ev.congr (fun k => if_pos (by simp)) ?_
  refine Ev.bind (toIntS_ev l0 b0) ?_
  refine Ev.bind (eqIntS_ev l0 l0 (by omega)) ?_
  refine Ev.congr (fun k => if_pos (by simp)) ?_
  refine Ev.bind (markIntS_ev l0 1 (by omega) (by omega) (by omega)) ?_
  refine Ev.congr (fun k => if_neg (by omega)) ?_
  refine Ev.bind (eqIntS_ev _ _ (by omega)) ?_
  have e1 : (!decide (endsOf l0 a1 = endsOf l0 a1)) = false := by simp
  rw [e1]
  exact ends_j0_ev l0 a1 b0

end Go.Proofs.YtjjdahnjindgaaaDoor.Pure

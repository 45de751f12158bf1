/- The program's ReachOf returns what the reference's returns, for all arguments; no condition. -/
import Derived.Test.YtjjdahnjindgaaaPAx22
import Derived.Test.YtjjdahnjindgaaaLibM
namespace Go.Proofs.Ytjjdahnjindgaaa.Pure
open Go.RowKit Go.Proofs.Ytjjdahnjindgaaa.PA Go.Proofs.YtjjdahnjindgaaaW.PrintWords Go.Proofs.YtjjdahnjindgaaaW.PrintLast Go.Proofs.YtjjdahnjindgaaaW.PrintMore
set_option linter.unusedVariables false
set_option linter.unusedSimpArgs false

theorem reachP_len (l : List Int) : (reachP l).length ≤ 1024 := by
  unfold reachP
  by_cases c : rulerOk l = true
  · rw [if_pos c]
    have h1 := compact_len (((List.range (2 ^ l.length)).map fun i => absI (endAt l i)).mergeSort fun x y => decide (x ≤ y))
    rw [List.length_mergeSort, List.length_map, List.length_range] at h1
    exact Nat.le_trans h1 (pow_small (parts_of c).1.1)
  · rw [if_neg c]
    exact Nat.zero_le _
theorem reach_j0_ev (l0 : List Int) (b0 : l0.length ≤ 1048576) : Ev (fun k => laws_FnExactReachOf.j0 k l0 (reachP l0) (reachP l0) false) true := by
  have hq := reachP_len l0
  refine Ev.step (f := fun k => ((laws_markIntS.f k (reachP l0) 1).bind fun bt304 => ((laws_heldIntS.f k bt304.2 1).bind fun t306 => (if t306 < 0 then (some false) else (if t306 = bt304.1 then ((laws_toIntS.f k l0).bind fun t307 => ((impl_ReachOf.f k t307).bind fun t310 => ((laws_eqIntS.f k t310 (reachP l0)).bind fun t313 => (if t313 = true then ((laws_heldIntS.f k bt304.2 1).bind fun t314 => (if t314 < 0 then (some false) else (if t314 = bt304.1 then (some true) else (some false)))) else (some false))))) else (some false)))))) (fun k => ?_) ?_
  · rw [laws_FnExactReachOf.j0, if_neg (by simp)]
  refine Ev.bind (markIntS_ev _ _ (by omega) (by omega) (by omega)) ?_
  refine Ev.bind (heldIntS_ev _ _ (by omega) (by omega) (by omega)) ?_
  refine Ev.congr (fun k => if_neg (by omega)) ?_
  refine Ev.congr (fun k => if_pos rfl) ?_
  refine Ev.bind (toIntS_ev l0 b0) ?_
  refine Ev.bind (impl_Reach_ev l0) ?_
  refine Ev.bind (eqIntS_ev _ _ (by omega)) ?_
  refine Ev.congr (fun k => if_pos (by simp)) ?_
  refine Ev.bind (heldIntS_ev _ _ (by omega) (by omega) (by omega)) ?_
  refine Ev.congr (fun k => if_neg (by omega)) ?_
  refine Ev.congr (fun k => if_pos rfl) ?_
  exact Ev.now _
theorem FnExactReachOf : laws_FnExactReachOf.Pure := by
  intro l0 _ _ _
  refine Ev.rounds (g := fun k => laws_FnExactReachOf.f k l0) ?_
  unfold laws_FnExactReachOf.f
  by_cases c0 : (l0.length : Int) > 1048576
  · exact Ev.congr (fun k => if_pos c0) (Ev.now _)
  refine Ev.congr (fun k => if_neg c0) ?_
  have b0 : l0.length ≤ 1048576 := by omega
  have hq := reachP_len l0
  refine Ev.bind (toIntS_ev l0 b0) ?_
  refine Ev.bind (spec_Reach_ev l0) ?_
  refine Ev.bind (toIntS_ev l0 b0) ?_
  refine Ev.bind (impl_Reach_ev l0) ?_
  refine Ev.bind (eqIntS_ev _ _ (by omega)) ?_
  refine Ev.congr (fun k => if_pos (by simp)) ?_
  refine Ev.bind (toIntS_ev l0 b0) ?_
  refine Ev.bind (eqIntS_ev l0 l0 (by omega)) ?_
  refine Ev.congr (fun k => if_pos (by simp)) ?_
  refine Ev.bind (markIntS_ev l0 1 (by omega) (by omega) (by omega)) ?_
  refine Ev.congr (fun k => if_neg (by omega)) ?_
  refine Ev.bind (eqIntS_ev _ _ (by omega)) ?_
  have e1 : (!decide (reachP l0 = reachP l0)) = false := by simp
  rw [e1]
  exact reach_j0_ev l0 b0

end Go.Proofs.Ytjjdahnjindgaaa.Pure

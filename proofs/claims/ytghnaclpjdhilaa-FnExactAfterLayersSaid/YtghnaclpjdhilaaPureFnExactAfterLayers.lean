/- AfterLayers, plainly -/
import Derived.Test.YtghnaclpjdhilaaPAx17
import Derived.Test.YtghnaclpjdhilaaLibA
import Derived.Test.YtghnaclpjdhilaaLibM
namespace Go.Proofs.Ytghnaclpjdhilaa.Pure
open Go.RowKit Go.Proofs.Ytghnaclpjdhilaa.PA Go.Proofs.YtghnaclpjdhilaaW.PrintWords Go.Proofs.YtghnaclpjdhilaaW.PrintLast Go.Proofs.YtghnaclpjdhilaaW.PrintMore
set_option linter.unusedVariables false
set_option linter.unusedSimpArgs false

theorem after_2 (L : List Int) (b : Bool) (hl : L.length ≤ 5) : Ev (fun k => laws_FnExactAfterLayers.j2 k (ramp 1 L.length) (1 + L.length) (b != b)) true := by
  refine Ev.step (fun k => rfl) ?_
  simp only [laws_FnExactAfterLayers.j2]
  refine Ev.congr (fun k => if_neg (by simp)) ?_
  refine Ev.bind (heldIntS_ev L.length 1 (by omega) (by omega) (by omega)) ?_
  exact Ev.congr (fun k => (if_neg (by omega)).trans (if_pos rfl)) (Ev.now _)
theorem after_1 (l0 l1 : List Int) (a2 : Int) (b0 : l0.length ≤ 1048576) (b1 : l1.length ≤ 1048576) (b : Bool) (hb : b = (afterOf l0 l1 a2).2) : Ev (fun k => laws_FnExactAfterLayers.j1 k l0 l1 a2 (afterOf l0 l1 a2).1 b (afterOf l0 l1 a2).1 (b != b)) true := by
  have hl := afterOf_len l0 l1 a2
  refine Ev.step (fun k => rfl) ?_
  simp only [laws_FnExactAfterLayers.j1]
  refine Ev.congr (fun k => if_neg (by simp)) ?_
  refine Ev.bind (markIntS_ev (afterOf l0 l1 a2).1 1 (by omega) (by omega) (by omega)) ?_
  refine Ev.bind (heldIntS_ev _ 1 (by omega) (by omega) (by omega)) ?_
  refine Ev.congr (fun k => (if_neg (by omega)).trans (if_pos rfl)) ?_
  refine Ev.bind (toIntS_ev l0 b0) ?_
  refine Ev.bind (toIntS_ev l1 b1) ?_
  refine Ev.bind (impl_After_ev l0 l1 a2) ?_
  refine Ev.bind (eqIntS_ev _ _ (by omega)) ?_
  refine Ev.congr (fun k => if_pos (by simp)) ?_
  rw [← hb]
  exact after_2 _ b hl
theorem after_0 (l0 l1 : List Int) (a2 : Int) (b0 : l0.length ≤ 1048576) (b1 : l1.length ≤ 1048576) (b : Bool) (hb : b = (afterOf l0 l1 a2).2) : Ev (fun k => laws_FnExactAfterLayers.j0 k l0 l1 a2 (afterOf l0 l1 a2).1 b l0 l1 (afterOf l0 l1 a2).1 b (b != b)) true := by
  have hl := afterOf_len l0 l1 a2
  refine Ev.step (fun k => rfl) ?_
  simp only [laws_FnExactAfterLayers.j0]
  refine Ev.congr (fun k => if_neg (by simp)) ?_
  refine Ev.bind (toIntS_ev l0 b0) ?_
  refine Ev.bind (eqIntS_ev l0 l0 (by omega)) ?_
  refine Ev.congr (fun k => if_pos (by simp)) ?_
  refine Ev.bind (toIntS_ev l1 b1) ?_
  refine Ev.bind (eqIntS_ev l1 l1 (by omega)) ?_
  refine Ev.congr (fun k => if_pos (by simp)) ?_
  refine Ev.bind (markIntS_ev l0 1 (by omega) (by omega) (by omega)) ?_
  refine Ev.bind (markIntS_ev l1 (1 + l0.length) (by omega) (by omega) (by omega)) ?_
  refine Ev.congr (fun k => if_neg (by omega)) ?_
  refine Ev.bind (eqIntS_ev _ _ (by omega)) ?_
  refine Ev.congr (fun k => if_pos (by simp)) ?_
  exact after_1 l0 l1 a2 b0 b1 b hb
theorem FnExactAfterLayers : laws_FnExactAfterLayers.Pure := by
  intro l0 l1 a2 _ _ _ _ _ _ _
  refine Ev.rounds (g := fun k => laws_FnExactAfterLayers.f k l0 l1 a2) ?_
  unfold laws_FnExactAfterLayers.f
  by_cases c0 : (l0.length : Int) > 1048576
  · exact Ev.congr (fun k => if_pos c0) (Ev.now _)
  refine Ev.congr (fun k => if_neg c0) ?_
  have b0 : l0.length ≤ 1048576 := by omega
  by_cases c1 : (l1.length : Int) > 1048576
  · exact Ev.congr (fun k => if_pos c1) (Ev.now _)
  refine Ev.congr (fun k => if_neg c1) ?_
  have b1 : l1.length ≤ 1048576 := by omega
  have hl := afterOf_len l0 l1 a2
  refine Ev.bind (toIntS_ev l0 b0) ?_
  refine Ev.bind (toIntS_ev l1 b1) ?_
  refine Ev.bind (spec_After_ev l0 l1 a2) ?_
  refine Ev.bind (toIntS_ev l0 b0) ?_
  refine Ev.bind (toIntS_ev l1 b1) ?_
  refine Ev.bind (impl_After_ev l0 l1 a2) ?_
  refine Ev.bind (eqIntS_ev _ _ (by omega)) ?_
  refine Ev.congr (fun k => if_pos (by simp)) ?_
  exact after_0 l0 l1 a2 b0 b1 _ rfl

end Go.Proofs.Ytghnaclpjdhilaa.Pure

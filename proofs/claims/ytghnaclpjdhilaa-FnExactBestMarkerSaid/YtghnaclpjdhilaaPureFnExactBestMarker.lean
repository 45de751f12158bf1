/- The program's BestMarker returns what the reference's returns, for all arguments; no condition. -/
import Derived.Test.YtghnaclpjdhilaaPAx22
import Derived.Test.YtghnaclpjdhilaaLibBO
import Derived.Test.YtghnaclpjdhilaaLibM
namespace Go.Proofs.Ytghnaclpjdhilaa.Pure
open Go.RowKit Go.Proofs.Ytghnaclpjdhilaa.PA Go.Proofs.YtghnaclpjdhilaaW.PrintWords Go.Proofs.YtghnaclpjdhilaaW.PrintLast Go.Proofs.YtghnaclpjdhilaaW.PrintMore
set_option linter.unusedVariables false
set_option linter.unusedSimpArgs false

theorem best_len (w : List Int) (r : Int) : (bestMk w r).1.length ≤ 5 := by
  unfold bestMk
  split
  · rename_i c
    have h5 := (wantedOk_iff.1 c.1).2.1
    have key : ∀ (ms : List (List Int)) (s : List Int × Int), (∀ t ∈ ms, t.length = w.length) → s.1.length ≤ 5 → (ms.foldl (bmUpd w) s).1.length ≤ 5 := by
      intro ms
      induction ms with
      | nil => intro s _ h; exact h
      | cons m ms ih =>
        intro s h hs
        rw [List.foldl_cons]
        refine ih _ (fun t ht => h t (List.mem_cons_of_mem _ ht)) ?_
        unfold bmUpd
        split
        · have := h m List.mem_cons_self; show m.length ≤ 5; omega
        · exact hs
    split
    · simp
    · exact key _ _ (fun t ht => (mks_row _ _ t ht).1) (by simp)
  · simp
theorem bestm_2 (L : List Int) (b : Bool) (hl : L.length ≤ 5) : Ev (fun k => laws_FnExactBestMarker.j2 k (ramp 1 L.length) (1 + L.length) (b != b)) true := by
  refine Ev.step (fun k => rfl) ?_
  simp only [laws_FnExactBestMarker.j2]
  refine Ev.congr (fun k => if_neg (by simp)) ?_
  refine Ev.bind (heldIntS_ev L.length 1 (by omega) (by omega) (by omega)) ?_
  exact Ev.congr (fun k => (if_neg (by omega)).trans (if_pos rfl)) (Ev.now _)
theorem bestm_1 (l0 : List Int) (a1 : Int) (b0 : l0.length ≤ 1048576) (b : Bool) (hb : b = (bestMk l0 a1).2) : Ev (fun k => laws_FnExactBestMarker.j1 k l0 a1 (bestMk l0 a1).1 b (bestMk l0 a1).1 (b != b)) true := by
  have hl := best_len l0 a1
  refine Ev.step (fun k => rfl) ?_
  simp only [laws_FnExactBestMarker.j1]
  refine Ev.congr (fun k => if_neg (by simp)) ?_
  refine Ev.bind (markIntS_ev (bestMk l0 a1).1 1 (by omega) (by omega) (by omega)) ?_
  refine Ev.bind (heldIntS_ev _ 1 (by omega) (by omega) (by omega)) ?_
  refine Ev.congr (fun k => (if_neg (by omega)).trans (if_pos rfl)) ?_
  refine Ev.bind (toIntS_ev l0 b0) ?_
  refine Ev.bind (impl_best_ev l0 a1) ?_
  refine Ev.bind (eqIntS_ev _ _ (by omega)) ?_
  refine Ev.congr (fun k => if_pos (by simp)) ?_
  rw [← hb]
  exact bestm_2 _ b hl
theorem bestm_0 (l0 : List Int) (a1 : Int) (b0 : l0.length ≤ 1048576) (b : Bool) (hb : b = (bestMk l0 a1).2) : Ev (fun k => laws_FnExactBestMarker.j0 k l0 a1 (bestMk l0 a1).1 b l0 (bestMk l0 a1).1 b (b != b)) true := by
  have hl := best_len l0 a1
  refine Ev.step (fun k => rfl) ?_
  simp only [laws_FnExactBestMarker.j0]
  refine Ev.congr (fun k => if_neg (by simp)) ?_
  refine Ev.bind (toIntS_ev l0 b0) ?_
  refine Ev.bind (eqIntS_ev l0 l0 (by omega)) ?_
  refine Ev.congr (fun k => if_pos (by simp)) ?_
  refine Ev.bind (markIntS_ev l0 1 (by omega) (by omega) (by omega)) ?_
  refine Ev.congr (fun k => if_neg (by omega)) ?_
  refine Ev.bind (eqIntS_ev _ _ (by omega)) ?_
  refine Ev.congr (fun k => if_pos (by simp)) ?_
  exact bestm_1 l0 a1 b0 b hb
theorem FnExactBestMarker : laws_FnExactBestMarker.Pure := by
  intro l0 a1 _ _ _ _
  refine Ev.rounds (g := fun k => laws_FnExactBestMarker.f k l0 a1) ?_
  unfold laws_FnExactBestMarker.f
  by_cases c0 : (l0.length : Int) > 1048576
  · exact Ev.congr (fun k => if_pos c0) (Ev.now _)
  refine Ev.congr (fun k => if_neg c0) ?_
  have b0 : l0.length ≤ 1048576 := by omega
  have hl := best_len l0 a1
  refine Ev.bind (toIntS_ev l0 b0) ?_
  refine Ev.bind (spec_best_ev l0 a1) ?_
  refine Ev.bind (toIntS_ev l0 b0) ?_
  refine Ev.bind (impl_best_ev l0 a1) ?_
  refine Ev.bind (eqIntS_ev _ _ (by omega)) ?_
  refine Ev.congr (fun k => if_pos (by simp)) ?_
  exact bestm_0 l0 a1 b0 _ rfl

end Go.Proofs.Ytghnaclpjdhilaa.Pure

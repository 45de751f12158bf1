/- The program's OddPoints returns what the reference's returns, for all arguments; no condition. -/
import Derived.Test.YtcdajmbnijmdfaaWalkFnExactOddPoints
import Derived.Test.YtcdajmbnijmdfaaLibO
import Derived.Test.YtcdajmbnijmdfaaLibM
namespace Go.Proofs.Ytcdajmbnijmdfaa.PA
open Go.RowKit Go.Proofs.YtcdajmbnijmdfaaW.PrintWords
def laws_FnExactOddPoints.Pure : Prop := ∀ (a0 : Int) (l1 : List (List Int)), (Lit.int .i64 a0).wf = true → l1.length ≤ 9223372036854775807 → (∀ r ∈ l1, r.length ≤ 9223372036854775807) → (∀ r ∈ l1, ∀ x ∈ r, (Lit.int .i64 x).wf = true) → ∃ k, laws_FnExactOddPoints.f k a0 l1 = some true
end Go.Proofs.Ytcdajmbnijmdfaa.PA
namespace Go.Proofs.Ytcdajmbnijmdfaa.Pure
open Go.RowKit Go.Proofs.Ytcdajmbnijmdfaa.PA Go.Proofs.YtcdajmbnijmdfaaW.PrintWords Go.Proofs.YtcdajmbnijmdfaaW.PrintLast Go.Proofs.YtcdajmbnijmdfaaW.PrintMore
set_option linter.unusedVariables false
set_option linter.unusedSimpArgs false

theorem FnExactOddPoints : laws_FnExactOddPoints.Pure := by
  intro a0 l1 _ hl1 hr1 _
  refine Ev.rounds (g := fun k => laws_FnExactOddPoints.f k a0 l1) ?_
  unfold laws_FnExactOddPoints.f
  obtain ⟨s1, hs1, hd1⟩ := szTot_ev l1 1048576 (by omega) (by omega) hl1 hr1
  refine Ev.bind hs1 ?_
  by_cases c1 : s1 < 0
  · exact Ev.congr (fun k => if_pos c1) (Ev.now _)
  refine Ev.congr (fun k => if_neg c1) ?_
  obtain ⟨p1, t1⟩ : 0 ≤ s1 ∧ s1 + l1.length + totlen l1 ≤ 1048576 := by
    rcases hd1 with hd | hd
    · exact absurd hd c1
    · exact hd
  have b1 : l1.length ≤ 1048576 := by omega
  have g1 : ∀ x ∈ l1, x.length ≤ 1048576 := fun x hx => by have := mem_totlen hx; omega
  refine Ev.bind (toIntSS_ev l1 b1 g1) ?_
  refine Ev.bind (spec_OddPoints_ev a0 l1) ?_
  refine Ev.bind (toIntSS_ev l1 b1 g1) ?_
  refine Ev.bind (impl_OddPoints_ev a0 l1) ?_
  have hq0 : (if drawOk a0 l1 then odds a0.toNat l1 else []).length ≤ 8 := by
    split
    · rename_i h
      have := (drawOk_iff.1 h).1
      have := odds_len a0.toNat l1
      omega
    · simp
  refine Ev.bind (eqIntS_ev _ _ (by omega)) ?_
  refine Ev.congr (fun k => if_pos (by simp)) ?_
  refine Ev.bind (toIntSS_ev l1 b1 g1) ?_
  refine Ev.bind (eqIntSS_ev l1 l1 (by omega) (fun x hx => by have := g1 x hx; omega)) ?_
  refine Ev.congr (fun k => if_pos (by simp)) ?_
  refine Ev.bind (markIntSS_ev l1 (1) g1 (by omega) (by omega)) ?_
  refine Ev.congr (fun k => if_pos (by omega)) ?_
  refine Ev.bind (markIntS_ev _ _ (by omega) (by omega) (by omega)) ?_
  refine Ev.bind (heldIntS_ev _ _ (by omega) (by omega) (by omega)) ?_
  refine Ev.congr (fun k => if_pos (by omega)) ?_
  refine Ev.congr (fun k => if_pos rfl) ?_
  refine Ev.bind (toIntSS_ev l1 b1 g1) ?_
  refine Ev.bind (impl_OddPoints_ev a0 l1) ?_
  refine Ev.bind (eqIntS_ev _ _ (by omega)) ?_
  refine Ev.congr (fun k => if_pos (by simp)) ?_
  exact Ev.now _

end Go.Proofs.Ytcdajmbnijmdfaa.Pure

/- The program's ShortOrder returns what the reference's returns, for all arguments; no condition. -/
import Derived.Test.YtoonamloihbjnaaWalkFnExactShortOrder
import Derived.Test.YtoonamloihbjnaaLibC
import Derived.Test.YtoonamloihbjnaaLibM
namespace Go.Proofs.Ytoonamloihbjnaa.PA
open Go.RowKit Go.Proofs.YtoonamloihbjnaaW.PrintWords
def laws_FnExactShortOrder.Pure : Prop := ∀ (l0 : List (List Int)), l0.length ≤ 9223372036854775807 → (∀ r ∈ l0, r.length ≤ 9223372036854775807) → (∀ r ∈ l0, ∀ x ∈ r, (Lit.int .i64 x).wf = true) → ∃ k, laws_FnExactShortOrder.f k l0 = some true
end Go.Proofs.Ytoonamloihbjnaa.PA
namespace Go.Proofs.Ytoonamloihbjnaa.Pure
open Go.RowKit Go.Proofs.Ytoonamloihbjnaa.PA Go.Proofs.YtoonamloihbjnaaW.PrintWords Go.Proofs.YtoonamloihbjnaaW.PrintLast Go.Proofs.YtoonamloihbjnaaW.PrintMore
set_option linter.unusedVariables false
set_option linter.unusedSimpArgs false

theorem FnExactShortOrder : laws_FnExactShortOrder.Pure := by
  intro l0 hl0 hr0 _
  refine Ev.rounds (g := fun k => laws_FnExactShortOrder.f k l0) ?_
  unfold laws_FnExactShortOrder.f
  obtain ⟨s0, hs0, hd0⟩ := szTot_ev l0 1048576 (by omega) (by omega) hl0 hr0
  refine Ev.bind hs0 ?_
  by_cases c0 : s0 < 0
  · exact Ev.congr (fun k => if_pos c0) (Ev.now _)
  refine Ev.congr (fun k => if_neg c0) ?_
  obtain ⟨p0, t0⟩ : 0 ≤ s0 ∧ s0 + l0.length + totlen l0 ≤ 1048576 := by
    rcases hd0 with hd | hd
    · exact absurd hd c0
    · exact hd
  have b0 : l0.length ≤ 1048576 := by omega
  have g0 : ∀ x ∈ l0, x.length ≤ 1048576 := fun x hx => by have := mem_totlen hx; omega
  refine Ev.bind (toIntSS_ev l0 b0 g0) ?_
  refine Ev.bind (spec_Short_ev l0) ?_
  refine Ev.bind (toIntSS_ev l0 b0 g0) ?_
  refine Ev.bind (impl_Short_ev l0) ?_
  have hq0 := ordBy_bd l0 0
  refine Ev.bind (eqIntS_ev _ _ (by omega)) ?_
  refine Ev.congr (fun k => if_pos (by simp)) ?_
  refine Ev.bind (toIntSS_ev l0 b0 g0) ?_
  refine Ev.bind (eqIntSS_ev l0 l0 (by omega) (fun x hx => by have := g0 x hx; omega)) ?_
  refine Ev.congr (fun k => if_pos (by simp)) ?_
  refine Ev.bind (markIntSS_ev l0 (1) g0 (by omega) (by omega)) ?_
  refine Ev.congr (fun k => if_pos (by omega)) ?_
  refine Ev.bind (markIntS_ev _ _ (by omega) (by omega) (by omega)) ?_
  refine Ev.bind (heldIntS_ev _ _ (by omega) (by omega) (by omega)) ?_
  refine Ev.congr (fun k => if_pos (by omega)) ?_
  refine Ev.congr (fun k => if_pos rfl) ?_
  refine Ev.bind (toIntSS_ev l0 b0 g0) ?_
  refine Ev.bind (impl_Short_ev l0) ?_
  refine Ev.bind (eqIntS_ev _ _ (by omega)) ?_
  refine Ev.congr (fun k => if_pos (by simp)) ?_
  exact Ev.now _

end Go.Proofs.Ytoonamloihbjnaa.Pure

/- The program's SortStore returns what the reference's returns, for all arguments; no condition. -/
import Derived.Test.YtebjpafnfmmjeaaWalkFnExactSortStore
import Derived.Test.YtebjpafnfmmjeaaLibT2
import Derived.Test.YtebjpafnfmmjeaaLibM
import Derived.Test.YtebjpafnfmmjeaaLibH
namespace Go.Proofs.Ytebjpafnfmmjeaa.PA
open Go.RowKit Go.Proofs.YtebjpafnfmmjeaaW.PrintWords
def laws_FnExactSortStore.Pure : Prop := ∀ (l0 : List (List Int)), l0.length ≤ 9223372036854775807 → (∀ r ∈ l0, r.length ≤ 9223372036854775807) → (∀ r ∈ l0, ∀ x ∈ r, (Lit.int .i64 x).wf = true) → ∃ k, laws_FnExactSortStore.f k l0 = some true
end Go.Proofs.Ytebjpafnfmmjeaa.PA
namespace Go.Proofs.Ytebjpafnfmmjeaa.Pure
open Go.RowKit Go.Proofs.Ytebjpafnfmmjeaa.PA Go.Proofs.YtebjpafnfmmjeaaW.PrintWords Go.Proofs.YtebjpafnfmmjeaaW.PrintLast Go.Proofs.YtebjpafnfmmjeaaW.PrintMore
set_option linter.unusedVariables false
set_option linter.unusedSimpArgs false

theorem FnExactSortStore : laws_FnExactSortStore.Pure := by
  intro l0 hl0 hr0 _
  refine Ev.rounds (g := fun k => laws_FnExactSortStore.f k l0) ?_
  unfold laws_FnExactSortStore.f
  obtain ⟨s0, hs0, hd0⟩ := szTot_ev l0 1048576 (by omega) (by omega) hl0 hr0
  refine Ev.bind hs0 ?_
  by_cases c0 : s0 < 0
  · exact Ev.congr (fun k => if_pos c0) (Ev.now _)
  refine Ev.congr (fun k => if_neg c0) ?_
  obtain ⟨p0, t0⟩ : 0 ≤ s0 ∧ s0 + l0.length + totlen l0 ≤ 1048576 := by
    rcases hd0 with hd | hd
    · exact absurd hd c0
    · exact hd
  have b0 : l0.length ≤ 1048576 := by omega
  have g0 : ∀ x ∈ l0, x.length ≤ 1048576 := fun x hx => by have := mem_totlen hx; omega
  refine Ev.bind (toIntSS_ev l0 b0 g0) ?_
  refine Ev.bind (spec_SortStore_ev l0) ?_
  refine Ev.bind (toIntSS_ev l0 b0 g0) ?_
  refine Ev.bind (impl_SortStore_ev l0) ?_
  obtain ⟨hw0, hq0, ht0⟩ := sortStore_bd l0
  refine Ev.bind (eqIntSS_ev _ _ (by omega) (fun x hx => by have := hq0 x hx; omega)) ?_
  refine Ev.congr (fun k => if_pos (by simp)) ?_
  refine Ev.bind (toIntSS_ev l0 b0 g0) ?_
  refine Ev.bind (eqIntSS_ev l0 l0 (by omega) (fun x hx => by have := g0 x hx; omega)) ?_
  refine Ev.congr (fun k => if_pos (by simp)) ?_
  refine Ev.bind (markIntSS_ev l0 (1) g0 (by omega) (by omega)) ?_
  refine Ev.congr (fun k => if_pos (by omega)) ?_
  refine Ev.bind (markIntSS_ev _ _ hq0 (by omega) (by omega)) ?_
  refine Ev.bind (heldIntSS_ev _ _ hq0 (by omega) (by omega) (by omega)) ?_
  refine Ev.congr (fun k => if_pos (by omega)) ?_
  refine Ev.congr (fun k => if_pos rfl) ?_
  refine Ev.bind (toIntSS_ev l0 b0 g0) ?_
  refine Ev.bind (impl_SortStore_ev l0) ?_
  refine Ev.bind (eqIntSS_ev _ _ (by omega) (fun x hx => by have := hq0 x hx; omega)) ?_
  refine Ev.congr (fun k => if_pos (by simp)) ?_
  exact Ev.now _

end Go.Proofs.Ytebjpafnfmmjeaa.Pure

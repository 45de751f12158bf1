/- The program's TakePiece returns what the reference's returns, for all arguments; no condition. -/
import Derived.Test.YtebjpafnfmmjeaaWalkFnExactTakePiece
import Derived.Test.YtebjpafnfmmjeaaLibP
import Derived.Test.YtebjpafnfmmjeaaLibM
import Derived.Test.YtebjpafnfmmjeaaLibH
namespace Go.Proofs.Ytebjpafnfmmjeaa.PA
open Go.RowKit Go.Proofs.YtebjpafnfmmjeaaW.PrintWords
def laws_FnExactTakePiece.Pure : Prop := ∀ (l0 : List (List Int)) (a1 : Int) (a2 : Int), l0.length ≤ 9223372036854775807 → (∀ r ∈ l0, r.length ≤ 9223372036854775807) → (∀ r ∈ l0, ∀ x ∈ r, (Lit.int .i64 x).wf = true) → (Lit.int .i64 a1).wf = true → (Lit.int .i64 a2).wf = true → ∃ k, laws_FnExactTakePiece.f k l0 a1 a2 = some true
end Go.Proofs.Ytebjpafnfmmjeaa.PA
namespace Go.Proofs.Ytebjpafnfmmjeaa.Pure
open Go.RowKit Go.Proofs.Ytebjpafnfmmjeaa.PA Go.Proofs.YtebjpafnfmmjeaaW.PrintWords Go.Proofs.YtebjpafnfmmjeaaW.PrintLast Go.Proofs.YtebjpafnfmmjeaaW.PrintMore
set_option linter.unusedVariables false
set_option linter.unusedSimpArgs false

theorem FnExactTakePiece : laws_FnExactTakePiece.Pure := by
  intro l0 a1 a2 hl0 hr0 _ _ _
  refine Ev.rounds (g := fun k => laws_FnExactTakePiece.f k l0 a1 a2) ?_
  unfold laws_FnExactTakePiece.f
  obtain ⟨s0, hs0, hd0⟩ := szTot_ev l0 1048576 (by omega) (by omega) hl0 hr0
  refine Ev.bind hs0 ?_
  by_cases c0 : s0 < 0
  · exact Ev.congr (fun k => if_pos c0) (Ev.now _)
  refine Ev.congr (fun k => if_neg c0) ?_
  obtain ⟨p0, t0⟩ : 0 ≤ s0 ∧ s0 + l0.length + totlen l0 ≤ 1048576 := by
    rcases hd0 with hd | hd
    · exact absurd hd c0
    · exact hd
  have b0 : l0.length ≤ 1048576 := by omega
  have g0 : ∀ x ∈ l0, x.length ≤ 1048576 := fun x hx => by have := mem_totlen hx; omega
  refine Ev.bind (toIntSS_ev l0 b0 g0) ?_
  refine Ev.bind (spec_TakePiece_ev l0 a1 a2) ?_
  refine Ev.bind (toIntSS_ev l0 b0 g0) ?_
  refine Ev.bind (impl_TakePiece_ev l0 a1 a2) ?_
  obtain ⟨hw0, hq0, ht0⟩ := takePiece_bd l0 a1 a2
  refine Ev.bind (eqIntSS_ev _ _ (by omega) (fun x hx => by have := hq0 x hx; omega)) ?_
  refine Ev.congr (fun k => if_pos (by simp)) ?_
  refine Ev.congr (fun k => if_pos rfl) ?_
  refine Ev.congr (fun k => if_pos rfl) ?_
  refine Ev.bind (toIntSS_ev l0 b0 g0) ?_
  refine Ev.bind (eqIntSS_ev l0 l0 (by omega) (fun x hx => by have := g0 x hx; omega)) ?_
  refine Ev.congr (fun k => if_pos (by simp)) ?_
  refine Ev.bind (markIntSS_ev l0 (1) g0 (by omega) (by omega)) ?_
  refine Ev.congr (fun k => if_pos (by omega)) ?_
  refine Ev.bind (markIntSS_ev _ _ hq0 (by omega) (by omega)) ?_
  refine Ev.bind (heldIntSS_ev _ _ hq0 (by omega) (by omega) (by omega)) ?_
  refine Ev.congr (fun k => if_pos (by omega)) ?_
  refine Ev.congr (fun k => if_pos rfl) ?_
  refine Ev.bind (toIntSS_ev l0 b0 g0) ?_
  refine Ev.bind (impl_TakePiece_ev l0 a1 a2) ?_
  refine Ev.bind (eqIntSS_ev _ _ (by omega) (fun x hx => by have := hq0 x hx; omega)) ?_
  refine Ev.congr (fun k => if_pos (by simp)) ?_
  refine Ev.congr (fun k => if_pos rfl) ?_
  refine Ev.congr (fun k => if_pos rfl) ?_
  exact Ev.now _

end Go.Proofs.Ytebjpafnfmmjeaa.Pure

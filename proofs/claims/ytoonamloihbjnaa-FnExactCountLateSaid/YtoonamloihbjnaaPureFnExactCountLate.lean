/- CountLate, plainly -/
import Derived.Test.YtoonamloihbjnaaPAx25
import Derived.Test.YtoonamloihbjnaaLibE
namespace Go.Proofs.Ytoonamloihbjnaa.PA
open Go.RowKit Go.Proofs.YtoonamloihbjnaaW.PrintWords
def laws_FnExactCountLate.Pure : Prop := ∀ (l0 : List (List Int)) (l1 : List Int), l0.length ≤ 9223372036854775807 → (∀ r ∈ l0, r.length ≤ 9223372036854775807) → (∀ r ∈ l0, ∀ x ∈ r, (Lit.int .i64 x).wf = true) → l1.length ≤ 9223372036854775807 → (∀ x ∈ l1, (Lit.int .i64 x).wf = true) → ∃ k, laws_FnExactCountLate.f k l0 l1 = some true
end Go.Proofs.Ytoonamloihbjnaa.PA
namespace Go.Proofs.Ytoonamloihbjnaa.Pure
open Go.RowKit Go.Proofs.Ytoonamloihbjnaa.PA Go.Proofs.YtoonamloihbjnaaW.PrintWords Go.Proofs.YtoonamloihbjnaaW.PrintLast Go.Proofs.YtoonamloihbjnaaW.PrintMore
set_option linter.unusedVariables false
set_option linter.unusedSimpArgs false

theorem FnExactCountLate : laws_FnExactCountLate.Pure := by
  intro l0 l1 hl0 hr0 _ _ _
  refine Ev.rounds (g := fun k => laws_FnExactCountLate.f k l0 l1) ?_
  unfold laws_FnExactCountLate.f
  by_cases c1 : (l1.length : Int) > 1048576
  · exact Ev.congr (fun k => if_pos c1) (Ev.now _)
  refine Ev.congr (fun k => if_neg c1) ?_
  have b1 : l1.length ≤ 1048576 := by omega
  obtain ⟨s, hs, hd⟩ := szIntSS_ev l0 hl0 hr0
  refine Ev.bind hs ?_
  by_cases c : s < 0
  · exact Ev.congr (fun k => if_pos c) (Ev.now _)
  refine Ev.congr (fun k => if_neg c) ?_
  obtain ⟨h1, h2⟩ : l0.length ≤ 1048576 ∧ ∀ x ∈ l0, x.length ≤ 1048576 := by
    rcases hd with hd | hd
    · exact absurd hd c
    · exact hd
  refine Ev.bind (toIntSS_ev l0 h1 h2) ?_
  refine Ev.bind (toIntS_ev l1 b1) ?_
  refine Ev.bind (spec_Count_ev l0 l1 (by omega)) ?_
  refine Ev.bind (toIntSS_ev l0 h1 h2) ?_
  refine Ev.bind (toIntS_ev l1 b1) ?_
  refine Ev.bind (impl_Count_ev l0 l1 (by omega)) ?_
  refine Ev.congr (fun k => if_pos rfl) ?_
  refine Ev.bind (toIntSS_ev l0 h1 h2) ?_
  refine Ev.bind (eqIntSS_ev l0 l0 (by omega) (fun x hx => by have := h2 x hx; omega)) ?_
  refine Ev.congr (fun k => if_pos (by simp)) ?_
  refine Ev.bind (toIntS_ev l1 b1) ?_
  refine Ev.bind (eqIntS_ev l1 l1 (by omega)) ?_
  exact ev_const (if_pos (by simp))

end Go.Proofs.Ytoonamloihbjnaa.Pure

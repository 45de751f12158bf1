/- due order, short order -/
import Derived.Test.YtoonamloihbjnaaLibB
import Derived.Test.YtoonamloihbjnaaPAx10
import Derived.Test.YtoonamloihbjnaaPAx12
import Derived.Test.YtoonamloihbjnaaPAx14
import Derived.Test.YtoonamloihbjnaaPAx5
namespace Go.Proofs.Ytoonamloihbjnaa.PA
open Go.RowKit Go.Proofs.YtoonamloihbjnaaW.PrintWords Go.Proofs.YtoonamloihbjnaaW.PrintLast Go.Proofs.YtoonamloihbjnaaW.PrintMore
set_option linter.unusedVariables false
set_option linter.unusedSimpArgs false

/-! DueOrder, ShortOrder -/
theorem sortL_len (K : Int → Int) : ∀ (S P : List Int), (sortL K P S).length = P.length + S.length := by
  intro S
  induction S with
  | nil => intro P; rfl
  | cons x S ih =>
    intro P
    simp only [sortL]
    rw [ih, insAt_len x (pos_le K P x P.length), List.length_cons]
    omega
def ordBy (ws : List (List Int)) (c : Int) : List Int := if worksOk ws = true then orderBy ws c else []
theorem ordBy_bd (ws : List (List Int)) (c : Int) : (ordBy ws c).length ≤ 7 := by
  unfold ordBy
  split
  · rename_i h
    unfold orderBy
    rw [sortL_len, upto_len]
    have := (worksOk_iff.1 h).1
    simpa using this
  · simp
theorem spec_Due_ev (ws : List (List Int)) : Ev (fun k => spec_DueOrder.f k ws) (ordBy ws 1) := by
  unfold spec_DueOrder.f ordBy
  refine Ev.bind (spec_WorksOk_ev ws) ?_
  by_cases c : worksOk ws = true
  · exact ev_eq (Ev.congr (fun k => if_pos c) (Ev.bind (spec_by_ev c (.inr rfl)) (Ev.now _))) (if_pos c).symm
  · exact ev_eq (Ev.congr (fun k => if_neg c) (Ev.now _)) (if_neg c).symm
theorem impl_Due_ev (ws : List (List Int)) : Ev (fun k => impl_DueOrder.f k ws) (ordBy ws 1) := by
  unfold impl_DueOrder.f ordBy
  refine Ev.bind (impl_WorksOk_ev ws) ?_
  by_cases c : worksOk ws = true
  · exact ev_eq (Ev.congr (fun k => if_pos c) (Ev.bind (impl_by_ev c (.inr rfl)) (Ev.now _))) (if_pos c).symm
  · exact ev_eq (Ev.congr (fun k => if_neg c) (Ev.now _)) (if_neg c).symm
theorem spec_Short_ev (ws : List (List Int)) : Ev (fun k => spec_ShortOrder.f k ws) (ordBy ws 0) := by
  unfold spec_ShortOrder.f ordBy
  refine Ev.bind (spec_WorksOk_ev ws) ?_
  by_cases c : worksOk ws = true
  · exact ev_eq (Ev.congr (fun k => if_pos c) (Ev.bind (spec_by_ev c (.inl rfl)) (Ev.now _))) (if_pos c).symm
  · exact ev_eq (Ev.congr (fun k => if_neg c) (Ev.now _)) (if_neg c).symm
theorem impl_Short_ev (ws : List (List Int)) : Ev (fun k => impl_ShortOrder.f k ws) (ordBy ws 0) := by
  unfold impl_ShortOrder.f ordBy
  refine Ev.bind (impl_WorksOk_ev ws) ?_
  by_cases c : worksOk ws = true
  · exact ev_eq (Ev.congr (fun k => if_pos c) (Ev.bind (impl_by_ev c (.inl rfl)) (Ev.now _))) (if_pos c).symm
  · exact ev_eq (Ev.congr (fun k => if_neg c) (Ev.now _)) (if_neg c).symm

end Go.Proofs.Ytoonamloihbjnaa.PA

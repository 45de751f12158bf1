/- works -/
import Derived.Test.YtoonamloihbjnaaLibI
import Derived.Test.YtoonamloihbjnaaPAx0
import Derived.Test.YtoonamloihbjnaaPAx2
import Derived.Test.YtoonamloihbjnaaPAx5
namespace Go.Proofs.Ytoonamloihbjnaa.PA
open Go.RowKit Go.Proofs.YtoonamloihbjnaaW.PrintWords Go.Proofs.YtoonamloihbjnaaW.PrintLast Go.Proofs.YtoonamloihbjnaaW.PrintMore
set_option linter.unusedVariables false
set_option linter.unusedSimpArgs false

/-! WorksOk -/
structure WorkOk (r : List Int) : Prop where
  len : r.length = 2
  w1 : 1 ≤ rd r 0
  w2 : rd r 0 ≤ 100
  h1 : 0 ≤ rd r 1
  h2 : rd r 1 ≤ 1000
theorem badWork_false {r : List Int} : badWork r = false ↔ WorkOk r := by
  unfold badWork
  rw [Bool.not_eq_false', decide_eq_true_iff]
  exact ⟨fun ⟨a, b, c, d, e⟩ => ⟨a, b, c, d, e⟩, fun ⟨a, b, c, d, e⟩ => ⟨a, b, c, d, e⟩⟩
theorem worksOk_iff {l : List (List Int)} : worksOk l = true ↔ l.length ≤ 7 ∧ ∀ r ∈ l, WorkOk r := by
  unfold worksOk
  rw [Bool.and_eq_true, decide_eq_true_iff, Bool.not_eq_true', List.any_eq_false]
  constructor
  · rintro ⟨a, b⟩
    exact ⟨a, fun r hr => badWork_false.1 (by simpa using b r hr)⟩
  · rintro ⟨a, b⟩
    exact ⟨a, fun r hr => by simpa using badWork_false.2 (b r hr)⟩
theorem spec_WorksOk_l (l : List (List Int)) (hl : l.length ≤ 7) : ∀ (d i : Nat), i + d = l.length → Ev (fun k => spec_WorksOk.l0 k l (l.length : Int) (i : Int)) (!((l.drop i).any badWork)) := by
  intro d
  induction d with
  | zero =>
    intro i hi
    refine Ev.step (f := fun _ => some (!((l.drop i).any badWork))) (fun k => ?_) (Ev.now _)
    simp only [spec_WorksOk.l0]
    rw [if_neg (by omega), List.drop_of_length_le (by omega)]
    rfl
  | succ d ih =>
    intro i hi
    have hlt : i < l.length := by omega
    have hd : (l.drop i).any badWork = (badWork l[i] || (l.drop (i + 1)).any badWork) := by rw [List.drop_eq_getElem_cons hlt, List.any_cons]
    rw [hd]
    cases c : badWork l[i] with
    | false =>
      rw [Bool.false_or]
      refine Ev.step (f := fun k => spec_WorksOk.l0 k l (l.length : Int) ((i + 1 : Nat) : Int)) (fun k => ?_) (ih (i + 1) (by omega))
      obtain ⟨c1, c2, c3, c4, c5⟩ := badWork_false.1 c
      simp only [spec_WorksOk.l0, l01In_eq, Option.bind_some]
      rw [if_pos (by omega), if_pos (by omega), if_pos (by omega), rdL_get hlt, if_pos (by omega), if_pos (by omega), if_pos (by simpa using ⟨c2, c3⟩), if_pos (by omega), if_pos (by simpa using ⟨c4, c5⟩), w64 (by omega) (by omega)]
      rfl
    | true =>
      rw [Bool.true_or]
      refine Ev.step (f := fun k => some false) (fun k => ?_) (Ev.now _)
      have hc : ¬ WorkOk l[i] := fun z => by rw [badWork_false.2 z] at c; cases c
      simp only [spec_WorksOk.l0, l01In_eq, Option.bind_some]
      rw [if_pos (by omega), if_pos (by omega), if_pos (by omega), rdL_get hlt]
      by_cases e1 : l[i].length = 2
      · rw [if_pos (by omega), if_pos (by omega)]
        by_cases e2 : 1 ≤ rd l[i] 0 ∧ rd l[i] 0 ≤ 100
        · rw [if_pos (by simpa using e2), if_pos (by omega)]
          by_cases e3 : 0 ≤ rd l[i] 1 ∧ rd l[i] 1 ≤ 1000
          · exact absurd ⟨e1, e2.1, e2.2, e3.1, e3.2⟩ hc
          · rw [if_neg (by simpa using e3)]
        · rw [if_neg (by simpa using e2)]
      · rw [if_neg (by omega)]
theorem spec_WorksOk_ev (l : List (List Int)) : Ev (fun k => spec_WorksOk.f k l) (worksOk l) := by
  unfold spec_WorksOk.f
  by_cases c : l.length ≤ 7
  · refine Ev.congr (fun k => if_neg (by omega)) (ev_eq (spec_WorksOk_l l c l.length 0 (by omega)) ?_)
    unfold worksOk
    rw [decide_eq_true c]
    rfl
  · refine ev_eq (Ev.congr (fun k => if_pos (by omega)) (Ev.now false)) ?_
    unfold worksOk
    rw [decide_eq_false c]
    rfl
theorem impl_WorksOk_ev (l : List (List Int)) : Ev (fun _ => impl_WorksOk.f l) (worksOk l) := ev_const rfl
theorem work_at {ws : List (List Int)} (h : worksOk ws = true) {i : Int} (h0 : 0 ≤ i) (h1 : i ≤ (ws.length : Int) - 1) : WorkOk (rd_L1 ws i) := by
  have hj : i.toNat < ws.length := by omega
  have : rd_L1 ws i = ws[i.toNat] := by simp [rd_L1, List.getD_eq_getElem?_getD, hj]
  rw [this]
  exact (worksOk_iff.1 h).2 _ (List.getElem_mem hj)

end Go.Proofs.Ytoonamloihbjnaa.PA

/- held -/
import Derived.Test.YtebjpafnfmmjeaaLibM
import Derived.Test.YtebjpafnfmmjeaaPAx0
import Derived.Test.YtebjpafnfmmjeaaPAx19
namespace Go.Proofs.Ytebjpafnfmmjeaa.PA
open Go.RowKit Go.Proofs.YtebjpafnfmmjeaaW.PrintWords Go.Proofs.YtebjpafnfmmjeaaW.PrintLast Go.Proofs.YtebjpafnfmmjeaaW.PrintMore
set_option linter.unusedVariables false
set_option linter.unusedSimpArgs false

/-! heldIntSS -/
theorem rdL_mid (pre suf : List (List Int)) (x : List Int) : rd_L1 (pre ++ x :: suf) (pre.length : Int) = x := by
  simp [rd_L1, List.getD_eq_getElem?_getD]
theorem heldIntSS_l : ∀ (l pre : List (List Int)) (a : Int), (∀ r ∈ l, r.length ≤ 1048576) → pre.length + l.length ≤ 4194304 → 0 ≤ a → a + totlen l ≤ 4194304 →
    Ev (fun k => laws_heldIntSS.l0 k (pre ++ rampSS a l) a (pre.length : Int)) (a + totlen l) := by
  intro l
  induction l with
  | nil =>
    intro pre a _ hl h0 h1
    rw [show rampSS a [] = [] from rfl]
    refine Ev.step (f := fun _ => some a) (fun k => ?_) (ev_eq (Ev.now _) (by simp [totlen]))
    simp only [laws_heldIntSS.l0]
    rw [if_neg (by simp)]
  | cons r l ih =>
    intro pre a hr hl h0 h1
    simp only [totlen] at h1
    simp only [List.length_cons] at hl
    rw [show rampSS a (r :: l) = ramp a r.length :: rampSS (a + r.length) l from rfl]
    have h := ih (pre ++ [ramp a r.length]) (a + r.length) (fun x hx => hr x (List.mem_cons_of_mem _ hx)) (by simp; omega) (by omega) (by omega)
    rw [show a + (r.length : Int) + (totlen l : Int) = a + (totlen (r :: l) : Int) by simp only [totlen]; omega] at h
    refine Ev.step (fun k => rfl) ?_
    simp only [laws_heldIntSS.l0]
    refine Ev.congr (fun k => (if_pos (by simp; omega)).trans (if_pos (by omega))) ?_
    rw [rdL_mid]
    refine Ev.bind (heldIntS_ev r.length a (hr r List.mem_cons_self) h0 (by omega)) ?_
    refine Ev.congr (fun k => (if_neg (by omega)).trans ?_) h
    rw [w64 (by omega) (by omega)]
    simp
theorem heldIntSS_ev (l : List (List Int)) (a : Int) (hr : ∀ r ∈ l, r.length ≤ 1048576) (hl : l.length ≤ 1048576) (h0 : 0 ≤ a) (h1 : a + totlen l ≤ 4194304) : Ev (fun k => laws_heldIntSS.f k (rampSS a l) a) (a + totlen l) :=
  heldIntSS_l l [] a hr (by simp; omega) h0 h1

end Go.Proofs.Ytebjpafnfmmjeaa.PA

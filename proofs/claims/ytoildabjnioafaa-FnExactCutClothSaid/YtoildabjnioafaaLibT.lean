/- rows of rows -/
import Derived.Test.YtoildabjnioafaaLibAb
import Derived.Test.YtoildabjnioafaaPAx0
import Derived.Test.YtoildabjnioafaaPAx22
namespace Go.Proofs.Ytoildabjnioafaa.PA
open Go.RowKit Go.Proofs.YtoildabjnioafaaW.PrintWords Go.Proofs.YtoildabjnioafaaW.PrintLast Go.Proofs.YtoildabjnioafaaW.PrintMore
set_option linter.unusedVariables false
set_option linter.unusedSimpArgs false

/-! the size of a slice of slices -/
def totlen : List (List Int) → Nat
  | [] => 0
  | r :: l => r.length + totlen l
theorem mem_totlen {l : List (List Int)} {r : List Int} (h : r ∈ l) : r.length ≤ totlen l := by
  induction l with
  | nil => cases h
  | cons x l ih =>
    simp only [totlen]
    rcases List.mem_cons.1 h with rfl | h
    · omega
    · have := ih h
      omega
theorem totlen_le (B : Nat) : ∀ (l : List (List Int)), (∀ r ∈ l, r.length ≤ B) → totlen l ≤ l.length * B := by
  intro l
  induction l with
  | nil => intro _; simp [totlen]
  | cons x l ih =>
    intro h
    have h1 := ih (fun r hr => h r (List.mem_cons_of_mem _ hr))
    have h2 := h x List.mem_cons_self
    simp only [totlen, List.length_cons, Nat.succ_mul]
    omega

/-! rows of rows: read, compared -/
theorem rdL_get {l : List (List Int)} {i : Nat} (h : i < l.length) : rd_L1 l (i : Int) = l[i] := by simp [rd_L1, List.getD_eq_getElem?_getD, h]
theorem takeL_step {l : List (List Int)} {i : Nat} (h : i < l.length) : l.take (i + 1) = l.take i ++ [l[i]] := by
  rw [List.take_succ_eq_append_getElem h]
theorem eqIntSS_l (x0 x1 : List (List Int)) (hx : x0.length < 9223372036854775807) (hr : ∀ r ∈ x0, r.length < 9223372036854775807) (hl : x0.length = x1.length) : ∀ (d i : Nat), i + d = x0.length → x0.take i = x1.take i → Ev (fun k => laws_eqIntSS.l0 k x0 x1 (i : Int)) (decide (x0 = x1)) := by
  intro d
  induction d with
  | zero =>
    intro i hi ht
    have e : x0 = x1 := by
      have h1 : x0.take i = x0 := List.take_of_length_le (by omega)
      have h2 : x1.take i = x1 := List.take_of_length_le (by omega)
      rw [h1, h2] at ht
      exact ht
    refine Ev.step (f := fun _ => some (decide (x0 = x1))) (fun k => ?_) (Ev.now _)
    simp only [laws_eqIntSS.l0]
    rw [if_neg (by omega), decide_eq_true e]
  | succ d ih =>
    intro i hi ht
    have hlt : i < x0.length := by omega
    have hlt1 : i < x1.length := by omega
    refine Ev.step (fun k => rfl) ?_
    simp only [laws_eqIntSS.l0]
    refine Ev.congr (fun k => (if_pos (by omega)).trans ((if_pos (by omega)).trans (if_pos (by omega)))) ?_
    rw [rdL_get hlt, rdL_get hlt1]
    refine Ev.bind (eqIntS_ev x0[i] x1[i] (hr _ (List.getElem_mem hlt))) ?_
    by_cases he : x0[i] = x1[i]
    · refine Ev.congr (fun k => (if_pos (by simpa using he)).trans ?_) (ih (i + 1) (by omega) ?_)
      · rw [w64 (by omega) (by omega)]
        rfl
      · rw [takeL_step hlt, takeL_step hlt1, ht, he]
    · have hne : ¬ x0 = x1 := fun e => he (by subst e; rfl)
      rw [decide_eq_false hne]
      exact Ev.congr (fun k => if_neg (by simpa using he)) (Ev.now _)
theorem eqIntSS_ev (l m : List (List Int)) (hl : l.length < 9223372036854775807) (hr : ∀ r ∈ l, r.length < 9223372036854775807) : Ev (fun k => laws_eqIntSS.f k l m) (decide (l = m)) := by
  by_cases h : l.length = m.length
  · refine Ev.congr (fun k => ?_) (eqIntSS_l l m hl hr h l.length 0 (by omega) (by simp))
    unfold laws_eqIntSS.f
    rw [if_pos (by omega)]
    rfl
  · have hne : ¬ l = m := fun e => h (by rw [e])
    refine ev_eq (ev_const (a := some false) rfl |>.congr (fun k => ?_)) (decide_eq_false hne).symm
    unfold laws_eqIntSS.f
    rw [if_neg (by omega)]

end Go.Proofs.Ytoildabjnioafaa.PA

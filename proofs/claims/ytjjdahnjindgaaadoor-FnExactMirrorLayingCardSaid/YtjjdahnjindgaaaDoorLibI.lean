/- ints -/
import Derived.Test.YtjjdahnjindgaaaDoorPAx1
import Derived.Test.YtjjdahnjindgaaaDoorPAx4
import Derived.Test.YtjjdahnjindgaaaDoorPAx5
import Derived.Test.YtjjdahnjindgaaaDoorPAx7
namespace Go.Proofs.YtjjdahnjindgaaaDoor.PA
open Go.RowKit Go.Proofs.YtjjdahnjindgaaaDoorW.PrintWords Go.Proofs.YtjjdahnjindgaaaDoorW.PrintLast Go.Proofs.YtjjdahnjindgaaaDoorW.PrintMore
set_option linter.unusedVariables false
set_option linter.unusedSimpArgs false

/-! Plain lemmas: whole numbers, lists, rounds. -/
theorem w64 {x : Int} (h0 : -9223372036854775808 ≤ x) (h1 : x < 9223372036854775808) : wrap64 x = x := by
  unfold wrap64
  omega
theorem wf_lo {x : Int} (h : (Lit.int .i64 x).wf = true) : -9223372036854775808 ≤ x ∧ x < 9223372036854775808 := by
  have h1 := h
  simp [Lit.wf] at h1
  have h2 : IntKind.i64.min = -9223372036854775808 := rfl
  omega
theorem rd_nat (l : List Int) (i : Nat) : rd l (i : Int) = l.getD i 0 := by simp [rd]
theorem rd_get {l : List Int} {i : Nat} (h : i < l.length) : rd l (i : Int) = l[i] := by simp [rd, List.getD_eq_getElem?_getD, h]
theorem ev_eq {α : Type} {g : Nat → Option α} {r r' : α} (h : Ev g r) (e : r = r') : Ev g r' := e ▸ h
theorem ev_both {α : Type} {g : Nat → Option α} {r r' : α} (h : Ev g r) (h' : Ev g r') : r = r' := by
  obtain ⟨K, h⟩ := h
  obtain ⟨K', h'⟩ := h'
  have a := h (max K K') (by omega)
  have b := h' (max K K') (by omega)
  rw [a] at b
  exact Option.some.inj b
theorem ev_const {α : Type} {a : Option α} {r : α} (h : a = some r) : Ev (fun _ => a) r := ⟨0, fun _ _ => h⟩
theorem take_step {l : List Int} {i : Nat} (h : i < l.length) : l.take (i + 1) = l.take i ++ [l[i]] := by
  rw [List.take_succ_eq_append_getElem h]

/-! toIntS, eqIntS, markIntS, heldIntS -/
theorem toIntS_l (x0 : List Int) (hx : x0.length < 9223372036854775807) : ∀ (d i : Nat) (x3 : List Int), i + d = x0.length → x3.length = x0.length → x3.take i = x0.take i → Ev (fun k => laws_toIntS.l0 k x0 x3 (i : Int)) x0 := by
  intro d
  induction d with
  | zero =>
    intro i x3 hi hl ht
    have e : x3 = x0 := by
      have h1 : x3.take i = x3 := List.take_of_length_le (by omega)
      have h2 : x0.take i = x0 := List.take_of_length_le (by omega)
      rw [h1, h2] at ht
      exact ht
    refine Ev.step (f := fun _ => some x0) (fun k => ?_) (Ev.now _)
    simp only [laws_toIntS.l0]
    rw [if_neg (by omega), e]
  | succ d ih =>
    intro i x3 hi hl ht
    have hlt : i < x0.length := by omega
    refine Ev.step (f := fun k => laws_toIntS.l0 k x0 (x3.set i x0[i]) ((i + 1 : Nat) : Int)) (fun k => ?_) (ih (i + 1) (x3.set i x0[i]) (by omega) (by simpa using hl) ?_)
    · simp only [laws_toIntS.l0]
      rw [if_pos (by omega), if_pos (by omega), if_pos (by omega), rd_get hlt, w64 (by omega) (by omega)]
      simp
    · rw [take_step (by simpa using (by omega : i < x3.length)), take_step hlt, List.take_set_of_le (Nat.le_refl _), ht]
      simp
theorem toIntS_ev (l : List Int) (hl : l.length ≤ 1048576) : Ev (fun k => laws_toIntS.f k l) l := by
  have h := toIntS_l l (by omega) l.length 0 (List.replicate l.length 0) (by omega) (by simp) (by simp)
  refine Ev.congr (fun k => ?_) h
  unfold laws_toIntS.f
  rw [if_pos (by omega), if_pos (by simp; omega)]
  simp
theorem eqIntS_l (x0 x1 : List Int) (hx : x0.length < 9223372036854775807) (hl : x0.length = x1.length) : ∀ (d i : Nat), i + d = x0.length → x0.take i = x1.take i → Ev (fun k => laws_eqIntS.l0 k x0 x1 (i : Int)) (decide (x0 = x1)) := by
  intro d
  induction d with
  | zero =>
    intro i hi ht
    have e : x0 = x1 := by
      have h1 : x0.take i = x0 := List.take_of_length_le (by omega)
      have h2 : x1.take i = x1 := List.take_of_length_le (by omega)
      rw [h1, h2] at ht
      exact ht
    refine Ev.step (f := fun _ => some (decide (x0 = x1))) (fun k => ?_) (Ev.now _)
    simp only [laws_eqIntS.l0]
    rw [if_neg (by omega), decide_eq_true e]
  | succ d ih =>
    intro i hi ht
    have hlt : i < x0.length := by omega
    have hlt1 : i < x1.length := by omega
    by_cases he : x0[i] = x1[i]
    · refine Ev.step (f := fun k => laws_eqIntS.l0 k x0 x1 ((i + 1 : Nat) : Int)) (fun k => ?_) (ih (i + 1) (by omega) ?_)
      · simp only [laws_eqIntS.l0]
        rw [if_pos (by omega), if_pos (by omega), if_pos (by omega), rd_get hlt, rd_get hlt1, if_pos he, w64 (by omega) (by omega)]
        simp
      · rw [take_step hlt, take_step hlt1, ht, he]
    · have hne : ¬ x0 = x1 := fun e => he (by subst e; rfl)
      refine Ev.step (f := fun _ => some (decide (x0 = x1))) (fun k => ?_) (Ev.now _)
      simp only [laws_eqIntS.l0]
      rw [if_pos (by omega), if_pos (by omega), if_pos (by omega), rd_get hlt, rd_get hlt1, if_neg he, decide_eq_false hne]
theorem eqIntS_ev (l m : List Int) (hl : l.length < 9223372036854775807) : Ev (fun k => laws_eqIntS.f k l m) (decide (l = m)) := by
  by_cases h : l.length = m.length
  · refine Ev.congr (fun k => ?_) (eqIntS_l l m hl h l.length 0 (by omega) (by simp))
    unfold laws_eqIntS.f
    rw [if_pos (by omega)]
    rfl
  · have hne : ¬ l = m := fun e => h (by rw [e])
    refine ev_eq (ev_const (a := some false) rfl |>.congr (fun k => ?_)) (decide_eq_false hne).symm
    unfold laws_eqIntS.f
    rw [if_neg (by omega)]

theorem l01In_eq (a b c : Int) : spec_l01In.f a b c = some (decide (b ≤ a ∧ a ≤ c)) := by
  unfold spec_l01In.f
  by_cases h : a ≥ b
  · rw [if_pos h]; simp [h]
  · rw [if_neg h]; simp [h]

/-! all numbers from low to high; sums -/
def allIn (l : List Int) (a b : Int) : Bool := l.all fun n => decide (a ≤ n) && decide (n ≤ b)
theorem allIn_iff {l : List Int} {a b : Int} : allIn l a b = true ↔ ∀ x ∈ l, a ≤ x ∧ x ≤ b := by
  unfold allIn
  rw [List.all_eq_true]
  simp
theorem areWithin_eq (l : List Int) (a b : Int) : impl_areWithin.f l a b = some (allIn l a b) := rfl
theorem allIn_drop {l : List Int} {a b : Int} {i : Nat} (h : i < l.length) : allIn (l.drop i) a b = ((decide (a ≤ l[i]) && decide (l[i] ≤ b)) && allIn (l.drop (i + 1)) a b) := by
  unfold allIn
  rw [List.drop_eq_getElem_cons h, List.all_cons]

/-! RulerOk -/
def rulerOk (l : List Int) : Bool := decide (1 ≤ l.length ∧ l.length ≤ 10) && allIn l 1 50
theorem spec_Ruler_l (l : List Int) (hl : l.length ≤ 10) : ∀ (d i : Nat), i + d = l.length → Ev (fun k => spec_RulerOk.l0 k l (l.length : Int) (i : Int)) (allIn (l.drop i) 1 50) := by
  intro d
  induction d with
  | zero =>
    intro i hi
    refine Ev.step (f := fun _ => some (allIn (l.drop i) 1 50)) (fun k => ?_) (Ev.now _)
    simp only [spec_RulerOk.l0]
    rw [if_neg (by omega), List.drop_of_length_le (by omega)]
    rfl
  | succ d ih =>
    intro i hi
    have hlt : i < l.length := by omega
    rw [allIn_drop hlt]
    by_cases c : 1 ≤ l[i] ∧ l[i] ≤ 50
    · rw [decide_eq_true c.1, decide_eq_true c.2, Bool.true_and, Bool.true_and]
      refine Ev.step (f := fun k => spec_RulerOk.l0 k l (l.length : Int) ((i + 1 : Nat) : Int)) (fun k => ?_) (ih (i + 1) (by omega))
      simp only [spec_RulerOk.l0, l01In_eq, Option.bind_some]
      rw [if_pos (by omega), if_pos (by omega), if_pos (by omega), rd_get hlt, if_pos (by simpa using c), w64 (by omega) (by omega)]
      rfl
    · have c' : (decide (1 ≤ l[i]) && decide (l[i] ≤ 50)) = false := by simpa using c
      rw [c', Bool.false_and]
      refine Ev.step (f := fun k => some false) (fun k => ?_) (Ev.now _)
      simp only [spec_RulerOk.l0, l01In_eq, Option.bind_some]
      rw [if_pos (by omega), if_pos (by omega), if_pos (by omega), rd_get hlt, if_neg (by simpa using c)]
theorem spec_Ruler_ev (l : List Int) : Ev (fun k => spec_RulerOk.f k l) (rulerOk l) := by
  unfold spec_RulerOk.f rulerOk
  refine Ev.bind (ev_const (l01In_eq _ _ _)) ?_
  by_cases c : 1 ≤ l.length ∧ l.length ≤ 10
  · rw [decide_eq_true c, Bool.true_and]
    exact Ev.congr (fun k => if_pos (by simp; omega)) (spec_Ruler_l l c.2 l.length 0 (by omega))
  · rw [decide_eq_false c, Bool.false_and]
    exact Ev.congr (fun k => if_neg (by simp; omega)) (Ev.now _)
theorem impl_Ruler_eq (l : List Int) : impl_RulerOk.f l = some (rulerOk l) := by
  unfold impl_RulerOk.f rulerOk
  rw [areWithin_eq]
  by_cases c1 : 1 ≤ l.length
  · rw [if_pos (by omega)]
    by_cases c2 : l.length ≤ 10
    · rw [if_pos (by omega)]
      simp [c1, c2]
    · rw [if_neg (by omega)]
      simp [c2]
  · rw [if_neg (by omega)]
    simp [c1]
theorem rulerOk_iff {l : List Int} : rulerOk l = true ↔ 1 ≤ l.length ∧ l.length ≤ 10 ∧ ∀ x ∈ l, 1 ≤ x ∧ x ≤ 50 := by
  unfold rulerOk
  rw [Bool.and_eq_true, decide_eq_true_iff, allIn_iff, and_assoc]

end Go.Proofs.YtjjdahnjindgaaaDoor.PA

/- ints -/
import Derived.Test.YtebjpafnfmmjeaaPAx0
import Derived.Test.YtebjpafnfmmjeaaPAx1
import Derived.Test.YtebjpafnfmmjeaaPAx3
import Derived.Test.YtebjpafnfmmjeaaPAx4
import Derived.Test.YtebjpafnfmmjeaaPAx6
import Derived.Test.YtebjpafnfmmjeaaPAx7
namespace Go.Proofs.Ytebjpafnfmmjeaa.PA
open Go.RowKit Go.Proofs.YtebjpafnfmmjeaaW.PrintWords Go.Proofs.YtebjpafnfmmjeaaW.PrintLast Go.Proofs.YtebjpafnfmmjeaaW.PrintMore
set_option linter.unusedVariables false
set_option linter.unusedSimpArgs false

/-! Plain lemmas: whole numbers, lists, rounds. -/
theorem w64 {x : Int} (h0 : -9223372036854775808 ≤ x) (h1 : x < 9223372036854775808) : wrap64 x = x := by
  unfold wrap64
  omega
theorem wf_lo {x : Int} (h : (Lit.int .i64 x).wf = true) : -9223372036854775808 ≤ x ∧ x < 9223372036854775808 := by
  have h1 := h
  simp [Lit.wf] at h1
  have h2 : IntKind.i64.min = -9223372036854775808 := rfl
  omega
theorem rd_nat (l : List Int) (i : Nat) : rd l (i : Int) = l.getD i 0 := by simp [rd]
theorem rd_get {l : List Int} {i : Nat} (h : i < l.length) : rd l (i : Int) = l[i] := by simp [rd, List.getD_eq_getElem?_getD, h]
theorem ev_eq {α : Type} {g : Nat → Option α} {r r' : α} (h : Ev g r) (e : r = r') : Ev g r' := e ▸ h
theorem ev_both {α : Type} {g : Nat → Option α} {r r' : α} (h : Ev g r) (h' : Ev g r') : r = r' := by
  obtain ⟨K, h⟩ := h
  obtain ⟨K', h'⟩ := h'
  have a := h (max K K') (by omega)
  have b := h' (max K K') (by omega)
  rw [a] at b
  exact Option.some.inj b
theorem ev_const {α : Type} {a : Option α} {r : α} (h : a = some r) : Ev (fun _ => a) r := ⟨0, fun _ _ => h⟩
theorem take_step {l : List Int} {i : Nat} (h : i < l.length) : l.take (i + 1) = l.take i ++ [l[i]] := by
  rw [List.take_succ_eq_append_getElem h]

/-! toIntS, eqIntS, markIntS, heldIntS -/
theorem toIntS_l (x0 : List Int) (hx : x0.length < 9223372036854775807) : ∀ (d i : Nat) (x3 : List Int), i + d = x0.length → x3.length = x0.length → x3.take i = x0.take i → Ev (fun k => laws_toIntS.l0 k x0 x3 (i : Int)) x0 := by
  intro d
  induction d with
  | zero =>
    intro i x3 hi hl ht
    have e : x3 = x0 := by
      have h1 : x3.take i = x3 := List.take_of_length_le (by omega)
      have h2 : x0.take i = x0 := List.take_of_length_le (by omega)
      rw [h1, h2] at ht
      exact ht
    refine Ev.step (f := fun _ => some x0) (fun k => ?_) (Ev.now _)
    simp only [laws_toIntS.l0]
    rw [if_neg (by omega), e]
  | succ d ih =>
    intro i x3 hi hl ht
    have hlt : i < x0.length := by omega
    refine Ev.step (f := fun k => laws_toIntS.l0 k x0 (x3.set i x0[i]) ((i + 1 : Nat) : Int)) (fun k => ?_) (ih (i + 1) (x3.set i x0[i]) (by omega) (by simpa using hl) ?_)
    · simp only [laws_toIntS.l0]
      rw [if_pos (by omega), if_pos (by omega), if_pos (by omega), rd_get hlt, w64 (by omega) (by omega)]
      simp
    · rw [take_step (by simpa using (by omega : i < x3.length)), take_step hlt, List.take_set_of_le (Nat.le_refl _), ht]
      simp
theorem toIntS_ev (l : List Int) (hl : l.length ≤ 1048576) : Ev (fun k => laws_toIntS.f k l) l := by
  have h := toIntS_l l (by omega) l.length 0 (List.replicate l.length 0) (by omega) (by simp) (by simp)
  refine Ev.congr (fun k => ?_) h
  unfold laws_toIntS.f
  rw [if_pos (by omega), if_pos (by simp; omega)]
  simp
theorem eqIntS_l (x0 x1 : List Int) (hx : x0.length < 9223372036854775807) (hl : x0.length = x1.length) : ∀ (d i : Nat), i + d = x0.length → x0.take i = x1.take i → Ev (fun k => laws_eqIntS.l0 k x0 x1 (i : Int)) (decide (x0 = x1)) := by
  intro d
  induction d with
  | zero =>
    intro i hi ht
    have e : x0 = x1 := by
      have h1 : x0.take i = x0 := List.take_of_length_le (by omega)
      have h2 : x1.take i = x1 := List.take_of_length_le (by omega)
      rw [h1, h2] at ht
      exact ht
    refine Ev.step (f := fun _ => some (decide (x0 = x1))) (fun k => ?_) (Ev.now _)
    simp only [laws_eqIntS.l0]
    rw [if_neg (by omega), decide_eq_true e]
  | succ d ih =>
    intro i hi ht
    have hlt : i < x0.length := by omega
    have hlt1 : i < x1.length := by omega
    by_cases he : x0[i] = x1[i]
    · refine Ev.step (f := fun k => laws_eqIntS.l0 k x0 x1 ((i + 1 : Nat) : Int)) (fun k => ?_) (ih (i + 1) (by omega) ?_)
      · simp only [laws_eqIntS.l0]
        rw [if_pos (by omega), if_pos (by omega), if_pos (by omega), rd_get hlt, rd_get hlt1, if_pos he, w64 (by omega) (by omega)]
        simp
      · rw [take_step hlt, take_step hlt1, ht, he]
    · have hne : ¬ x0 = x1 := fun e => he (by subst e; rfl)
      refine Ev.step (f := fun _ => some (decide (x0 = x1))) (fun k => ?_) (Ev.now _)
      simp only [laws_eqIntS.l0]
      rw [if_pos (by omega), if_pos (by omega), if_pos (by omega), rd_get hlt, rd_get hlt1, if_neg he, decide_eq_false hne]
theorem eqIntS_ev (l m : List Int) (hl : l.length < 9223372036854775807) : Ev (fun k => laws_eqIntS.f k l m) (decide (l = m)) := by
  by_cases h : l.length = m.length
  · refine Ev.congr (fun k => ?_) (eqIntS_l l m hl h l.length 0 (by omega) (by simp))
    unfold laws_eqIntS.f
    rw [if_pos (by omega)]
    rfl
  · have hne : ¬ l = m := fun e => h (by rw [e])
    refine ev_eq (ev_const (a := some false) rfl |>.congr (fun k => ?_)) (decide_eq_false hne).symm
    unfold laws_eqIntS.f
    rw [if_neg (by omega)]

/-! szIntSS, toIntSS, eqIntSS -/
theorem rdL_get {l : List (List Int)} {i : Nat} (h : i < l.length) : rd_L1 l (i : Int) = l[i] := by simp [rd_L1, List.getD_eq_getElem?_getD, h]
theorem takeL_step {l : List (List Int)} {i : Nat} (h : i < l.length) : l.take (i + 1) = l.take i ++ [l[i]] := by
  rw [List.take_succ_eq_append_getElem h]
theorem szIntSS_l (l : List (List Int)) (hl : l.length ≤ 1048576) (hr : ∀ r ∈ l, r.length ≤ 9223372036854775807) : ∀ (d i : Nat) (x : Int), i + d = l.length → 0 ≤ x → x ≤ 1048576 →
    ∃ r : Int, Ev (fun k => laws_szIntSS.l0 k l x (i : Int)) r ∧ (r < 0 ∨ ∀ j, i ≤ j → ∀ h : j < l.length, l[j].length ≤ 1048576) := by
  intro d
  induction d with
  | zero =>
    intro i x hi h0 h1
    refine ⟨x, Ev.step (f := fun _ => some x) (fun k => ?_) (Ev.now _), .inr (fun j h2 h3 => by omega)⟩
    simp only [laws_szIntSS.l0]
    rw [if_neg (by omega)]
  | succ d ih =>
    intro i x hi h0 h1
    have hlt : i < l.length := by omega
    have hrow := hr l[i] (List.getElem_mem hlt)
    by_cases c : x - (l[i].length : Int) < 0
    · refine ⟨-1, Ev.step (f := fun _ => some (-1)) (fun k => ?_) (Ev.now _), .inl (by omega)⟩
      simp only [laws_szIntSS.l0]
      rw [if_pos (by omega), if_pos (by omega), rdL_get hlt]
      unfold laws_szIntS.f
      rw [w64 (by omega) (by omega), if_pos c]
      rfl
    · obtain ⟨r, he, hd⟩ := ih (i + 1) (x - (l[i].length : Int)) (by omega) (by omega) (by omega)
      refine ⟨r, Ev.step (f := fun k => laws_szIntSS.l0 k l (x - (l[i].length : Int)) ((i + 1 : Nat) : Int)) (fun k => ?_) he, ?_⟩
      · simp only [laws_szIntSS.l0]
        rw [if_pos (by omega), if_pos (by omega), rdL_get hlt]
        unfold laws_szIntS.f
        rw [w64 (x := x - (l[i].length : Int)) (by omega) (by omega), if_neg c]
        simp only [Option.bind_some]
        rw [if_neg c, w64 (by omega) (by omega)]
        rfl
      · rcases hd with hd | hd
        · exact .inl hd
        · refine .inr (fun j h2 h3 => ?_)
          by_cases e : j = i
          · subst e; omega
          · exact hd j (by omega) h3
theorem szIntSS_ev (l : List (List Int)) (hl : l.length ≤ 9223372036854775807) (hr : ∀ r ∈ l, r.length ≤ 9223372036854775807) :
    ∃ r : Int, Ev (fun k => laws_szIntSS.f k l 1048576) r ∧ (r < 0 ∨ (l.length ≤ 1048576 ∧ ∀ x ∈ l, x.length ≤ 1048576)) := by
  by_cases c : (1048576 : Int) - (l.length : Int) < 0
  · refine ⟨-1, (Ev.now (-1)).congr (fun k => ?_), .inl (by omega)⟩
    unfold laws_szIntSS.f
    rw [w64 (by omega) (by omega), if_pos c]
  · obtain ⟨r, he, hd⟩ := szIntSS_l l (by omega) hr l.length 0 (1048576 - (l.length : Int)) (by omega) (by omega) (by omega)
    refine ⟨r, he.congr (fun k => ?_), ?_⟩
    · unfold laws_szIntSS.f
      rw [w64 (by omega) (by omega), if_neg c]
      rfl
    · rcases hd with hd | hd
      · exact .inl hd
      · refine .inr ⟨by omega, fun x hx => ?_⟩
        obtain ⟨j, hj, rfl⟩ := List.getElem_of_mem hx
        exact hd j (by omega) hj
theorem toIntSS_l (x0 : List (List Int)) (hx : x0.length ≤ 1048576) (hr : ∀ r ∈ x0, r.length ≤ 1048576) : ∀ (d i : Nat) (x3 : List (List Int)), i + d = x0.length → x3.length = x0.length → x3.take i = x0.take i → Ev (fun k => laws_toIntSS.l0 k x0 x3 (i : Int)) x0 := by
  intro d
  induction d with
  | zero =>
    intro i x3 hi hl ht
    have e : x3 = x0 := by
      have h1 : x3.take i = x3 := List.take_of_length_le (by omega)
      have h2 : x0.take i = x0 := List.take_of_length_le (by omega)
      rw [h1, h2] at ht
      exact ht
    refine Ev.step (f := fun _ => some x0) (fun k => ?_) (Ev.now _)
    simp only [laws_toIntSS.l0]
    rw [if_neg (by omega), e]
  | succ d ih =>
    intro i x3 hi hl ht
    have hlt : i < x0.length := by omega
    have hnext := ih (i + 1) (x3.set i x0[i]) (by omega) (by simpa using hl) (by
      rw [takeL_step (by simpa using (by omega : i < x3.length)), takeL_step hlt, List.take_set_of_le (Nat.le_refl _), ht]
      simp)
    refine Ev.step (fun k => rfl) ?_
    simp only [laws_toIntSS.l0]
    refine Ev.congr (fun k => (if_pos (by omega)).trans (if_pos (by omega))) ?_
    rw [rdL_get hlt]
    refine Ev.bind (toIntS_ev x0[i] (hr _ (List.getElem_mem hlt))) ?_
    refine Ev.congr (fun k => (if_pos (by omega)).trans ?_) hnext
    rw [w64 (by omega) (by omega)]
    simp
theorem toIntSS_ev (l : List (List Int)) (hl : l.length ≤ 1048576) (hr : ∀ r ∈ l, r.length ≤ 1048576) : Ev (fun k => laws_toIntSS.f k l) l := by
  have h := toIntSS_l l hl hr l.length 0 (List.replicate l.length []) (by omega) (by simp) (by simp)
  refine Ev.congr (fun k => ?_) h
  unfold laws_toIntSS.f
  rw [if_pos (by omega), if_pos (by simp; omega)]
  simp
theorem eqIntSS_l (x0 x1 : List (List Int)) (hx : x0.length < 9223372036854775807) (hr : ∀ r ∈ x0, r.length < 9223372036854775807) (hl : x0.length = x1.length) : ∀ (d i : Nat), i + d = x0.length → x0.take i = x1.take i → Ev (fun k => laws_eqIntSS.l0 k x0 x1 (i : Int)) (decide (x0 = x1)) := by
  intro d
  induction d with
  | zero =>
    intro i hi ht
    have e : x0 = x1 := by
      have h1 : x0.take i = x0 := List.take_of_length_le (by omega)
      have h2 : x1.take i = x1 := List.take_of_length_le (by omega)
      rw [h1, h2] at ht
      exact ht
    refine Ev.step (f := fun _ => some (decide (x0 = x1))) (fun k => ?_) (Ev.now _)
    simp only [laws_eqIntSS.l0]
    rw [if_neg (by omega), decide_eq_true e]
  | succ d ih =>
    intro i hi ht
    have hlt : i < x0.length := by omega
    have hlt1 : i < x1.length := by omega
    refine Ev.step (fun k => rfl) ?_
    simp only [laws_eqIntSS.l0]
    refine Ev.congr (fun k => (if_pos (by omega)).trans ((if_pos (by omega)).trans (if_pos (by omega)))) ?_
    rw [rdL_get hlt, rdL_get hlt1]
    refine Ev.bind (eqIntS_ev x0[i] x1[i] (hr _ (List.getElem_mem hlt))) ?_
    by_cases he : x0[i] = x1[i]
    · refine Ev.congr (fun k => (if_pos (by simpa using he)).trans ?_) (ih (i + 1) (by omega) ?_)
      · rw [w64 (by omega) (by omega)]
        rfl
      · rw [takeL_step hlt, takeL_step hlt1, ht, he]
    · have hne : ¬ x0 = x1 := fun e => he (by subst e; rfl)
      rw [decide_eq_false hne]
      exact Ev.congr (fun k => if_neg (by simpa using he)) (Ev.now _)
theorem eqIntSS_ev (l m : List (List Int)) (hl : l.length < 9223372036854775807) (hr : ∀ r ∈ l, r.length < 9223372036854775807) : Ev (fun k => laws_eqIntSS.f k l m) (decide (l = m)) := by
  by_cases h : l.length = m.length
  · refine Ev.congr (fun k => ?_) (eqIntSS_l l m hl hr h l.length 0 (by omega) (by simp))
    unfold laws_eqIntSS.f
    rw [if_pos (by omega)]
    rfl
  · have hne : ¬ l = m := fun e => h (by rw [e])
    refine ev_eq (ev_const (a := some false) rfl |>.congr (fun k => ?_)) (decide_eq_false hne).symm
    unfold laws_eqIntSS.f
    rw [if_neg (by omega)]

theorem l01In_eq (a b c : Int) : spec_l01In.f a b c = some (decide (b ≤ a ∧ a ≤ c)) := by
  unfold spec_l01In.f
  by_cases h : a ≥ b
  · rw [if_pos h]; simp [h]
  · rw [if_neg h]; simp [h]
theorem within_eq (a b c : Int) : impl_within.f a b c = some (decide (b ≤ a ∧ a ≤ c)) := l01In_eq a b c

end Go.Proofs.Ytebjpafnfmmjeaa.PA

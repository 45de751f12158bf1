/- Texts of this claim put together in build order (FnExactFirstStroke). -/
import Derived.Test.YtcdajmbnijmdfaaMFirstStroke0
import Derived.Test.YtcdajmbnijmdfaaMFirstStroke4
import Derived.Test.YtcdajmbnijmdfaaMFirstStroke3
import Derived.Test.YtcdajmbnijmdfaaMFirstStroke1
import Derived.Test.YtcdajmbnijmdfaaMFirstStroke2
import Derived.Deep.Matrix
import Derived.Test.YtcdajmbnijmdfaaRows
import Derived.WalkKit
import Derived.ProofKit
import Derived.OpenShut
import Derived.ShutString
import Derived.ChangeOld
import Derived.Below
import Derived.SizedLaws
/- ints -/
namespace Go.Proofs.Ytcdajmbnijmdfaa.PA
open Go.RowKit Go.Proofs.YtcdajmbnijmdfaaW.PrintWords Go.Proofs.YtcdajmbnijmdfaaW.PrintLast Go.Proofs.YtcdajmbnijmdfaaW.PrintMore
set_option linter.unusedVariables false
set_option linter.unusedSimpArgs false
theorem w64 {x : Int} (h0 : -9223372036854775808 ≤ x) (h1 : x < 9223372036854775808) : wrap64 x = x := by
  unfold wrap64
  omega
theorem rd_get {l : List Int} {i : Nat} (h : i < l.length) : rd l (i : Int) = l[i] := by simp [rd, List.getD_eq_getElem?_getD, h]
theorem ev_eq {α : Type} {g : Nat → Option α} {r r' : α} (h : Ev g r) (e : r = r') : Ev g r' := e ▸ h
theorem ev_const {α : Type} {a : Option α} {r : α} (h : a = some r) : Ev (fun _ => a) r := ⟨0, fun _ _ => h⟩
theorem take_step {l : List Int} {i : Nat} (h : i < l.length) : l.take (i + 1) = l.take i ++ [l[i]] := by
  rw [List.take_succ_eq_append_getElem h]
theorem toIntS_l (x0 : List Int) (hx : x0.length < 9223372036854775807) : ∀ (d i : Nat) (x3 : List Int), i + d = x0.length → x3.length = x0.length → x3.take i = x0.take i → Ev (fun k => laws_toIntS.l0 k x0 x3 (i : Int)) x0 := by
  intro d
  induction d with
  | zero =>
    intro i x3 hi hl ht
    have e : x3 = x0 := by
      have h1 : x3.take i = x3 := List.take_of_length_le (by omega)
      have h2 : x0.take i = x0 := List.take_of_length_le (by omega)
      rw [h1, h2] at ht
      exact ht
    refine Ev.step (f := fun _ => some x0) (fun k => ?_) (Ev.now _)
    simp only [laws_toIntS.l0]
    rw [if_neg (by omega), e]
  | succ d ih =>
    intro i x3 hi hl ht
    have hlt : i < x0.length := by omega
    refine Ev.step (f := fun k => laws_toIntS.l0 k x0 (x3.set i x0[i]) ((i + 1 : Nat) : Int)) (fun k => ?_) (ih (i + 1) (x3.set i x0[i]) (by omega) (by simpa using hl) ?_)
    · simp only [laws_toIntS.l0]
      rw [if_pos (by omega), if_pos (by omega), if_pos (by omega), rd_get hlt, w64 (by omega) (by omega)]
      simp
    · rw [take_step (by simpa using (by omega : i < x3.length)), take_step hlt, List.take_set_of_le (Nat.le_refl _), ht]
      simp
theorem toIntS_ev (l : List Int) (hl : l.length ≤ 1048576) : Ev (fun k => laws_toIntS.f k l) l := by
  have h := toIntS_l l (by omega) l.length 0 (List.replicate l.length 0) (by omega) (by simp) (by simp)
  refine Ev.congr (fun k => ?_) h
  unfold laws_toIntS.f
  rw [if_pos (by omega), if_pos (by simp; omega)]
  simp
theorem eqIntS_l (x0 x1 : List Int) (hx : x0.length < 9223372036854775807) (hl : x0.length = x1.length) : ∀ (d i : Nat), i + d = x0.length → x0.take i = x1.take i → Ev (fun k => laws_eqIntS.l0 k x0 x1 (i : Int)) (decide (x0 = x1)) := by
  intro d
  induction d with
  | zero =>
    intro i hi ht
    have e : x0 = x1 := by
      have h1 : x0.take i = x0 := List.take_of_length_le (by omega)
      have h2 : x1.take i = x1 := List.take_of_length_le (by omega)
      rw [h1, h2] at ht
      exact ht
    refine Ev.step (f := fun _ => some (decide (x0 = x1))) (fun k => ?_) (Ev.now _)
    simp only [laws_eqIntS.l0]
    rw [if_neg (by omega), decide_eq_true e]
  | succ d ih =>
    intro i hi ht
    have hlt : i < x0.length := by omega
    have hlt1 : i < x1.length := by omega
    by_cases he : x0[i] = x1[i]
    · refine Ev.step (f := fun k => laws_eqIntS.l0 k x0 x1 ((i + 1 : Nat) : Int)) (fun k => ?_) (ih (i + 1) (by omega) ?_)
      · simp only [laws_eqIntS.l0]
        rw [if_pos (by omega), if_pos (by omega), if_pos (by omega), rd_get hlt, rd_get hlt1, if_pos he, w64 (by omega) (by omega)]
        simp
      · rw [take_step hlt, take_step hlt1, ht, he]
    · have hne : ¬ x0 = x1 := fun e => he (by subst e; rfl)
      refine Ev.step (f := fun _ => some (decide (x0 = x1))) (fun k => ?_) (Ev.now _)
      simp only [laws_eqIntS.l0]
      rw [if_pos (by omega), if_pos (by omega), if_pos (by omega), rd_get hlt, rd_get hlt1, if_neg he, decide_eq_false hne]
theorem eqIntS_ev (l m : List Int) (hl : l.length < 9223372036854775807) : Ev (fun k => laws_eqIntS.f k l m) (decide (l = m)) := by
  by_cases h : l.length = m.length
  · refine Ev.congr (fun k => ?_) (eqIntS_l l m hl h l.length 0 (by omega) (by simp))
    unfold laws_eqIntS.f
    rw [if_pos (by omega)]
    rfl
  · have hne : ¬ l = m := fun e => h (by rw [e])
    refine ev_eq (ev_const (a := some false) rfl |>.congr (fun k => ?_)) (decide_eq_false hne).symm
    unfold laws_eqIntS.f
    rw [if_neg (by omega)]
theorem rdL_get {l : List (List Int)} {i : Nat} (h : i < l.length) : rd_L1 l (i : Int) = l[i] := by simp [rd_L1, List.getD_eq_getElem?_getD, h]
theorem takeL_step {l : List (List Int)} {i : Nat} (h : i < l.length) : l.take (i + 1) = l.take i ++ [l[i]] := by
  rw [List.take_succ_eq_append_getElem h]
theorem toIntSS_l (x0 : List (List Int)) (hx : x0.length ≤ 1048576) (hr : ∀ r ∈ x0, r.length ≤ 1048576) : ∀ (d i : Nat) (x3 : List (List Int)), i + d = x0.length → x3.length = x0.length → x3.take i = x0.take i → Ev (fun k => laws_toIntSS.l0 k x0 x3 (i : Int)) x0 := by
  intro d
  induction d with
  | zero =>
    intro i x3 hi hl ht
    have e : x3 = x0 := by
      have h1 : x3.take i = x3 := List.take_of_length_le (by omega)
      have h2 : x0.take i = x0 := List.take_of_length_le (by omega)
      rw [h1, h2] at ht
      exact ht
    refine Ev.step (f := fun _ => some x0) (fun k => ?_) (Ev.now _)
    simp only [laws_toIntSS.l0]
    rw [if_neg (by omega), e]
  | succ d ih =>
    intro i x3 hi hl ht
    have hlt : i < x0.length := by omega
    have hnext := ih (i + 1) (x3.set i x0[i]) (by omega) (by simpa using hl) (by
      rw [takeL_step (by simpa using (by omega : i < x3.length)), takeL_step hlt, List.take_set_of_le (Nat.le_refl _), ht]
      simp)
    refine Ev.step (fun k => rfl) ?_
    simp only [laws_toIntSS.l0]
    refine Ev.congr (fun k => (if_pos (by omega)).trans (if_pos (by omega))) ?_
    rw [rdL_get hlt]
    refine Ev.bind (toIntS_ev x0[i] (hr _ (List.getElem_mem hlt))) ?_
    refine Ev.congr (fun k => (if_pos (by omega)).trans ?_) hnext
    rw [w64 (by omega) (by omega)]
    simp
theorem toIntSS_ev (l : List (List Int)) (hl : l.length ≤ 1048576) (hr : ∀ r ∈ l, r.length ≤ 1048576) : Ev (fun k => laws_toIntSS.f k l) l := by
  have h := toIntSS_l l hl hr l.length 0 (List.replicate l.length []) (by omega) (by simp) (by simp)
  refine Ev.congr (fun k => ?_) h
  unfold laws_toIntSS.f
  rw [if_pos (by omega), if_pos (by simp; omega)]
  simp
theorem eqIntSS_l (x0 x1 : List (List Int)) (hx : x0.length < 9223372036854775807) (hr : ∀ r ∈ x0, r.length < 9223372036854775807) (hl : x0.length = x1.length) : ∀ (d i : Nat), i + d = x0.length → x0.take i = x1.take i → Ev (fun k => laws_eqIntSS.l0 k x0 x1 (i : Int)) (decide (x0 = x1)) := by
  intro d
  induction d with
  | zero =>
    intro i hi ht
    have e : x0 = x1 := by
      have h1 : x0.take i = x0 := List.take_of_length_le (by omega)
      have h2 : x1.take i = x1 := List.take_of_length_le (by omega)
      rw [h1, h2] at ht
      exact ht
    refine Ev.step (f := fun _ => some (decide (x0 = x1))) (fun k => ?_) (Ev.now _)
    simp only [laws_eqIntSS.l0]
    rw [if_neg (by omega), decide_eq_true e]
  | succ d ih =>
    intro i hi ht
    have hlt : i < x0.length := by omega
    have hlt1 : i < x1.length := by omega
    refine Ev.step (fun k => rfl) ?_
    simp only [laws_eqIntSS.l0]
    refine Ev.congr (fun k => (if_pos (by omega)).trans ((if_pos (by omega)).trans (if_pos (by omega)))) ?_
    rw [rdL_get hlt, rdL_get hlt1]
    refine Ev.bind (eqIntS_ev x0[i] x1[i] (hr _ (List.getElem_mem hlt))) ?_
    by_cases he : x0[i] = x1[i]
    · refine Ev.congr (fun k => (if_pos (by simpa using he)).trans ?_) (ih (i + 1) (by omega) ?_)
      · rw [w64 (by omega) (by omega)]
        rfl
      · rw [takeL_step hlt, takeL_step hlt1, ht, he]
    · have hne : ¬ x0 = x1 := fun e => he (by subst e; rfl)
      rw [decide_eq_false hne]
      exact Ev.congr (fun k => if_neg (by simpa using he)) (Ev.now _)
theorem eqIntSS_ev (l m : List (List Int)) (hl : l.length < 9223372036854775807) (hr : ∀ r ∈ l, r.length < 9223372036854775807) : Ev (fun k => laws_eqIntSS.f k l m) (decide (l = m)) := by
  by_cases h : l.length = m.length
  · refine Ev.congr (fun k => ?_) (eqIntSS_l l m hl hr h l.length 0 (by omega) (by simp))
    unfold laws_eqIntSS.f
    rw [if_pos (by omega)]
    rfl
  · have hne : ¬ l = m := fun e => h (by rw [e])
    refine ev_eq (ev_const (a := some false) rfl |>.congr (fun k => ?_)) (decide_eq_false hne).symm
    unfold laws_eqIntSS.f
    rw [if_neg (by omega)]
theorem l01In_eq (a b c : Int) : spec_l01In.f a b c = some (decide (b ≤ a ∧ a ≤ c)) := by
  unfold spec_l01In.f
  by_cases h : a ≥ b
  · rw [if_pos h]; simp [h]
  · rw [if_neg h]; simp [h]
theorem within_eq (a b c : Int) : impl_within.f a b c = some (decide (b ≤ a ∧ a ≤ c)) := l01In_eq a b c
end Go.Proofs.Ytcdajmbnijmdfaa.PA
/- drawings -/
namespace Go.Proofs.Ytcdajmbnijmdfaa.PA
open Go.RowKit Go.Proofs.YtcdajmbnijmdfaaW.PrintWords Go.Proofs.YtcdajmbnijmdfaaW.PrintLast Go.Proofs.YtcdajmbnijmdfaaW.PrintMore
set_option linter.unusedVariables false
set_option linter.unusedSimpArgs false
def lineOk (n : Int) (l : List Int) : Bool := decide (l.length = 2 ∧ 0 ≤ rd l 0 ∧ rd l 0 ≤ n - 1 ∧ 0 ≤ rd l 1 ∧ rd l 1 ≤ n - 1 ∧ ¬ rd l 0 = rd l 1)
def drawOk (n : Int) (l : List (List Int)) : Bool := decide (1 ≤ n ∧ n ≤ 8 ∧ l.length ≤ 12) && l.all (lineOk n)
theorem all_drop {α : Type} (l : List α) (p : α → Bool) (i : Nat) (h : i < l.length) : (l.drop i).all p = (p l[i] && (l.drop (i + 1)).all p) := by
  rw [List.drop_eq_getElem_cons h, List.all_cons]
theorem spec_IsDrawing_l (n : Int) (hn : 1 ≤ n ∧ n ≤ 8) (l : List (List Int)) (hl : l.length ≤ 12) : ∀ (d i : Nat), i + d = l.length → Ev (fun k => spec_IsDrawing.l0 k n l (l.length : Int) (i : Int)) ((l.drop i).all (lineOk n)) := by
  intro d
  induction d with
  | zero =>
    intro i hi
    refine Ev.step (f := fun _ => some ((l.drop i).all (lineOk n))) (fun k => ?_) (Ev.now _)
    simp only [spec_IsDrawing.l0]
    rw [if_neg (by omega), List.drop_of_length_le (by omega)]
    rfl
  | succ d ih =>
    intro i hi
    have hlt : i < l.length := by omega
    rw [all_drop l _ i hlt]
    by_cases c : lineOk n l[i] = true
    · rw [c, Bool.true_and]
      refine Ev.step (f := fun k => spec_IsDrawing.l0 k n l (l.length : Int) ((i + 1 : Nat) : Int)) (fun k => ?_) (ih (i + 1) (by omega))
      obtain ⟨c1, c2, c3, c4, c5, c6⟩ := of_decide_eq_true c
      simp only [spec_IsDrawing.l0, l01In_eq, Option.bind_some]
      rw [if_pos (by omega), if_pos (by omega), if_pos (by omega), rdL_get hlt, if_pos (by omega), if_pos (by omega), w64 (x := n - 1) (by omega) (by omega), if_pos (by simpa using ⟨c2, c3⟩), if_pos (by omega), if_pos (by simpa using ⟨c4, c5⟩), if_neg c6, w64 (by omega) (by omega)]
      rfl
    · have c' : lineOk n l[i] = false := by simpa using c
      rw [c', Bool.false_and]
      refine Ev.step (f := fun k => some false) (fun k => ?_) (Ev.now _)
      have hc := of_decide_eq_false c'
      simp only [spec_IsDrawing.l0, l01In_eq, Option.bind_some]
      rw [if_pos (by omega), if_pos (by omega), if_pos (by omega), rdL_get hlt, w64 (x := n - 1) (by omega) (by omega)]
      by_cases e1 : l[i].length = 2
      · rw [if_pos (by omega), if_pos (by omega)]
        by_cases e2 : 0 ≤ rd l[i] 0 ∧ rd l[i] 0 ≤ n - 1
        · rw [if_pos (by simpa using e2), if_pos (by omega)]
          by_cases e3 : 0 ≤ rd l[i] 1 ∧ rd l[i] 1 ≤ n - 1
          · rw [if_pos (by simpa using e3)]
            by_cases e4 : rd l[i] 0 = rd l[i] 1
            · rw [if_pos e4]
            · exact absurd ⟨e1, e2.1, e2.2, e3.1, e3.2, e4⟩ hc
          · rw [if_neg (by simpa using e3)]
        · rw [if_neg (by simpa using e2)]
      · rw [if_neg (by omega)]
theorem spec_IsDrawing_ev (n : Int) (l : List (List Int)) : Ev (fun k => spec_IsDrawing.f k n l) (drawOk n l) := by
  unfold spec_IsDrawing.f
  refine Ev.bind (ev_const (l01In_eq n 1 8)) ?_
  unfold drawOk
  by_cases c0 : 1 ≤ n ∧ n ≤ 8
  · refine Ev.congr (fun k => if_pos (by simpa using c0)) ?_
    by_cases c1 : l.length ≤ 12
    · rw [decide_eq_true (show 1 ≤ n ∧ n ≤ 8 ∧ l.length ≤ 12 from ⟨c0.1, c0.2, c1⟩), Bool.true_and, decide_eq_false (show ¬ ((l.length : Int) > 12) by omega)]
      refine Ev.step (f := fun k => spec_IsDrawing.l0 k n l (l.length : Int) ((0 : Nat) : Int)) (fun k => ?_) (spec_IsDrawing_l n c0 l c1 l.length 0 (by omega))
      simp only [spec_IsDrawing.j0]
      rw [if_neg (by simp)]
      rfl
    · rw [decide_eq_false (show ¬ (1 ≤ n ∧ n ≤ 8 ∧ l.length ≤ 12) from fun z => c1 z.2.2), Bool.false_and, decide_eq_true (show ((l.length : Int) > 12) by omega)]
      refine Ev.step (f := fun k => some false) (fun k => ?_) (Ev.now _)
      simp only [spec_IsDrawing.j0]
      rw [if_pos trivial]
  · refine Ev.congr (fun k => if_neg (by simpa using c0)) ?_
    rw [decide_eq_false (show ¬ (1 ≤ n ∧ n ≤ 8 ∧ l.length ≤ 12) from fun z => c0 ⟨z.1, z.2.1⟩), Bool.false_and]
    refine Ev.step (f := fun k => some false) (fun k => ?_) (Ev.now _)
    simp only [spec_IsDrawing.j0]
    rw [if_pos trivial]
theorem impl_IsDrawing_l (n : Int) (hn : 1 ≤ n ∧ n ≤ 8) (l : List (List Int)) (hl : l.length ≤ 12) : ∀ (d i : Nat), i + d = l.length → Ev (fun k => impl_IsDrawing.l0 k n l (l.length : Int) (i : Int)) ((l.drop i).all (lineOk n)) := by
  intro d
  induction d with
  | zero =>
    intro i hi
    refine Ev.step (f := fun _ => some ((l.drop i).all (lineOk n))) (fun k => ?_) (Ev.now _)
    simp only [impl_IsDrawing.l0]
    rw [if_neg (by omega), List.drop_of_length_le (by omega)]
    rfl
  | succ d ih =>
    intro i hi
    have hlt : i < l.length := by omega
    rw [all_drop l _ i hlt]
    by_cases c : lineOk n l[i] = true
    · rw [c, Bool.true_and]
      refine Ev.step (f := fun k => impl_IsDrawing.l0 k n l (l.length : Int) ((i + 1 : Nat) : Int)) (fun k => ?_) (ih (i + 1) (by omega))
      obtain ⟨c1, c2, c3, c4, c5, c6⟩ := of_decide_eq_true c
      simp only [impl_IsDrawing.l0, within_eq, Option.bind_some]
      rw [if_pos (by omega), if_pos (by omega), if_pos (by omega), rdL_get hlt, if_pos (by omega), if_pos (by omega), w64 (x := n - 1) (by omega) (by omega), if_pos (by simpa using ⟨c2, c3⟩), if_pos (by omega), if_pos (by simpa using ⟨c4, c5⟩), if_neg c6, w64 (by omega) (by omega)]
      rfl
    · have c' : lineOk n l[i] = false := by simpa using c
      rw [c', Bool.false_and]
      refine Ev.step (f := fun k => some false) (fun k => ?_) (Ev.now _)
      have hc := of_decide_eq_false c'
      simp only [impl_IsDrawing.l0, within_eq, Option.bind_some]
      rw [if_pos (by omega), if_pos (by omega), if_pos (by omega), rdL_get hlt, w64 (x := n - 1) (by omega) (by omega)]
      by_cases e1 : l[i].length = 2
      · rw [if_pos (by omega), if_pos (by omega)]
        by_cases e2 : 0 ≤ rd l[i] 0 ∧ rd l[i] 0 ≤ n - 1
        · rw [if_pos (by simpa using e2), if_pos (by omega)]
          by_cases e3 : 0 ≤ rd l[i] 1 ∧ rd l[i] 1 ≤ n - 1
          · rw [if_pos (by simpa using e3)]
            by_cases e4 : rd l[i] 0 = rd l[i] 1
            · rw [if_pos e4]
            · exact absurd ⟨e1, e2.1, e2.2, e3.1, e3.2, e4⟩ hc
          · rw [if_neg (by simpa using e3)]
        · rw [if_neg (by simpa using e2)]
      · rw [if_neg (by omega)]
theorem impl_IsDrawing_ev (n : Int) (l : List (List Int)) : Ev (fun k => impl_IsDrawing.f k n l) (drawOk n l) := by
  unfold impl_IsDrawing.f
  refine Ev.bind (ev_const (within_eq n 1 8)) ?_
  unfold drawOk
  by_cases c0 : 1 ≤ n ∧ n ≤ 8
  · refine Ev.congr (fun k => if_pos (by simpa using c0)) ?_
    by_cases c1 : l.length ≤ 12
    · rw [decide_eq_true (show 1 ≤ n ∧ n ≤ 8 ∧ l.length ≤ 12 from ⟨c0.1, c0.2, c1⟩), Bool.true_and, decide_eq_false (show ¬ ((l.length : Int) > 12) by omega)]
      refine Ev.step (f := fun k => impl_IsDrawing.l0 k n l (l.length : Int) ((0 : Nat) : Int)) (fun k => ?_) (impl_IsDrawing_l n c0 l c1 l.length 0 (by omega))
      simp only [impl_IsDrawing.j0]
      rw [if_neg (by simp)]
      rfl
    · rw [decide_eq_false (show ¬ (1 ≤ n ∧ n ≤ 8 ∧ l.length ≤ 12) from fun z => c1 z.2.2), Bool.false_and, decide_eq_true (show ((l.length : Int) > 12) by omega)]
      refine Ev.step (f := fun k => some false) (fun k => ?_) (Ev.now _)
      simp only [impl_IsDrawing.j0]
      rw [if_pos trivial]
  · refine Ev.congr (fun k => if_neg (by simpa using c0)) ?_
    rw [decide_eq_false (show ¬ (1 ≤ n ∧ n ≤ 8 ∧ l.length ≤ 12) from fun z => c0 ⟨z.1, z.2.1⟩), Bool.false_and]
    refine Ev.step (f := fun k => some false) (fun k => ?_) (Ev.now _)
    simp only [impl_IsDrawing.j0]
    rw [if_pos trivial]
end Go.Proofs.Ytcdajmbnijmdfaa.PA
/- strokes -/
namespace Go.Proofs.Ytcdajmbnijmdfaa.PA
open Go.RowKit Go.Proofs.YtcdajmbnijmdfaaW.PrintWords Go.Proofs.YtcdajmbnijmdfaaW.PrintLast Go.Proofs.YtcdajmbnijmdfaaW.PrintMore
set_option linter.unusedVariables false
set_option linter.unusedSimpArgs false
theorem wraps_i64n (n : Int) (h0 : 0 ≤ n) (h1 : n < 2 ^ 63) : IntKind.i64.wrap n = n := by
  rw [IntKind.wrap_i64]
  omega
theorem or_nat (a b : Nat) (ha : a < 2 ^ 63) (hb : b < 2 ^ 63) : Go.bits .or .i64 (a : Int) (b : Int) = ((a ||| b : Nat) : Int) :=
  (bits_nat .i64 63 (by decide) wraps_i64n a b ha hb).2
theorem and_nat (a b : Nat) (ha : a < 2 ^ 63) (hb : b < 2 ^ 63) : Go.bits .and .i64 (a : Int) (b : Int) = ((a &&& b : Nat) : Int) :=
  (bits_nat .i64 63 (by decide) wraps_i64n a b ha hb).1
theorem shl_one (e : Nat) (he : e < 62) : shl .i64 1 (e : Int) = ((2 ^ e : Nat) : Int) := by
  unfold shl
  rw [Int.toNat_natCast, Nat.min_eq_left (by simp [IntKind.bits]; omega)]
  have hp : (2 : Nat) ^ e < 2 ^ 62 := Nat.pow_lt_pow_right (by omega) he
  rw [wraps_i64n]
  · simp
  · simp
    exact_mod_cast Nat.zero_le _
  · simp
    have : ((2 ^ e : Nat) : Int) < ((2 ^ 62 : Nat) : Int) := Int.ofNat_lt.2 hp
    simp at this
    omega
theorem shr_nat (m e : Nat) (he : e < 64) : shr .i64 (m : Int) (e : Int) = ((m >>> e : Nat) : Int) := by
  unfold shr
  rw [Int.toNat_natCast, Nat.min_eq_left (by simp [IntKind.bits]; omega), Nat.shiftRight_eq_div_pow]
  simp
theorem bit_nat (m e : Nat) (hm : m < 2 ^ 63) (he : e < 64) : Go.bits .and .i64 (shr .i64 (m : Int) (e : Int)) 1 = if m.testBit e then 1 else 0 := by
  rw [shr_nat m e he]
  have h1 : m >>> e < 2 ^ 63 := by
    rw [Nat.shiftRight_eq_div_pow]
    exact Nat.lt_of_le_of_lt (Nat.div_le_self _ _) hm
  have := and_nat (m >>> e) 1 h1 (by decide)
  rw [show ((1 : Nat) : Int) = 1 from rfl] at this
  rw [this, Nat.testBit]
  rw [Nat.and_one_is_mod, Nat.one_and_eq_mod_two]
  rcases Nat.mod_two_eq_zero_or_one (m >>> e) with h | h <;> simp [h]
theorem or_add (m e : Nat) (h : m.testBit e = false) : m ||| 2 ^ e = m + 2 ^ e := by
  have hb : m % 2 ^ (e + 1) < 2 ^ e := by
    rw [Nat.mod_pow_succ]
    have h1 : m / 2 ^ e % 2 = 0 := by
      rw [Nat.testBit, Nat.shiftRight_eq_div_pow, Nat.one_and_eq_mod_two] at h
      simpa using h
    rw [h1]
    simpa using Nat.mod_lt m (Nat.two_pow_pos e)
  have hm := Nat.div_add_mod m (2 ^ (e + 1))
  have hp : (2 : Nat) ^ (e + 1) = 2 ^ e + 2 ^ e := by rw [Nat.pow_succ]; omega
  have e1 := Nat.two_pow_add_eq_or_of_lt (i := e + 1) (b := m % 2 ^ (e + 1)) (by omega) (m / 2 ^ (e + 1))
  have e2 := Nat.two_pow_add_eq_or_of_lt (i := e + 1) (b := m % 2 ^ (e + 1) + 2 ^ e) (by omega) (m / 2 ^ (e + 1))
  have e3 := Nat.or_two_pow_eq_add_of_lt hb
  rw [← e3] at e2
  calc m ||| 2 ^ e = (2 ^ (e + 1) * (m / 2 ^ (e + 1)) ||| m % 2 ^ (e + 1)) ||| 2 ^ e := by rw [← e1, hm]
    _ = 2 ^ (e + 1) * (m / 2 ^ (e + 1)) ||| (m % 2 ^ (e + 1) ||| 2 ^ e) := by rw [Nat.or_assoc]
    _ = m + 2 ^ e := by rw [← e2, e3]; omega
theorem drawOk_iff {n : Int} {l : List (List Int)} : drawOk n l = true ↔ (1 ≤ n ∧ n ≤ 8 ∧ l.length ≤ 12) ∧ ∀ r ∈ l, lineOk n r = true := by
  unfold drawOk
  rw [Bool.and_eq_true, decide_eq_true_iff, List.all_eq_true]
theorem pow12 {i : Nat} (h : i < 12) : (0 : Int) ≤ ((2 ^ i : Nat) : Int) ∧ ((2 ^ i : Nat) : Int) ≤ 2048 ∧ 2 ^ i ≤ 2048 := by
  have h1 : (2 : Nat) ^ i ≤ 2 ^ 11 := Nat.pow_le_pow_right (by omega) (by omega)
  have h2 : (2 : Nat) ^ 11 = 2048 := rfl
  rw [h2] at h1
  exact ⟨Int.natCast_nonneg _, by omega, h1⟩
end Go.Proofs.Ytcdajmbnijmdfaa.PA
/- degrees -/
namespace Go.Proofs.Ytcdajmbnijmdfaa.PA
open Go.RowKit Go.Proofs.YtcdajmbnijmdfaaW.PrintWords Go.Proofs.YtcdajmbnijmdfaaW.PrintLast Go.Proofs.YtcdajmbnijmdfaaW.PrintMore
set_option linter.unusedVariables false
set_option linter.unusedSimpArgs false
structure LineOk (n : Nat) (r : List Int) : Prop where
  len : r.length = 2
  a0 : 0 ≤ rd r 0
  a1 : rd r 0 < n
  b0 : 0 ≤ rd r 1
  b1 : rd r 1 < n
  ne : ¬ rd r 0 = rd r 1
theorem drawOk_lines {n : Nat} {l : List (List Int)} (c : drawOk (n : Int) l = true) : 1 ≤ n ∧ n ≤ 8 ∧ l.length ≤ 12 ∧ ∀ r ∈ l, LineOk n r := by
  obtain ⟨⟨h1, h2, h3⟩, h4⟩ := drawOk_iff.1 c
  refine ⟨by omega, by omega, h3, fun r hr => ?_⟩
  obtain ⟨a, b, c, d, e, f⟩ := of_decide_eq_true (h4 r hr)
  exact ⟨a, b, by omega, d, by omega, f⟩
end Go.Proofs.Ytcdajmbnijmdfaa.PA
/- parts that hang together -/
namespace Go.Proofs.Ytcdajmbnijmdfaa.PA
open Go.RowKit Go.Proofs.YtcdajmbnijmdfaaW.PrintWords Go.Proofs.YtcdajmbnijmdfaaW.PrintLast Go.Proofs.YtcdajmbnijmdfaaW.PrintMore
set_option linter.unusedVariables false
set_option linter.unusedSimpArgs false
theorem line_nat {n : Nat} {r : List Int} (h : LineOk n r) : ∃ a b : Nat, rd r 0 = (a : Int) ∧ rd r 1 = (b : Int) ∧ a < n ∧ b < n := by
  obtain ⟨h1, h2, h3, h4, h5, h6⟩ := h
  exact ⟨(rd r 0).toNat, (rd r 1).toNat, by omega, by omega, by omega, by omega⟩
/-- The mask of all lines. -/
theorem mask_all (m : Nat) (h : m ≤ 12) : wrap64 ((shl .i64 1 (m : Int)) - 1) = ((2 ^ m - 1 : Nat) : Int) := by
  have h1 : 2 ^ m ≤ 2 ^ 12 := Nat.pow_le_pow_right (by omega) h
  have h2 : 0 < 2 ^ m := Nat.pow_pos (by omega)
  rw [shl_one m (by omega), w64 (by omega) (by omega)]
  omega
end Go.Proofs.Ytcdajmbnijmdfaa.PA
/- StrokesNeeded, LineParts: both texts. -/
namespace Go.Proofs.Ytcdajmbnijmdfaa.PA
open Go.RowKit Go.Proofs.YtcdajmbnijmdfaaW.PrintWords Go.Proofs.YtcdajmbnijmdfaaW.PrintLast Go.Proofs.YtcdajmbnijmdfaaW.PrintMore
set_option linter.unusedVariables false
set_option linter.unusedSimpArgs false
theorem draw_nat {n : Int} {l : List (List Int)} (c : drawOk n l = true) : ∃ m : Nat, n = (m : Int) := by
  have h := drawOk_iff.1 c
  exact ⟨n.toNat, by omega⟩
end Go.Proofs.Ytcdajmbnijmdfaa.PA
/- first strokes -/
namespace Go.Proofs.Ytcdajmbnijmdfaa.PA
open Go.RowKit Go.Proofs.YtcdajmbnijmdfaaW.PrintWords Go.Proofs.YtcdajmbnijmdfaaW.PrintLast Go.Proofs.YtcdajmbnijmdfaaW.PrintMore
set_option linter.unusedVariables false
set_option linter.unusedSimpArgs false
def leftN (n u : Nat) : Nat := (List.range n).countP fun i => !u.testBit i
theorem leftN_succ (n u : Nat) : leftN (n + 1) u = leftN n u + (if u.testBit n then 0 else 1) := by
  unfold leftN
  rw [List.range_succ, List.countP_append, List.countP_singleton]
  cases u.testBit n <;> simp
theorem bit_or (u i e : Nat) : (u ||| 2 ^ e).testBit i = (u.testBit i || decide (e = i)) := by
  rw [Nat.testBit_or, Nat.testBit_two_pow]
theorem leftN_far (u e : Nat) : ∀ n, n ≤ e → leftN n (u ||| 2 ^ e) = leftN n u := by
  intro n
  induction n with
  | zero => intro _; rfl
  | succ n ih =>
    intro h
    rw [leftN_succ, leftN_succ, ih (by omega), bit_or, decide_eq_false (by omega), Bool.or_false]
theorem leftN_set (u e : Nat) (hb : u.testBit e = false) : ∀ n, e < n → leftN n (u ||| 2 ^ e) + 1 = leftN n u := by
  intro n
  induction n with
  | zero => intro h; omega
  | succ n ih =>
    intro h
    rw [leftN_succ, leftN_succ, bit_or]
    by_cases c : e = n
    · subst c
      rw [leftN_far u e e (Nat.le_refl _), hb]
      simp
    · have := ih (by omega)
      rw [decide_eq_false c, Bool.or_false]
      omega
theorem leftN_zero {n u : Nat} (hu : u < 2 ^ n) : leftN n u = 0 ↔ u = 2 ^ n - 1 := by
  unfold leftN
  rw [List.countP_eq_zero]
  constructor
  · intro h
    refine Nat.eq_of_testBit_eq fun i => ?_
    rw [Nat.testBit_two_pow_sub_one]
    by_cases c : i < n
    · have := h i (List.mem_range.2 c)
      rw [decide_eq_true c]
      simpa using this
    · rw [decide_eq_false c]
      exact Nat.testBit_lt_two_pow (Nat.lt_of_lt_of_le hu (Nat.pow_le_pow_right (by omega) (by omega)))
  · rintro rfl i hi
    rw [Nat.testBit_two_pow_sub_one, decide_eq_true (List.mem_range.1 hi)]
    simp
theorem leftN_le (n u : Nat) : leftN n u ≤ n := by
  unfold leftN
  have := List.countP_le_length (p := fun i => !u.testBit i) (l := List.range n)
  simpa using this
theorem leftN_nought (n : Nat) : leftN n 0 = n := by
  unfold leftN
  rw [List.countP_eq_length.2 (fun a _ => by simp), List.length_range]
/-- The other end of a line. -/
def nextOf (r : List Int) (p : Int) : Option Int := if p = rd r 0 then some (rd r 1) else if p = rd r 1 then some (rd r 0) else none
def stepL {α : Type} (f : Nat → Option α) : Nat → Nat → Option α
  | 0, _ => none
  | d + 1, i => match f i with
    | some p => some p
    | none => stepL f d (i + 1)
/-- The first way on from a point with all lines that are left; j of them are. -/
def dfs (ls : List (List Int)) : Nat → Nat → Int → Option (List Int)
  | 0, _, _ => some []
  | j + 1, u, a => stepL (fun i => if u.testBit i = true then none else match nextOf (ls.getD i []) a with
    | none => none
    | some p => (dfs ls j (u + 2 ^ i) p).map fun q => (i : Int) :: q) ls.length 0
def dfsAt (ls : List (List Int)) (u : Nat) (a : Int) : Option (List Int) := dfs ls (leftN ls.length u) u a
/-- What one line gives. -/
def dfsBr (ls : List (List Int)) (u : Nat) (a : Int) (i : Nat) : Option (List Int) := if u.testBit i = true then none else match nextOf (ls.getD i []) a with
    | none => none
    | some p => (dfsAt ls (u + 2 ^ i) p).map fun q => (i : Int) :: q
theorem stepL_congr {α : Type} {f g : Nat → Option α} : ∀ (d i : Nat), (∀ x, i ≤ x → x < i + d → f x = g x) → stepL f d i = stepL g d i := by
  intro d
  induction d with
  | zero => intro i _; rfl
  | succ d ih =>
    intro i h
    simp only [stepL]
    rw [h i (Nat.le_refl _) (by omega), ih (i + 1) (fun x h1 h2 => h x (by omega) (by omega))]
theorem dfsAt_full {ls : List (List Int)} {u : Nat} (a : Int) (hu : u = 2 ^ ls.length - 1) : dfsAt ls u a = some [] := by
  unfold dfsAt
  rw [(leftN_zero (by have := Nat.two_pow_pos ls.length; omega)).2 hu]
  rfl
theorem left_add {n u i : Nat} (hi : i < n) (hb : u.testBit i = false) : leftN n (u + 2 ^ i) + 1 = leftN n u := by
  rw [← or_add u i hb]
  exact leftN_set u i hb n hi
theorem dfsAt_step {ls : List (List Int)} {u : Nat} (a : Int) (h2 : u < 2 ^ ls.length) (hu : u ≠ 2 ^ ls.length - 1) : dfsAt ls u a = stepL (dfsBr ls u a) ls.length 0 := by
  obtain ⟨j, hj⟩ : ∃ j, leftN ls.length u = j + 1 := ⟨leftN ls.length u - 1, by
    have := mt (leftN_zero h2).1 hu
    omega⟩
  unfold dfsAt
  rw [hj]
  simp only [dfs]
  refine stepL_congr _ _ fun i _ hi => ?_
  unfold dfsBr
  by_cases c : u.testBit i = true
  · rw [if_pos c, if_pos c]
  · rw [if_neg c, if_neg c]
    have := left_add (n := ls.length) (u := u) (i := i) (by omega) (by simpa using c)
    unfold dfsAt
    rw [show leftN ls.length (u + 2 ^ i) = j by omega]
theorem used_lt2 {n u i : Nat} (h : u < 2 ^ n) (hi : i < n) (hb : u.testBit i = false) : u + 2 ^ i < 2 ^ n := by
  rw [← or_add u i hb]
  exact Nat.or_lt_two_pow h (Nat.pow_lt_pow_right (by omega) hi)
theorem stepL_some {α : Type} {f : Nat → Option α} {p : α} : ∀ (d i : Nat), stepL f d i = some p → ∃ x, i ≤ x ∧ x < i + d ∧ f x = some p := by
  intro d
  induction d with
  | zero => intro i h; simp [stepL] at h
  | succ d ih =>
    intro i h
    simp only [stepL] at h
    cases hf : f i with
    | some q =>
      rw [hf] at h
      exact ⟨i, Nat.le_refl _, by omega, by rw [hf]; exact h⟩
    | none =>
      rw [hf] at h
      obtain ⟨x, h1, h2, h3⟩ := ih (i + 1) h
      exact ⟨x, by omega, by omega, h3⟩
theorem dfs_len (ls : List (List Int)) : ∀ (j u : Nat) (a : Int) (q : List Int), dfs ls j u a = some q → q.length = j := by
  intro j
  induction j with
  | zero => intro u a q h; simp only [dfs, Option.some.injEq] at h; subst h; rfl
  | succ j ih =>
    intro u a q h
    simp only [dfs] at h
    obtain ⟨i, _, _, hf⟩ := stepL_some _ _ h
    split at hf
    · cases hf
    · split at hf
      · cases hf
      · obtain ⟨q', hq, rfl⟩ := Option.map_eq_some_iff.1 hf
        rw [List.length_cons, ih _ _ _ hq]
theorem dfsAt_len {ls : List (List Int)} {u : Nat} {a : Int} {q : List Int} (h : dfsAt ls u a = some q) : q.length ≤ ls.length := by
  rw [dfs_len ls _ u a q h]
  exact leftN_le _ _
theorem nextOf_some {r : List Int} {a p : Int} (h : nextOf r a = some p) : (a = rd r 0 ∧ p = rd r 1) ∨ (¬ a = rd r 0 ∧ a = rd r 1 ∧ p = rd r 0) := by
  unfold nextOf at h
  by_cases c : a = rd r 0
  · rw [if_pos c] at h; exact .inl ⟨c, (Option.some.inj h).symm⟩
  · rw [if_neg c] at h
    by_cases c2 : a = rd r 1
    · rw [if_pos c2] at h; exact .inr ⟨c, c2, (Option.some.inj h).symm⟩
    · rw [if_neg c2] at h; cases h
theorem along_eq {r : List Int} (h : r.length = 2) (p : Int) : impl_along.f r p = some ((nextOf r p).getD 0, (nextOf r p).isSome) := by
  unfold impl_along.f nextOf
  rw [if_pos (by omega)]
  by_cases c : p = rd r 0
  · rw [if_pos c, if_pos c, if_pos (by omega)]
    rfl
  · rw [if_neg c, if_neg c, if_pos (by omega)]
    by_cases c2 : p = rd r 1
    · rw [if_pos c2, if_pos c2]
      rfl
    · rw [if_neg c2, if_neg c2]
      rfl
theorem has_eq (u i : Nat) (hu : u < 2 ^ 63) (hi : i < 64) : impl_has.f (u : Int) (i : Int) = some (u.testBit i) := by
  unfold impl_has.f
  rw [if_pos (by omega), bit_nat u i hu hi]
  cases u.testBit i <;> rfl
def Sound (ls : List (List Int)) (F : Int → Int → Bool) : Prop := ∀ (u : Nat) (a : Int), u < 2 ^ ls.length → F (u : Int) a = true → dfsAt ls u a = none
theorem sound_upd {ls : List (List Int)} {F : Int → Int → Bool} (h : Sound ls F) {u : Nat} {a : Int} (hd : dfsAt ls u a = none) : Sound ls (upd F (u : Int) a) := by
  intro u' a' hu' hF
  unfold upd at hF
  by_cases c : ((u' : Int) = (u : Int)) ∧ a' = a
  · obtain ⟨c1, rfl⟩ := c
    obtain rfl : u' = u := by omega
    exact hd
  · rw [if_neg c] at hF
    exact h u' a' hu' hF
theorem pow_le12 {n : Nat} (h : n ≤ 12) : 2 ^ n ≤ 4096 := Nat.pow_le_pow_right (by omega) h
theorem shl_one' (i : Nat) (hi : i < 62) : shl .i64 1 (i : Int) = ((2 ^ i : Nat) : Int) := shl_one i hi
theorem nextOf_ok {n : Nat} {r : List Int} (h : LineOk n r) {a p : Int} (hp : nextOf r a = some p) : ∃ q : Nat, p = (q : Int) ∧ q < n := by
  obtain ⟨x, y, e0, e1, hx, hy⟩ := line_nat h
  rcases nextOf_some hp with ⟨_, e⟩ | ⟨_, _, e⟩
  · exact ⟨y, by rw [e, e1], hy⟩
  · exact ⟨x, by rw [e, e0], hx⟩
theorem impl_g_ev {n : Nat} (hn : n ≤ 8) (ls : List (List Int)) (hl : ls.length ≤ 12) (hr : ∀ r ∈ ls, LineOk n r) : ∀ (j u a : Nat) (F : Int → Int → Bool) (m : Nat) (st : List Int), leftN ls.length u = j → u < 2 ^ ls.length → a < n → Sound ls F → st.length + j = ls.length → m + 13 ^ j ≤ 900000000000000000 →
    ∃ F' m', Ev (fun k => impl_FirstStroke.g k ls (u : Int) (a : Int) F m st) ((dfsAt ls u (a : Int)).isSome, F', m', st ++ (dfsAt ls u (a : Int)).getD []) ∧ (dfsAt ls u (a : Int) = none → Sound ls F' ∧ m' ≤ m + 13 ^ j) := by
  have h12 := pow_le12 hl
  intro j
  induction j with
  | zero =>
    intro u a F m st hj hu ha hF hst hm
    have hfull := (leftN_zero hu).1 hj
    rw [dfsAt_full (a : Int) hfull]
    refine ⟨F, m, Ev.step (f := fun _ => some (true, F, m, st)) (fun k => ?_) (ev_eq (Ev.now _) (by simp)), fun h => by cases h⟩
    simp only [impl_FirstStroke.g]
    rw [mask_all ls.length hl, if_pos (by rw [hfull])]
  | succ j ih =>
    intro u a F m st hj hu ha hF hst hm
    have hnf : u ≠ 2 ^ ls.length - 1 := by rw [Ne, ← leftN_zero hu]; omega
    have hpow : 13 ^ (j + 1) = 13 * 13 ^ j := by rw [Nat.pow_succ]; omega
    have hpos : 0 < 13 ^ j := Nat.pow_pos (by omega)
    have loop : ∀ (d i : Nat) (F : Int → Int → Bool) (m1 : Nat), i + d = ls.length → Sound ls F → m1 ≤ m + i * 13 ^ j → dfsAt ls u (a : Int) = stepL (dfsBr ls u (a : Int)) d i →
        ∃ F' m', Ev (fun k => impl_FirstStroke.l k ls (u : Int) (a : Int) F m1 st (i : Int)) ((dfsAt ls u (a : Int)).isSome, F', m', st ++ (dfsAt ls u (a : Int)).getD []) ∧ (dfsAt ls u (a : Int) = none → Sound ls F' ∧ m' ≤ m + 13 ^ (j + 1)) := by
      intro d
      induction d with
      | zero =>
        intro i F m1 hi hF hm1 hd
        obtain rfl : i = ls.length := by omega
        have hd' : dfsAt ls u (a : Int) = none := hd
        have hmul : ls.length * 13 ^ j ≤ 12 * 13 ^ j := Nat.mul_le_mul_right _ hl
        rw [hd']
        refine ⟨upd F (u : Int) (a : Int), m1 + 1, Ev.step (f := fun _ => some (false, upd F (u : Int) (a : Int), m1 + 1, st)) (fun k => ?_) (ev_eq (Ev.now _) (by simp)), fun _ => ⟨sound_upd hF hd', by omega⟩⟩
        rw [impl_FirstStroke.l, if_neg (by omega), if_pos (by omega)]
      | succ d ihd =>
        intro i F m1 hi hF hm1 hd
        have hlt : i < ls.length := by omega
        have hrow : rd_L1 ls (i : Int) = ls.getD i [] := by simp [rd_L1]
        have hm : ls.getD i [] ∈ ls := by simp [List.getD_eq_getElem?_getD, hlt]
        have hL := hr _ hm
        have hmul : i * 13 ^ j ≤ 11 * 13 ^ j := Nat.mul_le_mul_right _ (by omega)
        have hmul1 : (i + 1) * 13 ^ j = i * 13 ^ j + 13 ^ j := by rw [Nat.add_mul, Nat.one_mul]
        have hal := along_eq hL.len (a : Int)
        rw [← hrow] at hal
        simp only [stepL] at hd
        have hnext : ((i : Int) + 1) = ((i + 1 : Nat) : Int) := by omega
        cases hn1 : nextOf (ls.getD i []) (a : Int) with
        | none =>
          have hb : dfsBr ls u (a : Int) i = none := by
            unfold dfsBr
            rw [hn1]
            split <;> rfl
          rw [hb] at hd
          obtain ⟨F', m', h1, h2⟩ := ihd (i + 1) F m1 (by omega) hF (by omega) hd
          refine ⟨F', m', Ev.step (fun k => ?_) h1, h2⟩
          rw [impl_FirstStroke.l, if_pos (by omega), if_pos (by omega), hal, hrow, hn1, Option.bind_some, if_neg (by simp), w64 (by omega) (by omega)]
          rfl
        | some p =>
          obtain ⟨q, rfl, hq⟩ := nextOf_ok hL hn1
          cases hb : u.testBit i with
          | true =>
            have hbr : dfsBr ls u (a : Int) i = none := by
              unfold dfsBr
              rw [if_pos hb]
            rw [hbr] at hd
            obtain ⟨F', m', h1, h2⟩ := ihd (i + 1) F m1 (by omega) hF (by omega) hd
            refine ⟨F', m', Ev.step (fun k => ?_) h1, h2⟩
            rw [impl_FirstStroke.l, if_pos (by omega), if_pos (by omega), hal, hrow, hn1, Option.bind_some, if_pos (show ((some (q : Int)).getD 0, (some (q : Int)).isSome).2 = true from rfl), has_eq u i (by omega) (by omega), Option.bind_some, if_pos hb, w64 (by omega) (by omega)]
            rfl
          | false =>
            have hbr : dfsBr ls u (a : Int) i = (dfsAt ls (u + 2 ^ i) (q : Int)).map fun z => (i : Int) :: z := by
              unfold dfsBr
              rw [if_neg (by rw [hb]; simp), hn1]
            rw [hbr] at hd
            have hl1 := left_add (n := ls.length) hlt hb
            have hu2 := used_lt2 hu hlt hb
            have hor : Go.bits .or .i64 (u : Int) (shl .i64 1 (i : Int)) = ((u + 2 ^ i : Nat) : Int) := by
              rw [shl_one' i (by omega), or_nat u (2 ^ i) (by omega) (by omega), or_add u i hb]
            obtain ⟨F1, m2, g1, g2⟩ := ih (u + 2 ^ i) q F m1 (st ++ [(i : Int)]) (by omega) hu2 hq hF (by rw [List.length_append]; simp; omega) (by omega)
            cases hr1 : dfsAt ls (u + 2 ^ i) (q : Int) with
            | some z =>
              rw [hr1] at hd g1
              have hd' : dfsAt ls u (a : Int) = some ((i : Int) :: z) := hd
              rw [hd']
              refine ⟨F1, m2, ?_, fun h => by cases h⟩
              refine Ev.step (f := fun k => (impl_FirstStroke.g k ls ((u + 2 ^ i : Nat) : Int) (q : Int) F m1 (st ++ [(i : Int)])).bind fun r => if r.1 = true then some r else (if 0 < r.2.2.2.length ∧ r.2.2.2.length < 1000 then impl_FirstStroke.l k ls (u : Int) (a : Int) r.2.1 r.2.2.1 (r.2.2.2.take (r.2.2.2.length - 1)) (wrap64 ((i : Int) + 1)) else none)) (fun k => ?_) (Ev.bind g1 (Ev.congr (fun k => if_pos rfl) (ev_eq (Ev.now _) (by simp))))
              rw [impl_FirstStroke.l, if_pos (by omega), if_pos (by omega), hal, hrow, hn1, Option.bind_some, if_pos (show ((some (q : Int)).getD 0, (some (q : Int)).isSome).2 = true from rfl), has_eq u i (by omega) (by omega), Option.bind_some, if_neg (by rw [hb]; simp), if_pos (by omega), hor]
              rfl
            | none =>
              rw [hr1] at hd g1
              obtain ⟨s1, s2⟩ := g2 hr1
              obtain ⟨F', m', h1, h2⟩ := ihd (i + 1) F1 m2 (by omega) s1 (by omega) hd
              refine ⟨F', m', ?_, h2⟩
              refine Ev.step (f := fun k => (impl_FirstStroke.g k ls ((u + 2 ^ i : Nat) : Int) (q : Int) F m1 (st ++ [(i : Int)])).bind fun r => if r.1 = true then some r else (if 0 < r.2.2.2.length ∧ r.2.2.2.length < 1000 then impl_FirstStroke.l k ls (u : Int) (a : Int) r.2.1 r.2.2.1 (r.2.2.2.take (r.2.2.2.length - 1)) (wrap64 ((i : Int) + 1)) else none)) (fun k => ?_) (Ev.bind g1 (Ev.congr (fun k => if_neg (by simp)) (Ev.congr (fun k => if_pos (by simp; omega)) ?_)))
              · rw [impl_FirstStroke.l, if_pos (by omega), if_pos (by omega), hal, hrow, hn1, Option.bind_some, if_pos (show ((some (q : Int)).getD 0, (some (q : Int)).isSome).2 = true from rfl), has_eq u i (by omega) (by omega), Option.bind_some, if_neg (by rw [hb]; simp), if_pos (by omega), hor]
                rfl
              · have e1 : ((st ++ [(i : Int)]) ++ (none : Option (List Int)).getD []).take (((st ++ [(i : Int)]) ++ (none : Option (List Int)).getD []).length - 1) = st := by simp
                simp only [e1]
                rw [w64 (by omega) (by omega), hnext]
                exact h1
    by_cases hmem : F (u : Int) (a : Int) = true
    · have hd := hF u (a : Int) hu hmem
      rw [hd]
      refine ⟨F, m, Ev.step (f := fun _ => some (false, F, m, st)) (fun k => ?_) (ev_eq (Ev.now _) (by simp)), fun _ => ⟨hF, by omega⟩⟩
      rw [impl_FirstStroke.g, mask_all ls.length hl, if_neg (by omega), if_pos (by omega), if_pos hmem]
    · obtain ⟨F', m', h1, h2⟩ := loop ls.length 0 F m (by omega) hF (by omega) (dfsAt_step (a : Int) hu hnf)
      refine ⟨F', m', Ev.step (fun k => ?_) h1, h2⟩
      rw [impl_FirstStroke.g, mask_all ls.length hl, if_neg (by omega), if_pos (by omega), if_neg hmem]
      rfl
/-- What both come to. -/
def firstStroke (n : Int) (l : List (List Int)) (s : Int) : List Int × Bool := if drawOk n l = true ∧ (0 ≤ s ∧ s ≤ n - 1) then (match dfsAt l 0 s with | some q => (q, true) | none => ([], false)) else ([], false)
theorem impl_FirstStroke_ev (n : Int) (l : List (List Int)) (s : Int) : Ev (fun k => impl_FirstStroke.f k n l s) (firstStroke n l s) := by
  unfold impl_FirstStroke.f firstStroke
  refine Ev.bind (impl_IsDrawing_ev n l) ?_
  by_cases c : drawOk n l = true
  · obtain ⟨m, rfl⟩ := draw_nat c
    obtain ⟨h1, h2, h3, h4⟩ := drawOk_lines c
    refine Ev.congr (fun k => if_pos c) ?_
    rw [w64 (x := (m : Int) - 1) (by omega) (by omega)]
    refine Ev.bind (ev_const (within_eq s 0 ((m : Int) - 1))) ?_
    by_cases c1 : 0 ≤ s ∧ s ≤ (m : Int) - 1
    · rw [if_pos ⟨c, c1⟩]
      refine Ev.congr (fun k => if_pos (by simpa using c1)) ?_
      obtain ⟨a, rfl⟩ := Int.eq_ofNat_of_zero_le c1.1
      have hl0 : leftN l.length 0 = l.length := leftN_nought _
      have hp : 13 ^ l.length ≤ 13 ^ 12 := Nat.pow_le_pow_right (by omega) h3
      obtain ⟨F', m', g1, _⟩ := impl_g_ev h2 l h3 h4 l.length 0 a (fun _ _ => false) 0 [] hl0 (Nat.two_pow_pos _) (by omega) (fun _ _ _ h => by cases h) (by simp) (by omega)
      refine Ev.bind g1 ?_
      cases dfsAt l 0 (a : Int) with
      | some q => exact Ev.congr (fun k => if_pos rfl) (ev_eq (Ev.now _) (by simp))
      | none => exact Ev.congr (fun k => if_neg (by simp)) (Ev.now _)
    · rw [if_neg (fun z => c1 z.2)]
      exact Ev.congr (fun k => if_neg (by simpa using c1)) (Ev.now _)
  · rw [if_neg (fun z => c z.1)]
    exact Ev.congr (fun k => if_neg c) (Ev.now _)
end Go.Proofs.Ytcdajmbnijmdfaa.PA
/- first strokes, CanTrace: both texts. -/
namespace Go.Proofs.Ytcdajmbnijmdfaa.PA
open Go.RowKit Go.Proofs.YtcdajmbnijmdfaaW.PrintWords Go.Proofs.YtcdajmbnijmdfaaW.PrintLast Go.Proofs.YtcdajmbnijmdfaaW.PrintMore
set_option linter.unusedVariables false
set_option linter.unusedSimpArgs false
structure SoundL (ls : List (List Int)) (fl : List Bool) : Prop where
  len : fl.length = 8 * 2 ^ ls.length
  ok : ∀ u a : Nat, u < 2 ^ ls.length → a < 8 → fl.getD (u * 8 + a) false = true → dfsAt ls u (a : Int) = none
theorem soundL_start (ls : List (List Int)) : SoundL ls (List.replicate (8 * 2 ^ ls.length) false) :=
  ⟨List.length_replicate, fun u a _ _ h => by simp [List.getD_eq_getElem?_getD, List.getElem?_replicate] at h; split at h <;> simp at h⟩
theorem soundL_set {ls : List (List Int)} {fl : List Bool} (h : SoundL ls fl) {u a : Nat} (ha : a < 8) (hd : dfsAt ls u (a : Int) = none) : SoundL ls (fl.set (u * 8 + a) true) := by
  refine ⟨by rw [List.length_set, h.len], fun u' a' hu' ha' hF => ?_⟩
  by_cases c : u * 8 + a = u' * 8 + a'
  · obtain rfl : u = u' := by omega
    obtain rfl : a = a' := by omega
    exact hd
  · refine h.ok u' a' hu' ha' ?_
    rw [List.getD_eq_getElem?_getD, List.getElem?_set, if_neg c] at hF
    rw [List.getD_eq_getElem?_getD]
    exact hF
theorem nextOf_sum {r : List Int} {a p : Int} (h : nextOf r a = some p) : p = rd r 0 + rd r 1 - a ∧ (rd r 0 = a ∨ rd r 1 = a) := by
  rcases nextOf_some h with ⟨e1, e2⟩ | ⟨_, e1, e2⟩
  · exact ⟨by omega, .inl e1.symm⟩
  · exact ⟨by omega, .inr e1.symm⟩
theorem nextOf_none {r : List Int} {a : Int} (h : nextOf r a = none) : ¬ (rd r 0 = a ∨ rd r 1 = a) := by
  unfold nextOf at h
  by_cases c : a = rd r 0
  · rw [if_pos c] at h; cases h
  · rw [if_neg c] at h
    by_cases c2 : a = rd r 1
    · rw [if_pos c2] at h; cases h
    · rintro (z | z)
      · exact c z.symm
      · exact c2 z.symm
theorem spec_g_ev {n : Nat} (hn : n ≤ 8) (ls : List (List Int)) (hl : ls.length ≤ 12) (hr : ∀ r ∈ ls, LineOk n r) : ∀ (j u a : Nat) (fl : List Bool), leftN ls.length u = j → u < 2 ^ ls.length → a < n → SoundL ls fl →
    ∃ fl', Ev (fun k => spec_l23Trace.g k ls (a : Int) (u : Int) fl) ((dfsAt ls u (a : Int)).getD [], (dfsAt ls u (a : Int)).isSome, fl') ∧ (dfsAt ls u (a : Int) = none → SoundL ls fl') := by
  have h12 := pow_le12 hl
  intro j
  induction j with
  | zero =>
    intro u a fl hj hu ha hF
    have hfull := (leftN_zero hu).1 hj
    rw [dfsAt_full (a : Int) hfull]
    refine ⟨fl, Ev.step (f := fun _ => some ([], true, fl)) (fun k => ?_) (Ev.now _), fun h => by cases h⟩
    rw [spec_l23Trace.g, mask_all ls.length hl, if_pos (by rw [hfull])]
  | succ j ih =>
    intro u a fl hj hu ha hF
    have hnf : u ≠ 2 ^ ls.length - 1 := by rw [Ne, ← leftN_zero hu]; omega
    have hidx : wrap64 (wrap64 ((u : Int) * 8) + (a : Int)) = ((u * 8 + a : Nat) : Int) := by
      rw [w64 (x := (u : Int) * 8) (by omega) (by omega), w64 (by omega) (by omega)]
      omega
    have hin : ∀ fl' : List Bool, SoundL ls fl' → (0 ≤ ((u * 8 + a : Nat) : Int) ∧ ((u * 8 + a : Nat) : Int) < (fl'.length : Int)) := by
      intro fl' h'
      have := h'.len
      omega
    have loop : ∀ (d i : Nat) (fl : List Bool), i + d = ls.length → SoundL ls fl → dfsAt ls u (a : Int) = stepL (dfsBr ls u (a : Int)) d i →
        ∃ fl', Ev (fun k => spec_l23Trace.l k ls (a : Int) (u : Int) fl (i : Int)) ((dfsAt ls u (a : Int)).getD [], (dfsAt ls u (a : Int)).isSome, fl') ∧ (dfsAt ls u (a : Int) = none → SoundL ls fl') := by
      intro d
      induction d with
      | zero =>
        intro i fl hi hF hd
        obtain rfl : i = ls.length := by omega
        have hd' : dfsAt ls u (a : Int) = none := hd
        rw [hd']
        refine ⟨fl.set (u * 8 + a) true, Ev.step (f := fun _ => some ([], false, fl.set (u * 8 + a) true)) (fun k => ?_) (Ev.now _), fun _ => soundL_set hF (by omega) hd'⟩
        rw [spec_l23Trace.l, if_neg (by omega), hidx, if_pos (hin fl hF)]
        rfl
      | succ d ihd =>
        intro i fl hi hF hd
        have hlt : i < ls.length := by omega
        have hrow : rd_L1 ls (i : Int) = ls.getD i [] := by simp [rd_L1]
        have hm : ls.getD i [] ∈ ls := by simp [List.getD_eq_getElem?_getD, hlt]
        have hL := hr _ hm
        have hnext : ((i : Int) + 1) = ((i + 1 : Nat) : Int) := by omega
        have hbit := bit_nat u i (by omega) (by omega)
        simp only [stepL] at hd
        cases hb : u.testBit i with
        | true =>
          have hbr : dfsBr ls u (a : Int) i = none := by
            unfold dfsBr
            rw [if_pos hb]
          rw [hbr] at hd
          rw [hb] at hbit
          obtain ⟨fl', h1, h2⟩ := ihd (i + 1) fl (by omega) hF hd
          refine ⟨fl', Ev.step (fun k => ?_) h1, h2⟩
          rw [spec_l23Trace.l, if_pos (by omega), hrow, if_pos ⟨by omega, hL.len⟩, if_pos (by rw [hbit]; rfl), w64 (by omega) (by omega)]
          rfl
        | false =>
          rw [hb] at hbit
          have hbit0 : ¬ Go.bits .and .i64 (shr .i64 (u : Int) (i : Int)) 1 = 1 := by rw [hbit]; simp
          cases hn1 : nextOf (ls.getD i []) (a : Int) with
          | none =>
            have hbr : dfsBr ls u (a : Int) i = none := by
              unfold dfsBr
              rw [hn1]
              split <;> rfl
            rw [hbr] at hd
            obtain ⟨fl', h1, h2⟩ := ihd (i + 1) fl (by omega) hF hd
            refine ⟨fl', Ev.step (fun k => ?_) h1, h2⟩
            rw [spec_l23Trace.l, if_pos (by omega), hrow, if_pos ⟨by omega, hL.len⟩, if_neg hbit0, if_neg (nextOf_none hn1), w64 (by omega) (by omega)]
            rfl
          | some p =>
            obtain ⟨q, rfl, hq⟩ := nextOf_ok hL hn1
            obtain ⟨hs1, hs2⟩ := nextOf_sum hn1
            have hbr : dfsBr ls u (a : Int) i = (dfsAt ls (u + 2 ^ i) (q : Int)).map fun z => (i : Int) :: z := by
              unfold dfsBr
              rw [if_neg (by rw [hb]; simp), hn1]
            rw [hbr] at hd
            have hl1 := left_add (n := ls.length) hlt hb
            have hu2 := used_lt2 hu hlt hb
            obtain ⟨l1, l2, l3, l4, l5, l6⟩ := hL
            have hadd : wrap64 ((u : Int) + shl .i64 1 (i : Int)) = ((u + 2 ^ i : Nat) : Int) := by
              have hp := pow12 (show i < 12 by omega)
              rw [shl_one' i (by omega)]
              generalize 2 ^ i = z at hp ⊢
              rw [w64 (by omega) (by omega)]
              omega
            have hsum : wrap64 (wrap64 (rd (ls.getD i []) 0 + rd (ls.getD i []) 1) - (a : Int)) = (q : Int) := by
              rw [w64 (x := rd (ls.getD i []) 0 + rd (ls.getD i []) 1) (by omega) (by omega), w64 (by omega) (by omega)]
              omega
            obtain ⟨fl1, g1, g2⟩ := ih (u + 2 ^ i) q fl (by omega) hu2 hq hF
            have unf : ∀ k, spec_l23Trace.l (k + 1) ls (a : Int) (u : Int) fl (i : Int) = (spec_l23Trace.g k ls (q : Int) ((u + 2 ^ i : Nat) : Int) fl).bind fun t => if t.2.1 = true then (if t.1.length < 1000 then some ((i : Int) :: t.1, true, t.2.2) else none) else spec_l23Trace.l k ls (a : Int) (u : Int) t.2.2 (wrap64 ((i : Int) + 1)) := by
              intro k
              rw [spec_l23Trace.l, if_pos (by omega), hrow, if_pos ⟨by omega, l1⟩, if_neg hbit0, if_pos hs2, hsum, hadd]
            cases hr1 : dfsAt ls (u + 2 ^ i) (q : Int) with
            | some z =>
              rw [hr1] at hd g1
              have hd' : dfsAt ls u (a : Int) = some ((i : Int) :: z) := hd
              have hz := dfsAt_len hr1
              rw [hd']
              refine ⟨fl1, Ev.step unf (Ev.bind g1 (Ev.congr (fun k => if_pos rfl) (Ev.congr (fun k => if_pos (by simp; omega)) (Ev.now _)))), fun h => by cases h⟩
            | none =>
              rw [hr1] at hd g1
              obtain ⟨fl', h1, h2⟩ := ihd (i + 1) fl1 (by omega) (g2 hr1) hd
              refine ⟨fl', Ev.step unf (Ev.bind g1 (Ev.congr (fun k => if_neg (by simp)) ?_)), h2⟩
              simp only
              rw [w64 (by omega) (by omega), hnext]
              exact h1
    have hrd : ∀ fl' : List Bool, rdOf false fl' ((u * 8 + a : Nat) : Int) = fl'.getD (u * 8 + a) false := fun fl' => by unfold rdOf; rw [Int.toNat_natCast]
    by_cases hmem : fl.getD (u * 8 + a) false = true
    · have hd := hF.ok u a hu (by omega) hmem
      rw [hd]
      refine ⟨fl, Ev.step (f := fun _ => some ([], false, fl)) (fun k => ?_) (Ev.now _), fun _ => hF⟩
      rw [spec_l23Trace.g, mask_all ls.length hl, if_neg (by omega), hidx, if_pos (hin fl hF), hrd, if_pos hmem]
    · obtain ⟨fl', h1, h2⟩ := loop ls.length 0 fl (by omega) hF (dfsAt_step (a : Int) hu hnf)
      refine ⟨fl', Ev.step (fun k => ?_) h1, h2⟩
      rw [spec_l23Trace.g, mask_all ls.length hl, if_neg (by omega), hidx, if_pos (hin fl hF), hrd, if_neg hmem]
      rfl
theorem spec_FirstStroke_ev (n : Int) (l : List (List Int)) (s : Int) : Ev (fun k => spec_FirstStroke.f k n l s) (firstStroke n l s) := by
  unfold spec_FirstStroke.f firstStroke
  refine Ev.bind (spec_IsDrawing_ev n l) ?_
  by_cases c : drawOk n l = true
  · obtain ⟨m, rfl⟩ := draw_nat c
    obtain ⟨h1, h2, h3, h4⟩ := drawOk_lines c
    refine Ev.congr (fun k => if_pos c) ?_
    rw [w64 (x := (m : Int) - 1) (by omega) (by omega)]
    refine Ev.bind (ev_const (l01In_eq s 0 ((m : Int) - 1))) ?_
    by_cases c1 : 0 ≤ s ∧ s ≤ (m : Int) - 1
    · rw [if_pos ⟨c, c1⟩]
      refine Ev.congr (fun k => if_pos (by simpa using c1)) ?_
      refine Ev.congr (fun k => if_pos h3) ?_
      obtain ⟨a, rfl⟩ := Int.eq_ofNat_of_zero_le c1.1
      have hl0 : leftN l.length 0 = l.length := leftN_nought _
      obtain ⟨fl', g1, _⟩ := spec_g_ev h2 l h3 h4 l.length 0 a _ hl0 (Nat.two_pow_pos _) (by omega) (soundL_start l)
      refine Ev.bind g1 (ev_eq (Ev.now _) ?_)
      cases dfsAt l 0 (a : Int) with
      | some q => rfl
      | none => rfl
    · rw [if_neg (fun z => c1 z.2)]
      exact Ev.congr (fun k => if_neg (by simpa using c1)) (Ev.now _)
  · rw [if_neg (fun z => c z.1)]
    exact Ev.congr (fun k => if_neg c) (Ev.now _)
end Go.Proofs.Ytcdajmbnijmdfaa.PA
/- total lengths -/
namespace Go.Proofs.Ytcdajmbnijmdfaa.PA
open Go.RowKit Go.Proofs.YtcdajmbnijmdfaaW.PrintWords Go.Proofs.YtcdajmbnijmdfaaW.PrintLast Go.Proofs.YtcdajmbnijmdfaaW.PrintMore
set_option linter.unusedVariables false
set_option linter.unusedSimpArgs false
def totlen : List (List Int) → Nat
  | [] => 0
  | r :: l => r.length + totlen l
theorem mem_totlen {l : List (List Int)} {r : List Int} (h : r ∈ l) : r.length ≤ totlen l := by
  induction l with
  | nil => cases h
  | cons x l ih =>
    simp only [totlen]
    rcases List.mem_cons.1 h with rfl | h
    · omega
    · have := ih h
      omega
theorem szTot_l (l : List (List Int)) (hl : l.length ≤ 1048576) (hr : ∀ r ∈ l, r.length ≤ 9223372036854775807) : ∀ (d i : Nat) (x : Int), i + d = l.length → 0 ≤ x → x ≤ 1048576 →
    ∃ r : Int, Ev (fun k => laws_szIntSS.l0 k l x (i : Int)) r ∧ (r < 0 ∨ (0 ≤ r ∧ r + totlen (l.drop i) ≤ x)) := by
  intro d
  induction d with
  | zero =>
    intro i x hi h0 h1
    refine ⟨x, Ev.step (f := fun _ => some x) (fun k => ?_) (Ev.now _), .inr ⟨h0, ?_⟩⟩
    · simp only [laws_szIntSS.l0]
      rw [if_neg (by omega)]
    · rw [List.drop_of_length_le (by omega)]
      simp [totlen]
  | succ d ih =>
    intro i x hi h0 h1
    have hlt : i < l.length := by omega
    have hrow := hr l[i] (List.getElem_mem hlt)
    by_cases c : x - (l[i].length : Int) < 0
    · refine ⟨-1, Ev.step (f := fun _ => some (-1)) (fun k => ?_) (Ev.now _), .inl (by omega)⟩
      simp only [laws_szIntSS.l0]
      rw [if_pos (by omega), if_pos (by omega), rdL_get hlt]
      unfold laws_szIntS.f
      rw [w64 (by omega) (by omega), if_pos c]
      rfl
    · obtain ⟨r, he, hd⟩ := ih (i + 1) (x - (l[i].length : Int)) (by omega) (by omega) (by omega)
      refine ⟨r, Ev.step (f := fun k => laws_szIntSS.l0 k l (x - (l[i].length : Int)) ((i + 1 : Nat) : Int)) (fun k => ?_) he, ?_⟩
      · simp only [laws_szIntSS.l0]
        rw [if_pos (by omega), if_pos (by omega), rdL_get hlt]
        unfold laws_szIntS.f
        rw [w64 (x := x - (l[i].length : Int)) (by omega) (by omega), if_neg c]
        simp only [Option.bind_some]
        rw [if_neg c, w64 (by omega) (by omega)]
        rfl
      · rcases hd with hd | ⟨hd, h3⟩
        · exact .inl hd
        · refine .inr ⟨hd, ?_⟩
          rw [List.drop_eq_getElem_cons hlt]
          simp only [totlen]
          omega
theorem szTot_ev (l : List (List Int)) (x : Int) (h0 : 0 ≤ x) (h1 : x ≤ 1048576) (hl : l.length ≤ 9223372036854775807) (hr : ∀ r ∈ l, r.length ≤ 9223372036854775807) :
    ∃ r : Int, Ev (fun k => laws_szIntSS.f k l x) r ∧ (r < 0 ∨ (0 ≤ r ∧ r + l.length + totlen l ≤ x)) := by
  by_cases c : x - (l.length : Int) < 0
  · refine ⟨-1, (Ev.now (-1)).congr (fun k => ?_), .inl (by omega)⟩
    unfold laws_szIntSS.f
    rw [w64 (by omega) (by omega), if_pos c]
  · obtain ⟨r, he, hd⟩ := szTot_l l (by omega) hr l.length 0 (x - (l.length : Int)) (by omega) (by omega) (by omega)
    refine ⟨r, he.congr (fun k => ?_), ?_⟩
    · unfold laws_szIntSS.f
      rw [w64 (by omega) (by omega), if_neg c]
      rfl
    · rcases hd with hd | ⟨hd, h3⟩
      · exact .inl hd
      · exact .inr ⟨hd, by rw [List.drop_zero] at h3; omega⟩
end Go.Proofs.Ytcdajmbnijmdfaa.PA
/- marks -/
namespace Go.Proofs.Ytcdajmbnijmdfaa.PA
open Go.RowKit Go.Proofs.YtcdajmbnijmdfaaW.PrintWords Go.Proofs.YtcdajmbnijmdfaaW.PrintLast Go.Proofs.YtcdajmbnijmdfaaW.PrintMore
set_option linter.unusedVariables false
set_option linter.unusedSimpArgs false
def ramp : Int → Nat → List Int
  | _, 0 => []
  | a, n + 1 => a :: ramp (a + 1) n
theorem rd_mid (pre suf : List Int) (x : Int) : rd (pre ++ x :: suf) (pre.length : Int) = x := by
  simp [rd, List.getD_eq_getElem?_getD]
theorem set_mid (pre suf : List Int) (x y : Int) : (pre ++ x :: suf).set pre.length y = (pre ++ [y]) ++ suf := by
  simp [List.set_append]
theorem markIntS_l : ∀ (suf pre : List Int) (a : Int), pre.length + suf.length ≤ 4194304 → 0 ≤ a → a + suf.length ≤ 1099511627776 →
    Ev (fun k => laws_markIntS.l0 k (pre ++ suf) a (pre.length : Int)) (a + suf.length, pre ++ ramp a suf.length) := by
  intro suf
  induction suf with
  | nil =>
    intro pre a hl h0 h1
    refine Ev.step (f := fun _ => some (a, pre)) (fun k => ?_) (ev_eq (Ev.now _) (by simp [ramp]))
    simp only [laws_markIntS.l0]
    rw [if_neg (by simp)]
    simp
  | cons x suf ih =>
    intro pre a hl h0 h1
    simp only [List.length_cons] at hl h1
    have h := ih (pre ++ [a]) (a + 1) (by simp; omega) (by omega) (by omega)
    have e : (a + 1 + (suf.length : Int), pre ++ [a] ++ ramp (a + 1) suf.length) = (a + ((x :: suf).length : Int), pre ++ ramp a (x :: suf).length) := by
      simp only [List.length_cons, ramp, List.append_assoc, List.singleton_append]
      congr 1
      omega
    rw [e] at h
    refine Ev.step (f := fun k => laws_markIntS.l0 k ((pre ++ [a]) ++ suf) (a + 1) ((pre ++ [a]).length : Int)) (fun k => ?_) h
    simp only [laws_markIntS.l0]
    rw [if_pos (by simp; omega), if_pos (by omega), Int.toNat_natCast, set_mid, w64 (x := a + 1) (by omega) (by omega), w64 (by omega) (by omega)]
    simp
theorem markIntS_ev (l : List Int) (a : Int) (hl : l.length ≤ 1048576) (h0 : 0 ≤ a) (h1 : a ≤ 549755813888) : Ev (fun k => laws_markIntS.f k l a) (a + l.length, ramp a l.length) :=
  markIntS_l l [] a (by simp; omega) h0 (by omega)
theorem heldIntS_l : ∀ (n : Nat) (pre : List Int) (a : Int), pre.length + n ≤ 4194304 → 0 ≤ a → a + n ≤ 1099511627776 →
    Ev (fun k => laws_heldIntS.l0 k (pre ++ ramp a n) a (pre.length : Int)) (a + n) := by
  intro n
  induction n with
  | zero =>
    intro pre a hl h0 h1
    rw [show ramp a 0 = [] from rfl]
    refine Ev.step (f := fun _ => some a) (fun k => ?_) (ev_eq (Ev.now _) (by simp))
    simp only [laws_heldIntS.l0]
    rw [if_neg (by simp)]
  | succ n ih =>
    intro pre a hl h0 h1
    rw [show ramp a (n + 1) = a :: ramp (a + 1) n from rfl]
    have h := ih (pre ++ [a]) (a + 1) (by simp; omega) (by omega) (by omega)
    rw [show a + 1 + (n : Int) = a + ((n + 1 : Nat) : Int) by omega] at h
    refine Ev.step (f := fun k => laws_heldIntS.l0 k ((pre ++ [a]) ++ ramp (a + 1) n) (a + 1) ((pre ++ [a]).length : Int)) (fun k => ?_) h
    simp only [laws_heldIntS.l0]
    rw [if_pos (by simp; omega), if_pos (by omega), rd_mid, if_pos rfl, w64 (x := a + 1) (by omega) (by omega), w64 (by omega) (by omega)]
    simp
theorem heldIntS_ev (n : Nat) (a : Int) (hl : n ≤ 1048576) (h0 : 0 ≤ a) (h1 : a ≤ 549755813888) : Ev (fun k => laws_heldIntS.f k (ramp a n) a) (a + n) :=
  heldIntS_l n [] a (by simp; omega) h0 (by omega)
def rampSS : Int → List (List Int) → List (List Int)
  | _, [] => []
  | a, r :: l => ramp a r.length :: rampSS (a + r.length) l
theorem markIntSS_ev : ∀ (l : List (List Int)) (a : Int), (∀ r ∈ l, r.length ≤ 1048576) → 0 ≤ a → a + totlen l ≤ 4194304 → Ev (fun k => laws_markIntSS.f k l a) (a + totlen l, rampSS a l) := by
  intro l
  induction l with
  | nil =>
    intro a _ _ _
    refine ev_eq (Ev.congr (fun k => ?_) (Ev.now (a, []))) (by simp [totlen, rampSS])
    simp only [laws_markIntSS.f]
  | cons r l ih =>
    intro a hr h0 h1
    simp only [totlen] at h1
    have h := ih (a + r.length) (fun x hx => hr x (List.mem_cons_of_mem _ hx)) (by omega) (by omega)
    refine Ev.congr (f := fun k => (laws_markIntS.f k r a).bind fun b => (laws_markIntSS.f k l b.1).bind fun c => some (c.1, b.2 :: c.2)) (fun k => by simp only [laws_markIntSS.f]) ?_
    refine Ev.bind (markIntS_ev r a (hr r List.mem_cons_self) h0 (by omega)) ?_
    refine ev_eq (Ev.bind h (Ev.now _)) ?_
    simp only [totlen, rampSS]
    congr 1
    omega
end Go.Proofs.Ytcdajmbnijmdfaa.PA
/- The program's FirstStroke returns what the reference's returns, for all arguments; no condition. -/
namespace Go.Proofs.Ytcdajmbnijmdfaa.PA
open Go.RowKit Go.Proofs.YtcdajmbnijmdfaaW.PrintWords
def laws_FnExactFirstStroke.Pure : Prop := ∀ (a0 : Int) (l1 : List (List Int)) (a2 : Int), (Lit.int .i64 a0).wf = true → l1.length ≤ 9223372036854775807 → (∀ r ∈ l1, r.length ≤ 9223372036854775807) → (∀ r ∈ l1, ∀ x ∈ r, (Lit.int .i64 x).wf = true) → (Lit.int .i64 a2).wf = true → ∃ k, laws_FnExactFirstStroke.f k a0 l1 a2 = some true
end Go.Proofs.Ytcdajmbnijmdfaa.PA
namespace Go.Proofs.Ytcdajmbnijmdfaa.Pure
open Go.RowKit Go.Proofs.Ytcdajmbnijmdfaa.PA Go.Proofs.YtcdajmbnijmdfaaW.PrintWords Go.Proofs.YtcdajmbnijmdfaaW.PrintLast Go.Proofs.YtcdajmbnijmdfaaW.PrintMore
set_option linter.unusedVariables false
set_option linter.unusedSimpArgs false
theorem FnExactFirstStroke : laws_FnExactFirstStroke.Pure := by
  intro a0 l1 a2 _ hl1 hr1 _ _
  refine Ev.rounds (g := fun k => laws_FnExactFirstStroke.f k a0 l1 a2) ?_
  unfold laws_FnExactFirstStroke.f
  obtain ⟨s1, hs1, hd1⟩ := szTot_ev l1 1048576 (by omega) (by omega) hl1 hr1
  refine Ev.bind hs1 ?_
  by_cases c1 : s1 < 0
  · exact Ev.congr (fun k => if_pos c1) (Ev.now _)
  refine Ev.congr (fun k => if_neg c1) ?_
  obtain ⟨p1, t1⟩ : 0 ≤ s1 ∧ s1 + l1.length + totlen l1 ≤ 1048576 := by
    rcases hd1 with hd | hd
    · exact absurd hd c1
    · exact hd
  have b1 : l1.length ≤ 1048576 := by omega
  have g1 : ∀ x ∈ l1, x.length ≤ 1048576 := fun x hx => by have := mem_totlen hx; omega
  refine Ev.bind (toIntSS_ev l1 b1 g1) ?_
  refine Ev.bind (spec_FirstStroke_ev a0 l1 a2) ?_
  refine Ev.bind (toIntSS_ev l1 b1 g1) ?_
  refine Ev.bind (impl_FirstStroke_ev a0 l1 a2) ?_
  have hw0 : (firstStroke a0 l1 a2).1.length ≤ 12 := by
    unfold firstStroke
    split
    · rename_i h
      have h3 := (drawOk_iff.1 h.1).1
      cases hd : dfsAt l1 0 a2 with
      | some q => have := dfsAt_len hd; simp only; omega
      | none => simp
    · simp
  refine Ev.bind (eqIntS_ev _ _ (by omega)) ?_
  refine Ev.congr (fun k => if_pos (by simp)) ?_
  refine Ev.congr (fun k => if_pos rfl) ?_
  refine Ev.bind (toIntSS_ev l1 b1 g1) ?_
  refine Ev.bind (eqIntSS_ev l1 l1 (by omega) (fun x hx => by have := g1 x hx; omega)) ?_
  refine Ev.congr (fun k => if_pos (by simp)) ?_
  refine Ev.bind (markIntSS_ev l1 (1) g1 (by omega) (by omega)) ?_
  refine Ev.congr (fun k => if_pos (by omega)) ?_
  refine Ev.bind (markIntS_ev _ _ (by omega) (by omega) (by omega)) ?_
  refine Ev.bind (heldIntS_ev _ _ (by omega) (by omega) (by omega)) ?_
  refine Ev.congr (fun k => if_pos (by omega)) ?_
  refine Ev.congr (fun k => if_pos rfl) ?_
  refine Ev.bind (toIntSS_ev l1 b1 g1) ?_
  refine Ev.bind (impl_FirstStroke_ev a0 l1 a2) ?_
  refine Ev.bind (eqIntS_ev _ _ (by omega)) ?_
  refine Ev.congr (fun k => if_pos (by simp)) ?_
  refine Ev.congr (fun k => if_pos rfl) ?_
  exact Ev.now _
end Go.Proofs.Ytcdajmbnijmdfaa.Pure
/- What the contracts ask of a slice of slices that comes in. -/
namespace Go.Proofs.Ytcdajmbnijmdfaa.PA
open Go.RowKit Go.Proofs.YtcdajmbnijmdfaaW.PrintWords Go.Proofs.YtcdajmbnijmdfaaW.PrintLast Go.Proofs.YtcdajmbnijmdfaaW.PrintMore
set_option linter.unusedVariables false
set_option linter.unusedSimpArgs false
open Go.ChangeShapes Go.WideShapes Go.Deep in
theorem rows_open {H : Type} {enc : TypeId × Value → H} {P : Program} {w : World} {base : Nat} {held : Bool} {t e q : TypeId} {k : IntKind} {fuel : Nat} {cs : List Value} {x : DataW H × List MemPlace} {a : Option Addr} {len cap : Nat}
    (ht : P.underlying t = some (.slice e)) (he : P.underlying e = some (.slice q)) (hq : P.underlying q = some (.int k))
    (ce : P.cellsOf e = 1) (cq : P.cellsOf q = 1) (h : DataW.trod enc P w base (fun _ => true) held fuel t cs = some x) (hcs : cs = [.slice a len cap]) :
    ∃ l : List (List Int), l.length = len ∧ len ≤ cap ∧ Kd.C (Kd.slice q (Kd.int k)) w a len l ∧ ∀ r ∈ l, ∀ n ∈ r, (Lit.int k n).wf = true := by
  rcases open_int_rows ht he hq ce cq h with ⟨h0, _⟩ | ⟨a', len', cap', A, L, C, Z, h0, _, hl, hm, _, hrows⟩
  · rw [hcs] at h0
    simp at h0
    obtain ⟨rfl, rfl, rfl⟩ := h0
    exact ⟨[], rfl, Nat.le_refl _, ⟨rfl, by omega, fun hh => absurd hh (by omega)⟩, by simp⟩
  · rw [hcs] at h0
    simp at h0
    obtain ⟨rfl, rfl, rfl⟩ := h0
    have hM : maxLen = 9223372036854775807 := rfl
    refine ⟨(List.range len).map fun r => (Z r).take (L r), by simp, hl, ⟨by simp, by omega, fun _ => ⟨a', rfl, fun j p hj => ?_⟩⟩, fun r hr n hn => ?_⟩
    · obtain ⟨hj1, hj2⟩ := List.getElem?_eq_some_iff.1 hj
      have hjl : j < len := by simpa using hj1
      obtain ⟨hc, h1, h2, h3, h4, h5, h6⟩ := hrows j (by omega)
      have hp : p = (Z j).take (L j) := by simpa using hj2.symm
      have hpl : p.length = L j := by rw [hp, List.length_take]; omega
      refine ⟨[.slice (A j) (L j) (C j)], rfl, ⟨A j, C j, by rw [hpl], by omega, ⟨rfl, by omega, fun hp0 => ?_⟩⟩, fun i u hu => ?_⟩
      · cases hA : A j with
        | none => have := h5 hA; omega
        | some b =>
          obtain ⟨_, hcell⟩ := h6 b hA
          refine ⟨b, rfl, fun i y hy => ⟨[.int k y], rfl, rfl, fun i' u hu => ?_⟩⟩
          obtain ⟨hi1, hi2⟩ := List.getElem?_eq_some_iff.1 hy
          cases i' with
          | succ i' => simp at hu
          | zero =>
            simp at hu
            subst hu
            have hz := hcell i (by omega)
            simp only [Kd.int, Kd.scalar, Nat.mul_one, Nat.add_zero]
            rw [hz]
            subst hp
            rw [List.getElem_take] at hi2
            rw [List.getD_eq_getElem?_getD, List.getElem?_eq_getElem (by omega), Option.getD_some, hi2]
      · cases i with
        | succ i => simp at hu
        | zero =>
          simp at hu
          subst hu
          simp only [Kd.slice, Nat.mul_one, Nat.add_zero]
          exact hc
    · obtain ⟨j, hj, rfl⟩ := List.mem_map.1 hr
      obtain ⟨_, _, _, _, h4, _⟩ := hrows j (by have := List.mem_range.1 hj; omega)
      exact h4 n (List.mem_of_mem_take hn)
/-- Each row of what came in has a length that an int holds. -/
theorem rows_len {w : World} {A : Option Addr} {n q : Nat} {k : IntKind} {l : List (List Int)} (h : Kd.C (Kd.slice q (Kd.int k)) w A n l) : l.length ≤ 9223372036854775807 ∧ ∀ r ∈ l, r.length ≤ 9223372036854775807 := by
  obtain ⟨h1, h2, h3⟩ := h
  refine ⟨by omega, fun r hr => ?_⟩
  obtain ⟨j, hj, rfl⟩ := List.getElem_of_mem hr
  obtain ⟨ad, _, hc⟩ := h3 (by omega)
  obtain ⟨c, _, ⟨A', c', _, _, hC⟩, _⟩ := hc j _ (List.getElem?_eq_getElem hj)
  exact hC.2.1
end Go.Proofs.Ytcdajmbnijmdfaa.PA
/- The row of the law FnExactFirstStroke: for every input it answers true and its arguments read as before. No condition. Written by a program of this session's (rowgen.py) in the form of the kit's print. -/
namespace Go.Proofs.Ytcdajmbnijmdfaa.fnExactFirstStroke
open Go.ChangeShapes Go.WideShapes Go.ChangeAt Go.RowKit Go.Proofs.YtcdajmbnijmdfaaW.PrintWords
open Go.ChangeMaps (open_string shut_string)
set_option linter.unusedVariables false
theorem own : ownKnob Try.prog.godebug = none := by kernel_rfl
theorem laidOut : laidOutB Try.prog = true := by kernel_rfl
def IsRow (k : IntKind) (w : World) (a : Option Addr) (len cap : Nat) (zs : List Int) : Prop :=
  (a = none ∧ len = 0 ∧ cap = 0 ∧ zs = []) ∨
  ∃ x, a = some x ∧ len ≤ cap ∧ cap ≤ maxLen ∧ zs.length = cap ∧ (∀ i, i < zs.length → w.cell? (x.add i) = some (.int k (zs.getD i 0))) ∧ ∀ n ∈ zs, (Lit.int k n).wf = true
set_option maxRecDepth 100000 in
theorem lifted (os : Os) (started : os.Started) (H : Type) (enc : TypeId × Value → H) :
    ReturnsInHanded {} Try.checked os 9 .any (Rows.fnExactFirstStrokeSpec.pre6 enc Try.prog Try.f9 Rows.fnExactFirstStrokeRow.domain false) (Rows.fnExactFirstStrokeSpec.post enc Try.prog Try.f9 false true false false) := by
  refine returnsInHanded_of_change_sized (C := Try.checked) own started (by kernel_rfl) Try.func9
    (ChangeSpec.witness6 (enc := enc) (C := Try.checked) false ⟨#[], #[.int .i64 0, .slice none 0 0, .int .i64 0], []⟩ 8 (by kernel_rfl) (by kernel_rfl) (by kernel_rfl) (by kernel_rfl)) ?_
  intro W base args ds gs before hval0 hW hcnd hsz0 _
  have hval : ∀ (j : Nat) t v, Try.f9.params[j]? = some t → args[j]? = some v → Value.okWide Try.prog W .any base t v := hval0
  have hW' := hW
  obtain ⟨p, q, hA0, hV, rfl, hfz, hnd⟩ := hW
  have hA : DataW.TrodAll enc Try.prog W 0 (fun _ => true) true Try.f9.params.toList args.toList ds p := hA0
  rw [Try.params9] at hA hval
  obtain ⟨v0, vs0, d0, ds0, p0, q0, hargs, rfl, rfl, h0, r0⟩ := trodAll_cons hA
  obtain ⟨v1, vs1, d1, ds1, p1, q1, rfl, rfl, rfl, h1, r1⟩ := trodAll_cons r0
  obtain ⟨v2, vs2, d2, ds2, p2, q2, rfl, rfl, rfl, h2, r2⟩ := trodAll_cons r1
  obtain ⟨rfl, rfl, rfl⟩ := trodAll_nil r2
  obtain rfl : args = #[v0, v1, v2] := by cases args; simp_all
  obtain ⟨rfl, rfl⟩ := trodVars_none hV
  obtain ⟨a0, rfl, rfl, rfl, w0⟩ := open_int Try.underlying3 (hval 0 3 v0 rfl rfl) h0
  obtain ⟨b1, len1, cap1, rfl⟩ := okWide_slice Try.underlying22 (hval 1 22 v1 rfl rfl)
  have k1 := h1
  have lt1 : ∀ x ∈ p1, x.block < W.heap.size := by obtain ⟨m, hm⟩ := k1; exact DataW.trod_lt m _ _ _ hm
  obtain ⟨l1, hl1, hc1, hr1, hw1⟩ : ∃ l : List (List Int), l.length = len1 ∧ len1 ≤ cap1 ∧ Kd.C (Kd.slice 3 (Kd.int .i64)) W b1 len1 l ∧ ∀ r ∈ l, ∀ n ∈ r, (Lit.int .i64 n).wf = true := by
    obtain ⟨fuel, hf⟩ := h1
    exact PA.rows_open Try.underlying22 Try.underlying27 Try.underlying3 (by kernel_rfl) (by kernel_rfl) hf (by simp [Value.cells])
  subst hl1
  obtain ⟨a2, rfl, rfl, rfl, w2⟩ := open_int Try.underlying3 (hval 2 3 v2 rfl rfl) h2
  clear hA0 hval0 hsz0
  obtain ⟨k, hk⟩ := Pure.FnExactFirstStroke a0 l1 a2 w0 (PA.rows_len hr1).1 (PA.rows_len hr1).2 hw1 w2
  refine (PA.laws_FnExactFirstStroke.calls k a0 _ _ l1 a2 true W hr1 hc1 hk).mono fun e W' ⟨he, bel0⟩ => ?_
  have bel : Below W.heap.size W W' := bel0
  subst he
  exact ⟨_, rfl, _, _, _, [], _, [], hW', trodAll_mk1 (shut_bool Try.underlying4 _), (trodAll_cons_mk (shut_int Try.underlying3 w0) (trodAll_cons_mk (Below.trod laidOut (by kernel_rfl) (of_decide_eq_true (by kernel_rfl)) k1 bel lt1) (trodAll_cons_mk (shut_int Try.underlying3 w2) trodAll_mk0))), rfl, bel.frame _, fun h => by cases h⟩
theorem over : Rows.fnExactFirstStrokeRow.holds Try.pinned (OpenSpec.ofChange Rows.fnExactFirstStrokeSpec) :=
  OpenClaim.holds_of_wide 9 Try.f9 rfl rfl rfl rfl rfl rfl rfl ⟨rfl, rfl, rfl, rfl, rfl⟩ rfl rfl rfl rfl rfl (by kernel_rfl) Try.func9 (by kernel_rfl)
    (of_decide_eq_true (by kernel_rfl)) (by unfold Func.isWrapper; first | (rw [if_pos (by decide +kernel)]; kernel_rfl) | (rw [if_neg (by decide +kernel)]; exact ⟨rfl, rfl⟩))
    (fun os started H enc _ => lifted os started H enc)
theorem proved : Rows.FnExactFirstStrokeSaid := over
#print axioms proved
end Go.Proofs.Ytcdajmbnijmdfaa.fnExactFirstStroke
namespace Go.Proofs.Ytcdajmbnijmdfaa
/-- The row, under a short name, for the claim. -/
theorem fnExactFirstStroke_holds : Rows.FnExactFirstStrokeSaid := fnExactFirstStroke.proved
end Go.Proofs.Ytcdajmbnijmdfaa

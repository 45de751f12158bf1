/- Texts of this claim put together in build order (FnExactLineParts). -/
import Derived.Test.YtcdajmbnijmdfaaMLineParts0
import Derived.Test.YtcdajmbnijmdfaaMLineParts2
import Derived.Test.YtcdajmbnijmdfaaMLineParts4
import Derived.Test.YtcdajmbnijmdfaaMLineParts1
import Derived.Test.YtcdajmbnijmdfaaMLineParts5
import Derived.Test.YtcdajmbnijmdfaaMLineParts6
import Derived.Test.YtcdajmbnijmdfaaMLineParts3
import Derived.Deep.Matrix
import Derived.Test.YtcdajmbnijmdfaaRows
import Derived.WalkKit
import Derived.ProofKit
import Derived.OpenShut
import Derived.ShutString
import Derived.ChangeOld
import Derived.Below
import Derived.SizedLaws
/- ints -/
namespace Go.Proofs.Ytcdajmbnijmdfaa.PA
open Go.RowKit Go.Proofs.YtcdajmbnijmdfaaW.PrintWords Go.Proofs.YtcdajmbnijmdfaaW.PrintLast Go.Proofs.YtcdajmbnijmdfaaW.PrintMore
set_option linter.unusedVariables false
set_option linter.unusedSimpArgs false
theorem w64 {x : Int} (h0 : -9223372036854775808 ≤ x) (h1 : x < 9223372036854775808) : wrap64 x = x := by
  unfold wrap64
  omega
theorem rd_nat (l : List Int) (i : Nat) : rd l (i : Int) = l.getD i 0 := by simp [rd]
theorem rd_get {l : List Int} {i : Nat} (h : i < l.length) : rd l (i : Int) = l[i] := by simp [rd, List.getD_eq_getElem?_getD, h]
theorem ev_eq {α : Type} {g : Nat → Option α} {r r' : α} (h : Ev g r) (e : r = r') : Ev g r' := e ▸ h
theorem ev_const {α : Type} {a : Option α} {r : α} (h : a = some r) : Ev (fun _ => a) r := ⟨0, fun _ _ => h⟩
theorem take_step {l : List Int} {i : Nat} (h : i < l.length) : l.take (i + 1) = l.take i ++ [l[i]] := by
  rw [List.take_succ_eq_append_getElem h]
theorem toIntS_l (x0 : List Int) (hx : x0.length < 9223372036854775807) : ∀ (d i : Nat) (x3 : List Int), i + d = x0.length → x3.length = x0.length → x3.take i = x0.take i → Ev (fun k => laws_toIntS.l0 k x0 x3 (i : Int)) x0 := by
  intro d
  induction d with
  | zero =>
    intro i x3 hi hl ht
    have e : x3 = x0 := by
      have h1 : x3.take i = x3 := List.take_of_length_le (by omega)
      have h2 : x0.take i = x0 := List.take_of_length_le (by omega)
      rw [h1, h2] at ht
      exact ht
    refine Ev.step (f := fun _ => some x0) (fun k => ?_) (Ev.now _)
    simp only [laws_toIntS.l0]
    rw [if_neg (by omega), e]
  | succ d ih =>
    intro i x3 hi hl ht
    have hlt : i < x0.length := by omega
    refine Ev.step (f := fun k => laws_toIntS.l0 k x0 (x3.set i x0[i]) ((i + 1 : Nat) : Int)) (fun k => ?_) (ih (i + 1) (x3.set i x0[i]) (by omega) (by simpa using hl) ?_)
    · simp only [laws_toIntS.l0]
      rw [if_pos (by omega), if_pos (by omega), if_pos (by omega), rd_get hlt, w64 (by omega) (by omega)]
      simp
    · rw [take_step (by simpa using (by omega : i < x3.length)), take_step hlt, List.take_set_of_le (Nat.le_refl _), ht]
      simp
theorem toIntS_ev (l : List Int) (hl : l.length ≤ 1048576) : Ev (fun k => laws_toIntS.f k l) l := by
  have h := toIntS_l l (by omega) l.length 0 (List.replicate l.length 0) (by omega) (by simp) (by simp)
  refine Ev.congr (fun k => ?_) h
  unfold laws_toIntS.f
  rw [if_pos (by omega), if_pos (by simp; omega)]
  simp
theorem eqIntS_l (x0 x1 : List Int) (hx : x0.length < 9223372036854775807) (hl : x0.length = x1.length) : ∀ (d i : Nat), i + d = x0.length → x0.take i = x1.take i → Ev (fun k => laws_eqIntS.l0 k x0 x1 (i : Int)) (decide (x0 = x1)) := by
  intro d
  induction d with
  | zero =>
    intro i hi ht
    have e : x0 = x1 := by
      have h1 : x0.take i = x0 := List.take_of_length_le (by omega)
      have h2 : x1.take i = x1 := List.take_of_length_le (by omega)
      rw [h1, h2] at ht
      exact ht
    refine Ev.step (f := fun _ => some (decide (x0 = x1))) (fun k => ?_) (Ev.now _)
    simp only [laws_eqIntS.l0]
    rw [if_neg (by omega), decide_eq_true e]
  | succ d ih =>
    intro i hi ht
    have hlt : i < x0.length := by omega
    have hlt1 : i < x1.length := by omega
    by_cases he : x0[i] = x1[i]
    · refine Ev.step (f := fun k => laws_eqIntS.l0 k x0 x1 ((i + 1 : Nat) : Int)) (fun k => ?_) (ih (i + 1) (by omega) ?_)
      · simp only [laws_eqIntS.l0]
        rw [if_pos (by omega), if_pos (by omega), if_pos (by omega), rd_get hlt, rd_get hlt1, if_pos he, w64 (by omega) (by omega)]
        simp
      · rw [take_step hlt, take_step hlt1, ht, he]
    · have hne : ¬ x0 = x1 := fun e => he (by subst e; rfl)
      refine Ev.step (f := fun _ => some (decide (x0 = x1))) (fun k => ?_) (Ev.now _)
      simp only [laws_eqIntS.l0]
      rw [if_pos (by omega), if_pos (by omega), if_pos (by omega), rd_get hlt, rd_get hlt1, if_neg he, decide_eq_false hne]
theorem eqIntS_ev (l m : List Int) (hl : l.length < 9223372036854775807) : Ev (fun k => laws_eqIntS.f k l m) (decide (l = m)) := by
  by_cases h : l.length = m.length
  · refine Ev.congr (fun k => ?_) (eqIntS_l l m hl h l.length 0 (by omega) (by simp))
    unfold laws_eqIntS.f
    rw [if_pos (by omega)]
    rfl
  · have hne : ¬ l = m := fun e => h (by rw [e])
    refine ev_eq (ev_const (a := some false) rfl |>.congr (fun k => ?_)) (decide_eq_false hne).symm
    unfold laws_eqIntS.f
    rw [if_neg (by omega)]
theorem rdL_get {l : List (List Int)} {i : Nat} (h : i < l.length) : rd_L1 l (i : Int) = l[i] := by simp [rd_L1, List.getD_eq_getElem?_getD, h]
theorem takeL_step {l : List (List Int)} {i : Nat} (h : i < l.length) : l.take (i + 1) = l.take i ++ [l[i]] := by
  rw [List.take_succ_eq_append_getElem h]
theorem szIntSS_l (l : List (List Int)) (hl : l.length ≤ 1048576) (hr : ∀ r ∈ l, r.length ≤ 9223372036854775807) : ∀ (d i : Nat) (x : Int), i + d = l.length → 0 ≤ x → x ≤ 1048576 →
    ∃ r : Int, Ev (fun k => laws_szIntSS.l0 k l x (i : Int)) r ∧ (r < 0 ∨ ∀ j, i ≤ j → ∀ h : j < l.length, l[j].length ≤ 1048576) := by
  intro d
  induction d with
  | zero =>
    intro i x hi h0 h1
    refine ⟨x, Ev.step (f := fun _ => some x) (fun k => ?_) (Ev.now _), .inr (fun j h2 h3 => by omega)⟩
    simp only [laws_szIntSS.l0]
    rw [if_neg (by omega)]
  | succ d ih =>
    intro i x hi h0 h1
    have hlt : i < l.length := by omega
    have hrow := hr l[i] (List.getElem_mem hlt)
    by_cases c : x - (l[i].length : Int) < 0
    · refine ⟨-1, Ev.step (f := fun _ => some (-1)) (fun k => ?_) (Ev.now _), .inl (by omega)⟩
      simp only [laws_szIntSS.l0]
      rw [if_pos (by omega), if_pos (by omega), rdL_get hlt]
      unfold laws_szIntS.f
      rw [w64 (by omega) (by omega), if_pos c]
      rfl
    · obtain ⟨r, he, hd⟩ := ih (i + 1) (x - (l[i].length : Int)) (by omega) (by omega) (by omega)
      refine ⟨r, Ev.step (f := fun k => laws_szIntSS.l0 k l (x - (l[i].length : Int)) ((i + 1 : Nat) : Int)) (fun k => ?_) he, ?_⟩
      · simp only [laws_szIntSS.l0]
        rw [if_pos (by omega), if_pos (by omega), rdL_get hlt]
        unfold laws_szIntS.f
        rw [w64 (x := x - (l[i].length : Int)) (by omega) (by omega), if_neg c]
        simp only [Option.bind_some]
        rw [if_neg c, w64 (by omega) (by omega)]
        rfl
      · rcases hd with hd | hd
        · exact .inl hd
        · refine .inr (fun j h2 h3 => ?_)
          by_cases e : j = i
          · subst e; omega
          · exact hd j (by omega) h3
theorem szIntSS_ev (l : List (List Int)) (hl : l.length ≤ 9223372036854775807) (hr : ∀ r ∈ l, r.length ≤ 9223372036854775807) :
    ∃ r : Int, Ev (fun k => laws_szIntSS.f k l 1048576) r ∧ (r < 0 ∨ (l.length ≤ 1048576 ∧ ∀ x ∈ l, x.length ≤ 1048576)) := by
  by_cases c : (1048576 : Int) - (l.length : Int) < 0
  · refine ⟨-1, (Ev.now (-1)).congr (fun k => ?_), .inl (by omega)⟩
    unfold laws_szIntSS.f
    rw [w64 (by omega) (by omega), if_pos c]
  · obtain ⟨r, he, hd⟩ := szIntSS_l l (by omega) hr l.length 0 (1048576 - (l.length : Int)) (by omega) (by omega) (by omega)
    refine ⟨r, he.congr (fun k => ?_), ?_⟩
    · unfold laws_szIntSS.f
      rw [w64 (by omega) (by omega), if_neg c]
      rfl
    · rcases hd with hd | hd
      · exact .inl hd
      · refine .inr ⟨by omega, fun x hx => ?_⟩
        obtain ⟨j, hj, rfl⟩ := List.getElem_of_mem hx
        exact hd j (by omega) hj
theorem toIntSS_l (x0 : List (List Int)) (hx : x0.length ≤ 1048576) (hr : ∀ r ∈ x0, r.length ≤ 1048576) : ∀ (d i : Nat) (x3 : List (List Int)), i + d = x0.length → x3.length = x0.length → x3.take i = x0.take i → Ev (fun k => laws_toIntSS.l0 k x0 x3 (i : Int)) x0 := by
  intro d
  induction d with
  | zero =>
    intro i x3 hi hl ht
    have e : x3 = x0 := by
      have h1 : x3.take i = x3 := List.take_of_length_le (by omega)
      have h2 : x0.take i = x0 := List.take_of_length_le (by omega)
      rw [h1, h2] at ht
      exact ht
    refine Ev.step (f := fun _ => some x0) (fun k => ?_) (Ev.now _)
    simp only [laws_toIntSS.l0]
    rw [if_neg (by omega), e]
  | succ d ih =>
    intro i x3 hi hl ht
    have hlt : i < x0.length := by omega
    have hnext := ih (i + 1) (x3.set i x0[i]) (by omega) (by simpa using hl) (by
      rw [takeL_step (by simpa using (by omega : i < x3.length)), takeL_step hlt, List.take_set_of_le (Nat.le_refl _), ht]
      simp)
    refine Ev.step (fun k => rfl) ?_
    simp only [laws_toIntSS.l0]
    refine Ev.congr (fun k => (if_pos (by omega)).trans (if_pos (by omega))) ?_
    rw [rdL_get hlt]
    refine Ev.bind (toIntS_ev x0[i] (hr _ (List.getElem_mem hlt))) ?_
    refine Ev.congr (fun k => (if_pos (by omega)).trans ?_) hnext
    rw [w64 (by omega) (by omega)]
    simp
theorem toIntSS_ev (l : List (List Int)) (hl : l.length ≤ 1048576) (hr : ∀ r ∈ l, r.length ≤ 1048576) : Ev (fun k => laws_toIntSS.f k l) l := by
  have h := toIntSS_l l hl hr l.length 0 (List.replicate l.length []) (by omega) (by simp) (by simp)
  refine Ev.congr (fun k => ?_) h
  unfold laws_toIntSS.f
  rw [if_pos (by omega), if_pos (by simp; omega)]
  simp
theorem eqIntSS_l (x0 x1 : List (List Int)) (hx : x0.length < 9223372036854775807) (hr : ∀ r ∈ x0, r.length < 9223372036854775807) (hl : x0.length = x1.length) : ∀ (d i : Nat), i + d = x0.length → x0.take i = x1.take i → Ev (fun k => laws_eqIntSS.l0 k x0 x1 (i : Int)) (decide (x0 = x1)) := by
  intro d
  induction d with
  | zero =>
    intro i hi ht
    have e : x0 = x1 := by
      have h1 : x0.take i = x0 := List.take_of_length_le (by omega)
      have h2 : x1.take i = x1 := List.take_of_length_le (by omega)
      rw [h1, h2] at ht
      exact ht
    refine Ev.step (f := fun _ => some (decide (x0 = x1))) (fun k => ?_) (Ev.now _)
    simp only [laws_eqIntSS.l0]
    rw [if_neg (by omega), decide_eq_true e]
  | succ d ih =>
    intro i hi ht
    have hlt : i < x0.length := by omega
    have hlt1 : i < x1.length := by omega
    refine Ev.step (fun k => rfl) ?_
    simp only [laws_eqIntSS.l0]
    refine Ev.congr (fun k => (if_pos (by omega)).trans ((if_pos (by omega)).trans (if_pos (by omega)))) ?_
    rw [rdL_get hlt, rdL_get hlt1]
    refine Ev.bind (eqIntS_ev x0[i] x1[i] (hr _ (List.getElem_mem hlt))) ?_
    by_cases he : x0[i] = x1[i]
    · refine Ev.congr (fun k => (if_pos (by simpa using he)).trans ?_) (ih (i + 1) (by omega) ?_)
      · rw [w64 (by omega) (by omega)]
        rfl
      · rw [takeL_step hlt, takeL_step hlt1, ht, he]
    · have hne : ¬ x0 = x1 := fun e => he (by subst e; rfl)
      rw [decide_eq_false hne]
      exact Ev.congr (fun k => if_neg (by simpa using he)) (Ev.now _)
theorem eqIntSS_ev (l m : List (List Int)) (hl : l.length < 9223372036854775807) (hr : ∀ r ∈ l, r.length < 9223372036854775807) : Ev (fun k => laws_eqIntSS.f k l m) (decide (l = m)) := by
  by_cases h : l.length = m.length
  · refine Ev.congr (fun k => ?_) (eqIntSS_l l m hl hr h l.length 0 (by omega) (by simp))
    unfold laws_eqIntSS.f
    rw [if_pos (by omega)]
    rfl
  · have hne : ¬ l = m := fun e => h (by rw [e])
    refine ev_eq (ev_const (a := some false) rfl |>.congr (fun k => ?_)) (decide_eq_false hne).symm
    unfold laws_eqIntSS.f
    rw [if_neg (by omega)]
theorem l01In_eq (a b c : Int) : spec_l01In.f a b c = some (decide (b ≤ a ∧ a ≤ c)) := by
  unfold spec_l01In.f
  by_cases h : a ≥ b
  · rw [if_pos h]; simp [h]
  · rw [if_neg h]; simp [h]
theorem within_eq (a b c : Int) : impl_within.f a b c = some (decide (b ≤ a ∧ a ≤ c)) := l01In_eq a b c
end Go.Proofs.Ytcdajmbnijmdfaa.PA
/- drawings -/
namespace Go.Proofs.Ytcdajmbnijmdfaa.PA
open Go.RowKit Go.Proofs.YtcdajmbnijmdfaaW.PrintWords Go.Proofs.YtcdajmbnijmdfaaW.PrintLast Go.Proofs.YtcdajmbnijmdfaaW.PrintMore
set_option linter.unusedVariables false
set_option linter.unusedSimpArgs false
def lineOk (n : Int) (l : List Int) : Bool := decide (l.length = 2 ∧ 0 ≤ rd l 0 ∧ rd l 0 ≤ n - 1 ∧ 0 ≤ rd l 1 ∧ rd l 1 ≤ n - 1 ∧ ¬ rd l 0 = rd l 1)
def drawOk (n : Int) (l : List (List Int)) : Bool := decide (1 ≤ n ∧ n ≤ 8 ∧ l.length ≤ 12) && l.all (lineOk n)
theorem all_drop {α : Type} (l : List α) (p : α → Bool) (i : Nat) (h : i < l.length) : (l.drop i).all p = (p l[i] && (l.drop (i + 1)).all p) := by
  rw [List.drop_eq_getElem_cons h, List.all_cons]
theorem spec_IsDrawing_l (n : Int) (hn : 1 ≤ n ∧ n ≤ 8) (l : List (List Int)) (hl : l.length ≤ 12) : ∀ (d i : Nat), i + d = l.length → Ev (fun k => spec_IsDrawing.l0 k n l (l.length : Int) (i : Int)) ((l.drop i).all (lineOk n)) := by
  intro d
  induction d with
  | zero =>
    intro i hi
    refine Ev.step (f := fun _ => some ((l.drop i).all (lineOk n))) (fun k => ?_) (Ev.now _)
    simp only [spec_IsDrawing.l0]
    rw [if_neg (by omega), List.drop_of_length_le (by omega)]
    rfl
  | succ d ih =>
    intro i hi
    have hlt : i < l.length := by omega
    rw [all_drop l _ i hlt]
    by_cases c : lineOk n l[i] = true
    · rw [c, Bool.true_and]
      refine Ev.step (f := fun k => spec_IsDrawing.l0 k n l (l.length : Int) ((i + 1 : Nat) : Int)) (fun k => ?_) (ih (i + 1) (by omega))
      obtain ⟨c1, c2, c3, c4, c5, c6⟩ := of_decide_eq_true c
      simp only [spec_IsDrawing.l0, l01In_eq, Option.bind_some]
      rw [if_pos (by omega), if_pos (by omega), if_pos (by omega), rdL_get hlt, if_pos (by omega), if_pos (by omega), w64 (x := n - 1) (by omega) (by omega), if_pos (by simpa using ⟨c2, c3⟩), if_pos (by omega), if_pos (by simpa using ⟨c4, c5⟩), if_neg c6, w64 (by omega) (by omega)]
      rfl
    · have c' : lineOk n l[i] = false := by simpa using c
      rw [c', Bool.false_and]
      refine Ev.step (f := fun k => some false) (fun k => ?_) (Ev.now _)
      have hc := of_decide_eq_false c'
      simp only [spec_IsDrawing.l0, l01In_eq, Option.bind_some]
      rw [if_pos (by omega), if_pos (by omega), if_pos (by omega), rdL_get hlt, w64 (x := n - 1) (by omega) (by omega)]
      by_cases e1 : l[i].length = 2
      · rw [if_pos (by omega), if_pos (by omega)]
        by_cases e2 : 0 ≤ rd l[i] 0 ∧ rd l[i] 0 ≤ n - 1
        · rw [if_pos (by simpa using e2), if_pos (by omega)]
          by_cases e3 : 0 ≤ rd l[i] 1 ∧ rd l[i] 1 ≤ n - 1
          · rw [if_pos (by simpa using e3)]
            by_cases e4 : rd l[i] 0 = rd l[i] 1
            · rw [if_pos e4]
            · exact absurd ⟨e1, e2.1, e2.2, e3.1, e3.2, e4⟩ hc
          · rw [if_neg (by simpa using e3)]
        · rw [if_neg (by simpa using e2)]
      · rw [if_neg (by omega)]
theorem spec_IsDrawing_ev (n : Int) (l : List (List Int)) : Ev (fun k => spec_IsDrawing.f k n l) (drawOk n l) := by
  unfold spec_IsDrawing.f
  refine Ev.bind (ev_const (l01In_eq n 1 8)) ?_
  unfold drawOk
  by_cases c0 : 1 ≤ n ∧ n ≤ 8
  · refine Ev.congr (fun k => if_pos (by simpa using c0)) ?_
    by_cases c1 : l.length ≤ 12
    · rw [decide_eq_true (show 1 ≤ n ∧ n ≤ 8 ∧ l.length ≤ 12 from ⟨c0.1, c0.2, c1⟩), Bool.true_and, decide_eq_false (show ¬ ((l.length : Int) > 12) by omega)]
      refine Ev.step (f := fun k => spec_IsDrawing.l0 k n l (l.length : Int) ((0 : Nat) : Int)) (fun k => ?_) (spec_IsDrawing_l n c0 l c1 l.length 0 (by omega))
      simp only [spec_IsDrawing.j0]
      rw [if_neg (by simp)]
      rfl
    · rw [decide_eq_false (show ¬ (1 ≤ n ∧ n ≤ 8 ∧ l.length ≤ 12) from fun z => c1 z.2.2), Bool.false_and, decide_eq_true (show ((l.length : Int) > 12) by omega)]
      refine Ev.step (f := fun k => some false) (fun k => ?_) (Ev.now _)
      simp only [spec_IsDrawing.j0]
      rw [if_pos trivial]
  · refine Ev.congr (fun k => if_neg (by simpa using c0)) ?_
    rw [decide_eq_false (show ¬ (1 ≤ n ∧ n ≤ 8 ∧ l.length ≤ 12) from fun z => c0 ⟨z.1, z.2.1⟩), Bool.false_and]
    refine Ev.step (f := fun k => some false) (fun k => ?_) (Ev.now _)
    simp only [spec_IsDrawing.j0]
    rw [if_pos trivial]
theorem impl_IsDrawing_l (n : Int) (hn : 1 ≤ n ∧ n ≤ 8) (l : List (List Int)) (hl : l.length ≤ 12) : ∀ (d i : Nat), i + d = l.length → Ev (fun k => impl_IsDrawing.l0 k n l (l.length : Int) (i : Int)) ((l.drop i).all (lineOk n)) := by
  intro d
  induction d with
  | zero =>
    intro i hi
    refine Ev.step (f := fun _ => some ((l.drop i).all (lineOk n))) (fun k => ?_) (Ev.now _)
    simp only [impl_IsDrawing.l0]
    rw [if_neg (by omega), List.drop_of_length_le (by omega)]
    rfl
  | succ d ih =>
    intro i hi
    have hlt : i < l.length := by omega
    rw [all_drop l _ i hlt]
    by_cases c : lineOk n l[i] = true
    · rw [c, Bool.true_and]
      refine Ev.step (f := fun k => impl_IsDrawing.l0 k n l (l.length : Int) ((i + 1 : Nat) : Int)) (fun k => ?_) (ih (i + 1) (by omega))
      obtain ⟨c1, c2, c3, c4, c5, c6⟩ := of_decide_eq_true c
      simp only [impl_IsDrawing.l0, within_eq, Option.bind_some]
      rw [if_pos (by omega), if_pos (by omega), if_pos (by omega), rdL_get hlt, if_pos (by omega), if_pos (by omega), w64 (x := n - 1) (by omega) (by omega), if_pos (by simpa using ⟨c2, c3⟩), if_pos (by omega), if_pos (by simpa using ⟨c4, c5⟩), if_neg c6, w64 (by omega) (by omega)]
      rfl
    · have c' : lineOk n l[i] = false := by simpa using c
      rw [c', Bool.false_and]
      refine Ev.step (f := fun k => some false) (fun k => ?_) (Ev.now _)
      have hc := of_decide_eq_false c'
      simp only [impl_IsDrawing.l0, within_eq, Option.bind_some]
      rw [if_pos (by omega), if_pos (by omega), if_pos (by omega), rdL_get hlt, w64 (x := n - 1) (by omega) (by omega)]
      by_cases e1 : l[i].length = 2
      · rw [if_pos (by omega), if_pos (by omega)]
        by_cases e2 : 0 ≤ rd l[i] 0 ∧ rd l[i] 0 ≤ n - 1
        · rw [if_pos (by simpa using e2), if_pos (by omega)]
          by_cases e3 : 0 ≤ rd l[i] 1 ∧ rd l[i] 1 ≤ n - 1
          · rw [if_pos (by simpa using e3)]
            by_cases e4 : rd l[i] 0 = rd l[i] 1
            · rw [if_pos e4]
            · exact absurd ⟨e1, e2.1, e2.2, e3.1, e3.2, e4⟩ hc
          · rw [if_neg (by simpa using e3)]
        · rw [if_neg (by simpa using e2)]
      · rw [if_neg (by omega)]
theorem impl_IsDrawing_ev (n : Int) (l : List (List Int)) : Ev (fun k => impl_IsDrawing.f k n l) (drawOk n l) := by
  unfold impl_IsDrawing.f
  refine Ev.bind (ev_const (within_eq n 1 8)) ?_
  unfold drawOk
  by_cases c0 : 1 ≤ n ∧ n ≤ 8
  · refine Ev.congr (fun k => if_pos (by simpa using c0)) ?_
    by_cases c1 : l.length ≤ 12
    · rw [decide_eq_true (show 1 ≤ n ∧ n ≤ 8 ∧ l.length ≤ 12 from ⟨c0.1, c0.2, c1⟩), Bool.true_and, decide_eq_false (show ¬ ((l.length : Int) > 12) by omega)]
      refine Ev.step (f := fun k => impl_IsDrawing.l0 k n l (l.length : Int) ((0 : Nat) : Int)) (fun k => ?_) (impl_IsDrawing_l n c0 l c1 l.length 0 (by omega))
      simp only [impl_IsDrawing.j0]
      rw [if_neg (by simp)]
      rfl
    · rw [decide_eq_false (show ¬ (1 ≤ n ∧ n ≤ 8 ∧ l.length ≤ 12) from fun z => c1 z.2.2), Bool.false_and, decide_eq_true (show ((l.length : Int) > 12) by omega)]
      refine Ev.step (f := fun k => some false) (fun k => ?_) (Ev.now _)
      simp only [impl_IsDrawing.j0]
      rw [if_pos trivial]
  · refine Ev.congr (fun k => if_neg (by simpa using c0)) ?_
    rw [decide_eq_false (show ¬ (1 ≤ n ∧ n ≤ 8 ∧ l.length ≤ 12) from fun z => c0 ⟨z.1, z.2.1⟩), Bool.false_and]
    refine Ev.step (f := fun k => some false) (fun k => ?_) (Ev.now _)
    simp only [impl_IsDrawing.j0]
    rw [if_pos trivial]
end Go.Proofs.Ytcdajmbnijmdfaa.PA
/- strokes -/
namespace Go.Proofs.Ytcdajmbnijmdfaa.PA
open Go.RowKit Go.Proofs.YtcdajmbnijmdfaaW.PrintWords Go.Proofs.YtcdajmbnijmdfaaW.PrintLast Go.Proofs.YtcdajmbnijmdfaaW.PrintMore
set_option linter.unusedVariables false
set_option linter.unusedSimpArgs false
theorem wraps_i64n (n : Int) (h0 : 0 ≤ n) (h1 : n < 2 ^ 63) : IntKind.i64.wrap n = n := by
  rw [IntKind.wrap_i64]
  omega
theorem and_nat (a b : Nat) (ha : a < 2 ^ 63) (hb : b < 2 ^ 63) : Go.bits .and .i64 (a : Int) (b : Int) = ((a &&& b : Nat) : Int) :=
  (bits_nat .i64 63 (by decide) wraps_i64n a b ha hb).1
theorem shl_one (e : Nat) (he : e < 62) : shl .i64 1 (e : Int) = ((2 ^ e : Nat) : Int) := by
  unfold shl
  rw [Int.toNat_natCast, Nat.min_eq_left (by simp [IntKind.bits]; omega)]
  have hp : (2 : Nat) ^ e < 2 ^ 62 := Nat.pow_lt_pow_right (by omega) he
  rw [wraps_i64n]
  · simp
  · simp
    exact_mod_cast Nat.zero_le _
  · simp
    have : ((2 ^ e : Nat) : Int) < ((2 ^ 62 : Nat) : Int) := Int.ofNat_lt.2 hp
    simp at this
    omega
theorem shr_nat (m e : Nat) (he : e < 64) : shr .i64 (m : Int) (e : Int) = ((m >>> e : Nat) : Int) := by
  unfold shr
  rw [Int.toNat_natCast, Nat.min_eq_left (by simp [IntKind.bits]; omega), Nat.shiftRight_eq_div_pow]
  simp
theorem bit_nat (m e : Nat) (hm : m < 2 ^ 63) (he : e < 64) : Go.bits .and .i64 (shr .i64 (m : Int) (e : Int)) 1 = if m.testBit e then 1 else 0 := by
  rw [shr_nat m e he]
  have h1 : m >>> e < 2 ^ 63 := by
    rw [Nat.shiftRight_eq_div_pow]
    exact Nat.lt_of_le_of_lt (Nat.div_le_self _ _) hm
  have := and_nat (m >>> e) 1 h1 (by decide)
  rw [show ((1 : Nat) : Int) = 1 from rfl] at this
  rw [this, Nat.testBit]
  rw [Nat.and_one_is_mod, Nat.one_and_eq_mod_two]
  rcases Nat.mod_two_eq_zero_or_one (m >>> e) with h | h <;> simp [h]
theorem drawOk_iff {n : Int} {l : List (List Int)} : drawOk n l = true ↔ (1 ≤ n ∧ n ≤ 8 ∧ l.length ≤ 12) ∧ ∀ r ∈ l, lineOk n r = true := by
  unfold drawOk
  rw [Bool.and_eq_true, decide_eq_true_iff, List.all_eq_true]
end Go.Proofs.Ytcdajmbnijmdfaa.PA
/- degrees -/
namespace Go.Proofs.Ytcdajmbnijmdfaa.PA
open Go.RowKit Go.Proofs.YtcdajmbnijmdfaaW.PrintWords Go.Proofs.YtcdajmbnijmdfaaW.PrintLast Go.Proofs.YtcdajmbnijmdfaaW.PrintMore
set_option linter.unusedVariables false
set_option linter.unusedSimpArgs false
structure LineOk (n : Nat) (r : List Int) : Prop where
  len : r.length = 2
  a0 : 0 ≤ rd r 0
  a1 : rd r 0 < n
  b0 : 0 ≤ rd r 1
  b1 : rd r 1 < n
  ne : ¬ rd r 0 = rd r 1
theorem drawOk_lines {n : Nat} {l : List (List Int)} (c : drawOk (n : Int) l = true) : 1 ≤ n ∧ n ≤ 8 ∧ l.length ≤ 12 ∧ ∀ r ∈ l, LineOk n r := by
  obtain ⟨⟨h1, h2, h3⟩, h4⟩ := drawOk_iff.1 c
  refine ⟨by omega, by omega, h3, fun r hr => ?_⟩
  obtain ⟨a, b, c, d, e, f⟩ := of_decide_eq_true (h4 r hr)
  exact ⟨a, b, by omega, d, by omega, f⟩
/-- One line more at each of its points. -/
def incr (d : List Int) (i : Nat) : List Int := d.set i (d.getD i 0 + 1)
theorem incr_len (d : List Int) (i : Nat) : (incr d i).length = d.length := by simp [incr]
def degL : List (List Int) → List Int → List Int
  | [], d => d
  | r :: l, d => degL l (incr (incr d (rd r 0).toNat) (rd r 1).toNat)
theorem degL_len : ∀ (l : List (List Int)) (d : List Int), (degL l d).length = d.length := by
  intro l
  induction l with
  | nil => intro d; rfl
  | cons r l ih => intro d; simp [degL, ih, incr_len]
theorem incr_bd {d : List Int} {B : Int} (h : ∀ x ∈ d, 0 ≤ x ∧ x ≤ B) (hB : 0 ≤ B) (i : Nat) : ∀ x ∈ incr d i, 0 ≤ x ∧ x ≤ B + 1 := by
  intro x hx
  unfold incr at hx
  rcases List.mem_or_eq_of_mem_set hx with h1 | h1
  · have := h x h1; omega
  · rw [h1]
    by_cases hi : i < d.length
    · have := h d[i] (List.getElem_mem hi)
      simp [List.getD_eq_getElem?_getD, hi]
      omega
    · simp [List.getD_eq_getElem?_getD, hi]
      omega
theorem degL_bd : ∀ (l : List (List Int)) (d : List Int) (B : Int), (∀ x ∈ d, 0 ≤ x ∧ x ≤ B) → 0 ≤ B → ∀ x ∈ degL l d, 0 ≤ x ∧ x ≤ B + 2 * (l.length : Int) := by
  intro l
  induction l with
  | nil => intro d B h hB x hx; have := h x hx; simp; exact this
  | cons r l ih =>
    intro d B h hB x hx
    simp only [degL] at hx
    have := ih _ (B + 2) (fun y hy => by have := incr_bd (incr_bd h hB (rd r 0).toNat) (by omega) (rd r 1).toNat y hy; omega) (by omega) x hx
    simp only [List.length_cons]
    omega
def degs (n : Nat) (l : List (List Int)) : List Int := degL l (List.replicate n 0)
theorem degs_len (n : Nat) (l : List (List Int)) : (degs n l).length = n := by simp [degs, degL_len]
theorem degs_bd (n : Nat) (l : List (List Int)) : ∀ x ∈ degs n l, 0 ≤ x ∧ x ≤ 2 * (l.length : Int) := by
  intro x hx
  have := degL_bd l (List.replicate n 0) 0 (fun y hy => by rw [List.eq_of_mem_replicate hy]; omega) (by omega) x hx
  omega
theorem spec_deg_l {n : Nat} (l : List (List Int)) (hl : l.length ≤ 12) (hr : ∀ r ∈ l, LineOk n r) : ∀ (m i : Nat) (d : List Int), i + m = l.length → d.length = n → (∀ x ∈ d, 0 ≤ x ∧ x ≤ 2 * (i : Int)) →
    Ev (fun k => spec_l23Degrees.l0 k d l (l.length : Int) (i : Int)) (degL (l.drop i) d) := by
  intro m
  induction m with
  | zero =>
    intro i d hi hd hb
    refine Ev.step (f := fun _ => some (degL (l.drop i) d)) (fun k => ?_) (Ev.now _)
    simp only [spec_l23Degrees.l0]
    rw [if_neg (by omega), List.drop_of_length_le (by omega)]
    rfl
  | succ m ih =>
    intro i d hi hd hb
    have hlt : i < l.length := by omega
    obtain ⟨hL, a0, a1, b0, b1, hne⟩ := hr l[i] (List.getElem_mem hlt)
    rw [List.drop_eq_getElem_cons hlt]
    simp only [degL]
    have hb1 := incr_bd hb (by omega) (rd l[i] 0).toNat
    have hb2 := incr_bd hb1 (by omega) (rd l[i] 1).toNat
    obtain ⟨x, hx⟩ := Int.eq_ofNat_of_zero_le a0
    obtain ⟨y, hy⟩ := Int.eq_ofNat_of_zero_le b0
    have e1 : d.set (rd l[i] 0).toNat (wrap64 (rd d (rd l[i] 0) + 1)) = incr d (rd l[i] 0).toNat := by
      rw [hx, Int.toNat_natCast, rd_nat]
      have hxd : x < d.length := by omega
      have := hb d[x] (List.getElem_mem hxd)
      have e : d.getD x 0 = d[x] := by simp [List.getD_eq_getElem?_getD, hxd]
      rw [w64 (by omega) (by omega)]
      rfl
    have e2 : (incr d (rd l[i] 0).toNat).set (rd l[i] 1).toNat (wrap64 (rd (incr d (rd l[i] 0).toNat) (rd l[i] 1) + 1)) = incr (incr d (rd l[i] 0).toNat) (rd l[i] 1).toNat := by
      generalize hz : incr d (rd l[i] 0).toNat = d1 at hb1
      have hd1 : d1.length = n := by rw [← hz, incr_len, hd]
      rw [hy, Int.toNat_natCast, rd_nat]
      have hyd : y < d1.length := by omega
      have := hb1 d1[y] (List.getElem_mem hyd)
      have e : d1.getD y 0 = d1[y] := by simp [List.getD_eq_getElem?_getD, hyd]
      rw [w64 (by omega) (by omega)]
      rfl
    refine Ev.step (f := fun k => spec_l23Degrees.l0 k (incr (incr d (rd l[i] 0).toNat) (rd l[i] 1).toNat) l (l.length : Int) ((i + 1 : Nat) : Int)) (fun k => ?_) (ih (i + 1) _ (by omega) ((incr_len _ _).trans ((incr_len _ _).trans hd)) (fun z hz => by have := hb2 z hz; omega))
    simp only [spec_l23Degrees.l0, Option.bind_some]
    rw [if_pos (by omega), if_pos (by omega), if_pos (by omega), rdL_get hlt, if_pos (by omega), if_pos (by omega), if_pos (by omega), e1, if_pos (by omega), if_pos (by omega), if_pos (by omega), e2, w64 (by omega) (by omega)]
    rfl
theorem spec_deg_ev {n : Nat} (l : List (List Int)) (hn : n ≤ 8) (hl : l.length ≤ 12) (hr : ∀ r ∈ l, LineOk n r) : Ev (fun k => spec_l23Degrees.f k (n : Int) l) (degs n l) := by
  refine Ev.congr (fun k => ?_) (spec_deg_l l hl hr l.length 0 (List.replicate n 0) (by omega) (by simp) (fun x hx => by rw [List.eq_of_mem_replicate hx]; omega))
  unfold spec_l23Degrees.f
  rw [if_pos (by omega), if_pos (by simp; omega), Int.toNat_natCast]
  rfl
theorem impl_deg_l {n : Nat} (l : List (List Int)) (hl : l.length ≤ 12) (hr : ∀ r ∈ l, LineOk n r) : ∀ (m i : Nat) (d : List Int), i + m = l.length → d.length = n → (∀ x ∈ d, 0 ≤ x ∧ x ≤ 2 * (i : Int)) →
    Ev (fun k => impl_degrees.l0 k d l (l.length : Int) (i : Int)) (degL (l.drop i) d) := by
  intro m
  induction m with
  | zero =>
    intro i d hi hd hb
    refine Ev.step (f := fun _ => some (degL (l.drop i) d)) (fun k => ?_) (Ev.now _)
    simp only [impl_degrees.l0]
    rw [if_neg (by omega), List.drop_of_length_le (by omega)]
    rfl
  | succ m ih =>
    intro i d hi hd hb
    have hlt : i < l.length := by omega
    obtain ⟨hL, a0, a1, b0, b1, hne⟩ := hr l[i] (List.getElem_mem hlt)
    rw [List.drop_eq_getElem_cons hlt]
    simp only [degL]
    have hb1 := incr_bd hb (by omega) (rd l[i] 0).toNat
    have hb2 := incr_bd hb1 (by omega) (rd l[i] 1).toNat
    obtain ⟨x, hx⟩ := Int.eq_ofNat_of_zero_le a0
    obtain ⟨y, hy⟩ := Int.eq_ofNat_of_zero_le b0
    have e1 : d.set (rd l[i] 0).toNat (wrap64 (rd d (rd l[i] 0) + 1)) = incr d (rd l[i] 0).toNat := by
      rw [hx, Int.toNat_natCast, rd_nat]
      have hxd : x < d.length := by omega
      have := hb d[x] (List.getElem_mem hxd)
      have e : d.getD x 0 = d[x] := by simp [List.getD_eq_getElem?_getD, hxd]
      rw [w64 (by omega) (by omega)]
      rfl
    have e2 : (incr d (rd l[i] 0).toNat).set (rd l[i] 1).toNat (wrap64 (rd (incr d (rd l[i] 0).toNat) (rd l[i] 1) + 1)) = incr (incr d (rd l[i] 0).toNat) (rd l[i] 1).toNat := by
      generalize hz : incr d (rd l[i] 0).toNat = d1 at hb1
      have hd1 : d1.length = n := by rw [← hz, incr_len, hd]
      rw [hy, Int.toNat_natCast, rd_nat]
      have hyd : y < d1.length := by omega
      have := hb1 d1[y] (List.getElem_mem hyd)
      have e : d1.getD y 0 = d1[y] := by simp [List.getD_eq_getElem?_getD, hyd]
      rw [w64 (by omega) (by omega)]
      rfl
    refine Ev.step (f := fun k => impl_degrees.l0 k (incr (incr d (rd l[i] 0).toNat) (rd l[i] 1).toNat) l (l.length : Int) ((i + 1 : Nat) : Int)) (fun k => ?_) (ih (i + 1) _ (by omega) ((incr_len _ _).trans ((incr_len _ _).trans hd)) (fun z hz => by have := hb2 z hz; omega))
    simp only [impl_degrees.l0, Option.bind_some]
    rw [if_pos (by omega), if_pos (by omega), if_pos (by omega), rdL_get hlt, if_pos (by omega), if_pos (by omega), if_pos (by omega), e1, if_pos (by omega), if_pos (by omega), if_pos (by omega), e2, w64 (by omega) (by omega)]
    rfl
theorem impl_deg_ev {n : Nat} (l : List (List Int)) (hn : n ≤ 8) (hl : l.length ≤ 12) (hr : ∀ r ∈ l, LineOk n r) : Ev (fun k => impl_degrees.f k (n : Int) l) (degs n l) := by
  refine Ev.congr (fun k => ?_) (impl_deg_l l hl hr l.length 0 (List.replicate n 0) (by omega) (by simp) (fun x hx => by rw [List.eq_of_mem_replicate hx]; omega))
  unfold impl_degrees.f
  rw [if_pos (by omega), if_pos (by simp; omega), Int.toNat_natCast]
  rfl
end Go.Proofs.Ytcdajmbnijmdfaa.PA
/- parts that hang together -/
namespace Go.Proofs.Ytcdajmbnijmdfaa.PA
open Go.RowKit Go.Proofs.YtcdajmbnijmdfaaW.PrintWords Go.Proofs.YtcdajmbnijmdfaaW.PrintLast Go.Proofs.YtcdajmbnijmdfaaW.PrintMore
set_option linter.unusedVariables false
set_option linter.unusedSimpArgs false
def rsum (f : Nat → Int) : Nat → Int
  | 0 => 0
  | n + 1 => rsum f n + f n
theorem rsum_add (f g : Nat → Int) : ∀ n, rsum (fun i => f i + g i) n = rsum f n + rsum g n := by
  intro n
  induction n with
  | zero => rfl
  | succ n ih => simp only [rsum]; omega
theorem rsum_congr {f g : Nat → Int} : ∀ {n : Nat}, (∀ i, i < n → f i = g i) → rsum f n = rsum g n := by
  intro n
  induction n with
  | zero => intro _; rfl
  | succ n ih => intro h; simp only [rsum]; rw [ih (fun i hi => h i (by omega)), h n (by omega)]
theorem rsum_one (x : Int) (c : Int) : ∀ n : Nat, rsum (fun g => if (g : Int) = x then c else 0) n = if 0 ≤ x ∧ x < (n : Int) then c else 0 := by
  intro n
  induction n with
  | zero => simp only [rsum]; rw [if_neg (by omega)]
  | succ n ih =>
    simp only [rsum]
    rw [ih]
    by_cases h1 : 0 ≤ x ∧ x < (n : Int)
    · rw [if_pos h1, if_neg (by omega), if_pos (by omega)]; omega
    · rw [if_neg h1]
      by_cases h2 : (n : Int) = x
      · rw [if_pos h2, if_pos (by omega)]; omega
      · rw [if_neg h2, if_neg (by omega)]; omega
theorem rsum_zero {f : Nat → Int} : ∀ {n : Nat}, (∀ i, i < n → f i = 0) → rsum f n = 0 := by
  intro n
  induction n with
  | zero => intro _; rfl
  | succ n ih => intro h; simp only [rsum]; rw [ih (fun i hi => h i (by omega)), h n (by omega)]; rfl
/-- The sum of w over the numbers of a list, each counted once. -/
def dsum (w : Int → Int) : List Int → Int
  | [] => 0
  | x :: l => (if x ∈ l then 0 else w x) + dsum w l
theorem dsum_range (w : Int → Int) (n : Nat) : ∀ L : List Int, (∀ x ∈ L, 0 ≤ x ∧ x < (n : Int)) → rsum (fun g => if (g : Int) ∈ L then w g else 0) n = dsum w L := by
  intro L
  induction L with
  | nil => intro _; simp only [dsum]; exact rsum_zero (fun i _ => by rw [if_neg (by simp)])
  | cons x L ih =>
    intro h
    simp only [dsum]
    rw [← ih (fun y hy => h y (List.mem_cons_of_mem _ hy))]
    have hx := h x List.mem_cons_self
    have e : rsum (fun g => if (g : Int) ∈ x :: L then w g else 0) n = rsum (fun g => (if (g : Int) = x then (if x ∈ L then 0 else w x) else 0) + (if (g : Int) ∈ L then w g else 0)) n := by
      refine rsum_congr (fun g _ => ?_)
      by_cases h1 : (g : Int) = x
      · rw [if_pos h1, h1, if_pos List.mem_cons_self]
        by_cases h2 : x ∈ L
        · rw [if_pos h2, if_pos h2]; omega
        · rw [if_neg h2, if_neg h2]; omega
      · rw [if_neg h1]
        by_cases h2 : (g : Int) ∈ L
        · rw [if_pos h2, if_pos (List.mem_cons_of_mem _ h2)]; omega
        · rw [if_neg h2, if_neg (fun z => (List.mem_cons.1 z).elim h1 h2)]; rfl
    rw [e, rsum_add, rsum_one, if_pos hx]
theorem dsum_congr (G P : Nat → Int) (u v : Int → Int) : ∀ I : List Nat, (∀ i ∈ I, ∀ j ∈ I, (G i = G j ↔ P i = P j)) → (∀ i ∈ I, u (G i) = v (P i)) → dsum u (I.map G) = dsum v (I.map P) := by
  intro I
  induction I with
  | nil => intro _ _; rfl
  | cons i I ih =>
    intro h hw
    simp only [List.map_cons, dsum]
    rw [ih (fun a ha b hb => h a (List.mem_cons_of_mem _ ha) b (List.mem_cons_of_mem _ hb)) (fun a ha => hw a (List.mem_cons_of_mem _ ha)), hw i List.mem_cons_self]
    have e : (G i ∈ I.map G) ↔ (P i ∈ I.map P) := by
      constructor
      · intro hm
        obtain ⟨j, hj, he⟩ := List.mem_map.1 hm
        exact List.mem_map.2 ⟨j, hj, (h j (List.mem_cons_of_mem _ hj) i List.mem_cons_self).1 he⟩
      · intro hm
        obtain ⟨j, hj, he⟩ := List.mem_map.1 hm
        exact List.mem_map.2 ⟨j, hj, (h j (List.mem_cons_of_mem _ hj) i List.mem_cons_self).2 he⟩
    by_cases c : G i ∈ I.map G
    · rw [if_pos c, if_pos (e.1 c)]
    · rw [if_neg c, if_neg (fun z => c (e.2 z))]
theorem dsum_len : ∀ (L r : List Int), r.Nodup → (∀ y, y ∈ r ↔ y ∈ L) → (r.length : Int) = dsum (fun _ => 1) L := by
  intro L
  induction L with
  | nil =>
    intro r _ hm
    have : r = [] := List.eq_nil_iff_forall_not_mem.2 (fun y hy => by simpa using (hm y).1 hy)
    rw [this]
    rfl
  | cons x L ih =>
    intro r hn hm
    simp only [dsum]
    by_cases c : x ∈ L
    · rw [if_pos c, ← ih r hn (fun y => (hm y).trans ⟨fun h => (List.mem_cons.1 h).elim (fun e => e ▸ c) id, List.mem_cons_of_mem _⟩)]
      omega
    · rw [if_neg c, ← ih (r.erase x) (hn.erase x) (fun y => ?_), List.length_erase_of_mem ((hm x).2 List.mem_cons_self)]
      · have : 0 < r.length := List.length_pos_of_mem ((hm x).2 List.mem_cons_self)
        omega
      · rw [hn.mem_erase_iff, hm y]
        constructor
        · rintro ⟨h1, h2⟩
          exact (List.mem_cons.1 h2).elim (fun e => absurd e h1) id
        · intro h1
          exact ⟨fun e => c (e ▸ h1), List.mem_cons_of_mem _ h1⟩
def lab (a b g : Int) : Int := if g = a then b else g
def relab (G : List Int) (a b : Int) : List Int := G.map (lab a b)
theorem relab_len (G : List Int) (a b : Int) : (relab G a b).length = G.length := by simp [relab]
theorem relab_self (G : List Int) (a : Int) : relab G a a = G := by
  unfold relab
  have : (lab a a) = id := by funext g; unfold lab; split <;> simp_all
  rw [this, List.map_id]
theorem relab_at {G : List Int} {a b : Int} {i : Nat} (h : i < G.length) : (relab G a b).getD i 0 = lab a b (G.getD i 0) := by
  simp [relab, List.getD_eq_getElem?_getD, h]
structure SameParts (n : Nat) (G P : List Int) : Prop where
  lg : G.length = n
  lp : P.length = n
  bg : ∀ x ∈ G, 0 ≤ x ∧ x < (n : Int)
  bp : ∀ x ∈ P, 0 ≤ x ∧ x < (n : Int)
  iff : ∀ i j, i < n → j < n → (G.getD i 0 = G.getD j 0 ↔ P.getD i 0 = P.getD j 0)
theorem mem_getD {G : List Int} {i : Nat} (h : i < G.length) : G.getD i 0 ∈ G := by
  simp [List.getD_eq_getElem?_getD, h]
theorem same_step {n : Nat} {G P : List Int} (h : SameParts n G P) {a b : Nat} (ha : a < n) (hb : b < n) : SameParts n (relab G (G.getD a 0) (G.getD b 0)) (relab P (P.getD b 0) (P.getD a 0)) := by
  have mg := h.bg _ (mem_getD (G := G) (i := b) (by rw [h.lg]; exact hb))
  have mp := h.bp _ (mem_getD (G := P) (i := a) (by rw [h.lp]; exact ha))
  refine ⟨by rw [relab_len, h.lg], by rw [relab_len, h.lp], fun x hx => ?_, fun x hx => ?_, fun i j hi hj => ?_⟩
  · obtain ⟨y, hy, rfl⟩ := List.mem_map.1 hx
    unfold lab
    split
    · exact mg
    · exact h.bg y hy
  · obtain ⟨y, hy, rfl⟩ := List.mem_map.1 hx
    unfold lab
    split
    · exact mp
    · exact h.bp y hy
  · rw [relab_at (by rw [h.lg]; exact hi), relab_at (by rw [h.lg]; exact hj), relab_at (by rw [h.lp]; exact hi), relab_at (by rw [h.lp]; exact hj)]
    have e1 := h.iff i j hi hj
    have e2 := h.iff i a hi ha
    have e3 := h.iff i b hi hb
    have e4 := h.iff j a hj ha
    have e5 := h.iff j b hj hb
    have e6 := h.iff a b ha hb
    unfold lab
    generalize G.getD i 0 = gi at *
    generalize G.getD j 0 = gj at *
    generalize G.getD a 0 = ga at *
    generalize G.getD b 0 = gb at *
    generalize P.getD i 0 = pi at *
    generalize P.getD j 0 = pj at *
    generalize P.getD a 0 = pa at *
    generalize P.getD b 0 = pb at *
    split <;> split <;> split <;> split <;> omega
def joinG : List (List Int) → List Int → List Int
  | [], G => G
  | r :: l, G => joinG l (relab G (rd G (rd r 0)) (rd G (rd r 1)))
def joinP : List (List Int) → List Int → List Int
  | [], P => P
  | r :: l, P => joinP l (relab P (rd P (rd r 1)) (rd P (rd r 0)))
theorem line_nat {n : Nat} {r : List Int} (h : LineOk n r) : ∃ a b : Nat, rd r 0 = (a : Int) ∧ rd r 1 = (b : Int) ∧ a < n ∧ b < n := by
  obtain ⟨h1, h2, h3, h4, h5, h6⟩ := h
  exact ⟨(rd r 0).toNat, (rd r 1).toNat, by omega, by omega, by omega, by omega⟩
theorem join_same {n : Nat} : ∀ (l : List (List Int)) (G P : List Int), (∀ r ∈ l, LineOk n r) → SameParts n G P → SameParts n (joinG l G) (joinP l P) := by
  intro l
  induction l with
  | nil => intro G P _ h; exact h
  | cons r l ih =>
    intro G P hl h
    obtain ⟨a, b, ea, eb, ha, hb⟩ := line_nat (hl r List.mem_cons_self)
    simp only [joinG, joinP]
    refine ih _ _ (fun x hx => hl x (List.mem_cons_of_mem _ hx)) ?_
    rw [ea, eb, rd_nat, rd_nat, rd_nat, rd_nat]
    exact same_step h ha hb
def idL (n : Nat) : List Int := (List.range n).map fun i : Nat => (i : Int)
theorem same_start (n : Nat) : SameParts n (idL n) (idL n) := by
  have hb : ∀ x ∈ idL n, 0 ≤ x ∧ x < (n : Int) := fun x hx => by
    obtain ⟨i, hi, rfl⟩ := List.mem_map.1 hx
    have := List.mem_range.1 hi
    omega
  exact ⟨by simp [idL], by simp [idL], hb, hb, fun i j _ _ => Iff.rfl⟩
theorem mixed_at (P : List Int) (f : Int → Int) (t i : Nat) (hi : i < P.length) : ((P.take t).map f ++ P.drop t).getD i 0 = if i < t then f (P.getD i 0) else P.getD i 0 := by
  rw [List.getD_eq_getElem?_getD, List.getD_eq_getElem?_getD]
  by_cases c : i < t
  · rw [if_pos c, List.getElem?_append_left (by simp; omega), List.getElem?_map, List.getElem?_take_of_lt c]
    simp [hi]
  · rw [if_neg c, List.getElem?_append_right (by simp; omega), List.getElem?_drop]
    congr 2
    simp
    omega
theorem mixed_set (P : List Int) (f : Int → Int) (t : Nat) (ht : t < P.length) (v : Int) (hv : v = f (P.getD t 0)) : ((P.take t).map f ++ P.drop t).set t v = (P.take (t + 1)).map f ++ P.drop (t + 1) := by
  apply List.ext_getElem?
  intro i
  rw [List.getElem?_set]
  by_cases c : t = i
  · subst c
    rw [if_pos rfl, if_pos (by simp; omega), List.getElem?_append_left (by simp; omega), List.getElem?_map, List.getElem?_take_of_lt (by omega), hv, List.getD_eq_getElem?_getD, List.getElem?_eq_getElem ht]
    rfl
  · rw [if_neg c]
    by_cases c2 : i < t
    · rw [List.getElem?_append_left (by simp; omega), List.getElem?_append_left (by simp; omega), List.getElem?_map, List.getElem?_map, List.getElem?_take_of_lt c2, List.getElem?_take_of_lt (by omega)]
    · rw [List.getElem?_append_right (by simp; omega), List.getElem?_append_right (by simp; omega), List.getElem?_drop, List.getElem?_drop]
      congr 1
      simp
      omega
theorem mixed_same (P : List Int) (f : Int → Int) (t : Nat) (ht : t < P.length) (hv : P.getD t 0 = f (P.getD t 0)) : (P.take t).map f ++ P.drop t = (P.take (t + 1)).map f ++ P.drop (t + 1) := by
  rw [← mixed_set P f t ht _ rfl]
  apply List.ext_getElem?
  intro i
  rw [List.getElem?_set]
  by_cases c : t = i
  · subst c
    rw [if_pos rfl, if_pos (by simp; omega), List.getElem?_append_right (by simp; omega), List.getElem?_drop, ← hv, List.getD_eq_getElem?_getD]
    have e : t + (t - (List.map f (List.take t P)).length) = t := by simp; omega
    rw [e, List.getElem?_eq_getElem ht]
    rfl
  · rw [if_neg c]
theorem rd_getD (P : List Int) (i : Nat) : rd P (i : Int) = P.getD i 0 := rd_nat P i
/-- The mask of all lines. -/
theorem mask_all (m : Nat) (h : m ≤ 12) : wrap64 ((shl .i64 1 (m : Int)) - 1) = ((2 ^ m - 1 : Nat) : Int) := by
  have h1 : 2 ^ m ≤ 2 ^ 12 := Nat.pow_le_pow_right (by omega) h
  have h2 : 0 < 2 ^ m := Nat.pow_pos (by omega)
  rw [shl_one m (by omega), w64 (by omega) (by omega)]
  omega
theorem mask_bit (m i : Nat) (h : m ≤ 12) (hi : i < m) : Go.bits .and .i64 (shr .i64 ((2 ^ m - 1 : Nat) : Int) (i : Int)) 1 = 1 := by
  have h1 : 2 ^ m ≤ 2 ^ 12 := Nat.pow_le_pow_right (by omega) h
  rw [bit_nat _ _ (by omega) (by omega), if_pos (by rw [Nat.testBit_two_pow_sub_one]; simpa using hi)]
theorem impl_join_2 (l G : List (List Int)) (mask : Int) (x9 : Bool) (H : List Int) (fr tt : Int) (i : Nat) (hH : H.length ≤ 8) (R : List Int × Bool) (hi : i < l.length) (hl : l.length ≤ 12) : ∀ (m t : Nat), t + m = H.length →
    Ev (fun k => impl_joined.l1 k mask (relab H fr tt) x9 l (l.length : Int) ((i + 1 : Nat) : Int)) R →
    Ev (fun k => impl_joined.l2 k mask ((H.take t).map (lab fr tt) ++ H.drop t) x9 fr tt l (l.length : Int) (i : Int) (H.length : Int) (t : Int)) R := by
  intro m
  induction m with
  | zero =>
    intro t ht hr
    have e : (H.take t).map (lab fr tt) ++ H.drop t = relab H fr tt := by rw [List.take_of_length_le (by omega), List.drop_of_length_le (by omega), List.append_nil]; rfl
    rw [e]
    refine Ev.step (f := fun k => impl_joined.l1 k mask (relab H fr tt) x9 l (l.length : Int) ((i + 1 : Nat) : Int)) (fun k => ?_) hr
    simp only [impl_joined.l2]
    rw [if_neg (by omega), w64 (by omega) (by omega)]
    rfl
  | succ m ih =>
    intro t ht hr
    have hlt : t < H.length := by omega
    have hlen : ((H.take t).map (lab fr tt) ++ H.drop t).length = H.length := by simp; omega
    have hat := mixed_at H (lab fr tt) t t hlt
    rw [if_neg (by omega)] at hat
    by_cases c : H.getD t 0 = fr
    · refine Ev.step (f := fun k => impl_joined.l2 k mask ((H.take (t + 1)).map (lab fr tt) ++ H.drop (t + 1)) x9 fr tt l (l.length : Int) (i : Int) (H.length : Int) ((t + 1 : Nat) : Int)) (fun k => ?_) (ih (t + 1) (by omega) hr)
      simp only [impl_joined.l2]
      rw [if_pos (by omega), if_pos (by omega), if_pos (by omega), rd_getD, hat, if_pos c, Int.toNat_natCast, mixed_set H (lab fr tt) t hlt tt (by unfold lab; rw [if_pos c]), w64 (by omega) (by omega)]
      rfl
    · refine Ev.step (f := fun k => impl_joined.l2 k mask ((H.take (t + 1)).map (lab fr tt) ++ H.drop (t + 1)) x9 fr tt l (l.length : Int) (i : Int) (H.length : Int) ((t + 1 : Nat) : Int)) (fun k => ?_) (ih (t + 1) (by omega) hr)
      simp only [impl_joined.l2]
      rw [if_pos (by omega), if_pos (by omega), if_pos (by omega), rd_getD, hat, if_neg c, ← mixed_same H (lab fr tt) t hlt (by unfold lab; rw [if_neg c]), w64 (by omega) (by omega)]
      rfl
theorem impl_join_1 {n : Nat} (l : List (List Int)) (hn : n ≤ 8) (hl : l.length ≤ 12) (hr : ∀ r ∈ l, LineOk n r) : ∀ (m i : Nat) (H : List Int) (x9 : Bool), i + m = l.length → H.length = n →
    ∃ b, Ev (fun k => impl_joined.l1 k ((2 ^ l.length - 1 : Nat) : Int) H x9 l (l.length : Int) (i : Int)) (joinG (l.drop i) H, b) := by
  intro m
  induction m with
  | zero =>
    intro i H x9 hi hH
    rw [List.drop_of_length_le (by omega)]
    refine ⟨x9, Ev.step (f := fun _ => some (H, x9)) (fun k => ?_) (Ev.now _)⟩
    simp only [impl_joined.l1]
    rw [if_neg (by omega)]
  | succ m ih =>
    intro i H x9 hi hH
    have hlt : i < l.length := by omega
    have hlo := hr l[i] (List.getElem_mem hlt)
    obtain ⟨a, b, ea, eb, ha, hb⟩ := line_nat hlo
    have hlen := hlo.len
    rw [List.drop_eq_getElem_cons hlt]
    simp only [joinG]
    have go : ∀ y : Bool, ∃ b', Ev (fun k => impl_joined.j2 k ((2 ^ l.length - 1 : Nat) : Int) H y (rd H (rd l[i] 0)) (rd H (rd l[i] 1)) l (l.length : Int) (i : Int)) (joinG (l.drop (i + 1)) (relab H (rd H (rd l[i] 0)) (rd H (rd l[i] 1))), b') := by
      intro y
      obtain ⟨b', h2⟩ := ih (i + 1) (relab H (rd H (rd l[i] 0)) (rd H (rd l[i] 1))) y (by omega) (by rw [relab_len, hH])
      have h3 := impl_join_2 l l ((2 ^ l.length - 1 : Nat) : Int) y H (rd H (rd l[i] 0)) (rd H (rd l[i] 1)) i (by omega) _ hlt hl H.length 0 (by omega) h2
      refine ⟨b', Ev.step (f := fun k => impl_joined.l2 k ((2 ^ l.length - 1 : Nat) : Int) ((H.take 0).map (lab (rd H (rd l[i] 0)) (rd H (rd l[i] 1))) ++ H.drop 0) y (rd H (rd l[i] 0)) (rd H (rd l[i] 1)) l (l.length : Int) (i : Int) (H.length : Int) ((0 : Nat) : Int)) (fun k => ?_) h3⟩
      simp only [impl_joined.j2, List.take_zero, List.map_nil, List.nil_append, List.drop_zero]
      rfl
    have hm := mask_bit l.length i hl hlt
    by_cases c : rd H (rd l[i] 0) = rd H (rd l[i] 1)
    · obtain ⟨b', h2⟩ := go false
      refine ⟨b', Ev.step (f := fun k => impl_joined.j2 k ((2 ^ l.length - 1 : Nat) : Int) H false (rd H (rd l[i] 0)) (rd H (rd l[i] 1)) l (l.length : Int) (i : Int)) (fun k => ?_) h2⟩
      simp only [impl_joined.l1]
      rw [if_pos (by omega), if_pos (by omega), if_pos (by omega), rdL_get hlt, hm, if_neg (by omega), if_pos (by omega), if_pos (by omega), if_pos (by omega), if_pos (by omega), if_pos (by omega), if_pos (by omega), if_pos c]
    · obtain ⟨b', h2⟩ := go x9
      refine ⟨b', Ev.step (f := fun k => impl_joined.j2 k ((2 ^ l.length - 1 : Nat) : Int) H x9 (rd H (rd l[i] 0)) (rd H (rd l[i] 1)) l (l.length : Int) (i : Int)) (fun k => ?_) h2⟩
      simp only [impl_joined.l1]
      rw [if_pos (by omega), if_pos (by omega), if_pos (by omega), rdL_get hlt, hm, if_neg (by omega), if_pos (by omega), if_pos (by omega), if_pos (by omega), if_pos (by omega), if_pos (by omega), if_pos (by omega), if_neg c]
theorem idL_succ (i : Nat) : idL (i + 1) = idL i ++ [(i : Int)] := by simp [idL, List.range_succ]
theorem idL_len (i : Nat) : (idL i).length = i := by simp [idL]
theorem impl_joined_ev {n : Nat} (l : List (List Int)) (hn : n ≤ 8) (hl : l.length ≤ 12) (hr : ∀ r ∈ l, LineOk n r) : ∃ b, Ev (fun k => impl_joined.f k (n : Int) l (wrap64 ((shl .i64 1 (l.length : Int)) - 1))) (joinG l (idL n), b) := by
  obtain ⟨b, h⟩ := impl_join_1 l hn hl hr l.length 0 (idL n) true (by omega) (idL_len n)
  rw [List.drop_zero] at h
  refine ⟨b, ?_⟩
  rw [mask_all _ hl]
  unfold impl_joined.f
  have go : ∀ (m i : Nat), i + m = n → Ev (fun k => impl_joined.l0 k l ((2 ^ l.length - 1 : Nat) : Int) (idL i) true (n : Int) (i : Int)) (joinG l (idL n), b) := by
    intro m
    induction m with
    | zero =>
      intro i hi
      obtain rfl : i = n := by omega
      refine Ev.step (f := fun k => impl_joined.l1 k ((2 ^ l.length - 1 : Nat) : Int) (idL i) true l (l.length : Int) ((0 : Nat) : Int)) (fun k => ?_) h
      simp only [impl_joined.l0]
      rw [if_neg (by omega)]
      rfl
    | succ m ih =>
      intro i hi
      refine Ev.step (f := fun k => impl_joined.l0 k l ((2 ^ l.length - 1 : Nat) : Int) (idL (i + 1)) true (n : Int) ((i + 1 : Nat) : Int)) (fun k => ?_) (ih (i + 1) (by omega))
      simp only [impl_joined.l0]
      rw [if_pos (by omega), if_pos (by rw [idL_len]; omega), w64 (by omega) (by omega), idL_succ]
      rfl
  exact go n 0 (by omega)
theorem spec_join_l (P : List Int) (a : Nat) (old : Int) (ha : a < P.length) (hne : ¬ P.getD a 0 = old) (hP : P.length ≤ 8) : ∀ (m t : Nat), t + m = P.length →
    Ev (fun k => spec_l13Join.l0 k ((P.take t).map (lab old (P.getD a 0)) ++ P.drop t) (a : Int) old (P.length : Int) (t : Int)) (true, relab P old (P.getD a 0)) := by
  intro m
  induction m with
  | zero =>
    intro t ht
    have e : (P.take t).map (lab old (P.getD a 0)) ++ P.drop t = relab P old (P.getD a 0) := by rw [List.take_of_length_le (by omega), List.drop_of_length_le (by omega), List.append_nil]; rfl
    rw [e]
    refine Ev.step (f := fun _ => some (true, relab P old (P.getD a 0))) (fun k => ?_) (Ev.now _)
    simp only [spec_l13Join.l0]
    rw [if_neg (by omega)]
  | succ m ih =>
    intro t ht
    have hlt : t < P.length := by omega
    have hlen : ((P.take t).map (lab old (P.getD a 0)) ++ P.drop t).length = P.length := by simp; omega
    have hat := mixed_at P (lab old (P.getD a 0)) t t hlt
    rw [if_neg (by omega)] at hat
    have haa : ((P.take t).map (lab old (P.getD a 0)) ++ P.drop t).getD a 0 = P.getD a 0 := by
      rw [mixed_at P _ t a ha]
      split
      · unfold lab; rw [if_neg hne]
      · rfl
    by_cases c : P.getD t 0 = old
    · refine Ev.step (f := fun k => spec_l13Join.l0 k ((P.take (t + 1)).map (lab old (P.getD a 0)) ++ P.drop (t + 1)) (a : Int) old (P.length : Int) ((t + 1 : Nat) : Int)) (fun k => ?_) (ih (t + 1) (by omega))
      simp only [spec_l13Join.l0]
      rw [if_pos (by omega), if_pos (by omega), if_pos (by omega), rd_getD, hat, if_pos c, if_pos (by omega), if_pos (by omega), rd_getD, haa, Int.toNat_natCast, mixed_set P (lab old (P.getD a 0)) t hlt (P.getD a 0) (by unfold lab; rw [if_pos c]), w64 (by omega) (by omega)]
      rfl
    · refine Ev.step (f := fun k => spec_l13Join.l0 k ((P.take (t + 1)).map (lab old (P.getD a 0)) ++ P.drop (t + 1)) (a : Int) old (P.length : Int) ((t + 1 : Nat) : Int)) (fun k => ?_) (ih (t + 1) (by omega))
      simp only [spec_l13Join.l0]
      rw [if_pos (by omega), if_pos (by omega), if_pos (by omega), rd_getD, hat, if_neg c, ← mixed_same P (lab old (P.getD a 0)) t hlt (by unfold lab; rw [if_neg c]), w64 (by omega) (by omega)]
      rfl
theorem spec_join_ev (P : List Int) (a b : Nat) (ha : a < P.length) (hb : b < P.length) (hP : P.length ≤ 8) : ∃ y, Ev (fun k => spec_l13Join.f k P (a : Int) (b : Int)) (y, relab P (P.getD b 0) (P.getD a 0)) := by
  by_cases c : P.getD a 0 = P.getD b 0
  · refine ⟨false, ?_⟩
    rw [c, relab_self]
    refine ev_const (a := some (false, P)) rfl |>.congr (fun k => ?_)
    unfold spec_l13Join.f
    rw [if_pos (by omega), if_pos (by omega), if_pos (by omega), if_pos (by omega), rd_getD, rd_getD, if_pos c]
  · refine ⟨true, ?_⟩
    have h := spec_join_l P a (P.getD b 0) ha c hP P.length 0 (by omega)
    refine h.congr (fun k => ?_)
    unfold spec_l13Join.f
    rw [if_pos (by omega), if_pos (by omega), if_pos (by omega), if_pos (by omega), rd_getD, rd_getD, if_neg c]
    simp
theorem spec_parts_1 {n : Nat} (l : List (List Int)) (hn : n ≤ 8) (hl : l.length ≤ 12) (hr : ∀ r ∈ l, LineOk n r) : ∀ (m i : Nat) (P : List Int) (x9 : Bool), i + m = l.length → P.length = n →
    ∃ b, Ev (fun k => spec_l13Parts.l1 k ((2 ^ l.length - 1 : Nat) : Int) P x9 l (l.length : Int) (i : Int)) (joinP (l.drop i) P, b) := by
  intro m
  induction m with
  | zero =>
    intro i P x9 hi hP
    rw [List.drop_of_length_le (by omega)]
    refine ⟨x9, Ev.step (f := fun _ => some (P, x9)) (fun k => ?_) (Ev.now _)⟩
    simp only [spec_l13Parts.l1]
    rw [if_neg (by omega)]
  | succ m ih =>
    intro i P x9 hi hP
    have hlt : i < l.length := by omega
    have hlo := hr l[i] (List.getElem_mem hlt)
    obtain ⟨a, b, ea, eb, ha, hb⟩ := line_nat hlo
    have hlen := hlo.len
    rw [List.drop_eq_getElem_cons hlt]
    simp only [joinP]
    have hm := mask_bit l.length i hl hlt
    obtain ⟨y, hy⟩ := spec_join_ev P a b (by omega) (by omega) (by omega)
    have e : relab P (rd P (rd l[i] 1)) (rd P (rd l[i] 0)) = relab P (P.getD b 0) (P.getD a 0) := by rw [ea, eb, rd_getD, rd_getD]
    rw [e]
    have hstep : ∀ (z : Bool) (b' : Bool), (if y = true then x9 else false) = z → Ev (fun k => spec_l13Parts.l1 k ((2 ^ l.length - 1 : Nat) : Int) (relab P (P.getD b 0) (P.getD a 0)) z l (l.length : Int) ((i + 1 : Nat) : Int)) (joinP (l.drop (i + 1)) (relab P (P.getD b 0) (P.getD a 0)), b') →
        Ev (fun k => spec_l13Parts.l1 k ((2 ^ l.length - 1 : Nat) : Int) P x9 l (l.length : Int) (i : Int)) (joinP (l.drop (i + 1)) (relab P (P.getD b 0) (P.getD a 0)), b') := by
      intro z b' hz h2
      refine Ev.step (f := fun k => (spec_l13Join.f k P (a : Int) (b : Int)).bind fun bt => (if bt.1 = true then spec_l13Parts.l1 k ((2 ^ l.length - 1 : Nat) : Int) bt.2 x9 l (l.length : Int) ((i + 1 : Nat) : Int) else spec_l13Parts.l1 k ((2 ^ l.length - 1 : Nat) : Int) bt.2 false l (l.length : Int) ((i + 1 : Nat) : Int))) (fun k => ?_) (Ev.bind hy ?_)
      · simp only [spec_l13Parts.l1]
        rw [if_pos (by omega), if_pos (by omega), if_pos (by omega), rdL_get hlt, hm, if_pos rfl, if_pos (by omega), if_pos (by omega), ea, eb, w64 (by omega) (by omega)]
        rfl
      · by_cases cy : y = true
        · rw [if_pos cy] at hz
          subst hz
          exact Ev.congr (fun k => if_pos cy) h2
        · rw [if_neg cy] at hz
          subst hz
          exact Ev.congr (fun k => if_neg cy) h2
    obtain ⟨b', h2⟩ := ih (i + 1) (relab P (P.getD b 0) (P.getD a 0)) (if y = true then x9 else false) (by omega) (by rw [relab_len, hP])
    exact ⟨b', hstep _ b' rfl h2⟩
theorem spec_parts_ev {n : Nat} (l : List (List Int)) (hn : n ≤ 8) (hl : l.length ≤ 12) (hr : ∀ r ∈ l, LineOk n r) : ∃ b, Ev (fun k => spec_l13Parts.f k (n : Int) l (wrap64 ((shl .i64 1 (l.length : Int)) - 1))) (joinP l (idL n), b) := by
  obtain ⟨b, h⟩ := spec_parts_1 l hn hl hr l.length 0 (idL n) true (by omega) (idL_len n)
  rw [List.drop_zero] at h
  refine ⟨b, ?_⟩
  rw [mask_all _ hl]
  unfold spec_l13Parts.f
  have go : ∀ (m i : Nat), i + m = n → Ev (fun k => spec_l13Parts.l0 k (n : Int) l ((2 ^ l.length - 1 : Nat) : Int) (idL i) (i : Int)) (joinP l (idL n), b) := by
    intro m
    induction m with
    | zero =>
      intro i hi
      obtain rfl : i = n := by omega
      refine Ev.step (f := fun k => spec_l13Parts.l1 k ((2 ^ l.length - 1 : Nat) : Int) (idL i) true l (l.length : Int) ((0 : Nat) : Int)) (fun k => ?_) h
      simp only [spec_l13Parts.l0]
      rw [if_neg (by omega)]
      rfl
    | succ m ih =>
      intro i hi
      refine Ev.step (f := fun k => spec_l13Parts.l0 k (n : Int) l ((2 ^ l.length - 1 : Nat) : Int) (idL (i + 1)) ((i + 1 : Nat) : Int)) (fun k => ?_) (ih (i + 1) (by omega))
      simp only [spec_l13Parts.l0]
      rw [if_pos (by omega), if_pos (by rw [idL_len]; omega), w64 (by omega) (by omega), idL_succ]
      rfl
  exact go n 0 (by omega)
end Go.Proofs.Ytcdajmbnijmdfaa.PA
/- numbers put in -/
namespace Go.Proofs.Ytcdajmbnijmdfaa.PA
open Go.RowKit Go.Proofs.YtcdajmbnijmdfaaW.PrintWords Go.Proofs.YtcdajmbnijmdfaaW.PrintLast Go.Proofs.YtcdajmbnijmdfaaW.PrintMore
set_option linter.unusedVariables false
set_option linter.unusedSimpArgs false
theorem big_ok (n : Nat) (h : n ≤ 8192) : n < 17592186044416 := by omega
/-- r is l with x in it, ascending. -/
def Into (l : List Int) (x : Int) (r : List Int) : Prop := r.Pairwise (· < ·) ∧ (∀ y, y ∈ r ↔ y = x ∨ y ∈ l) ∧ r.length ≤ l.length + 1
theorem into_at {l : List Int} {x : Int} {i : Nat} (hs : l.Pairwise (· < ·)) (h1 : ∀ y ∈ l.take i, y < x) (h2 : ∀ y ∈ l.drop i, x < y) : Into l x (([] ++ l.take i) ++ [x] ++ l.drop i) := by
  have hs' : (l.take i ++ l.drop i).Pairwise (· < ·) := by rw [List.take_append_drop]; exact hs
  obtain ⟨a1, a2, a3⟩ := List.pairwise_append.1 hs'
  have hm : ∀ y, y ∈ l ↔ y ∈ l.take i ∨ y ∈ l.drop i := fun y => by rw [← List.mem_append, List.take_append_drop]
  refine ⟨?_, fun y => ?_, ?_⟩
  · rw [List.nil_append, List.append_assoc, List.pairwise_append]
    refine ⟨a1, ?_, ?_⟩
    · rw [List.singleton_append, List.pairwise_cons]
      exact ⟨h2, a2⟩
    · intro a ha b hb
      rw [List.singleton_append, List.mem_cons] at hb
      rcases hb with rfl | hb
      · exact h1 a ha
      · exact a3 a ha b hb
  · rw [hm y]
    simp only [List.nil_append, List.mem_append, List.mem_singleton]
    constructor
    · rintro ((h | h) | h)
      · exact .inr (.inl h)
      · exact .inl h
      · exact .inr (.inr h)
    · rintro (h | h | h)
      · exact .inl (.inr h)
      · exact .inl (.inl h)
      · exact .inr h
  · simp only [List.nil_append, List.length_append, List.length_cons, List.length_nil, List.length_take, List.length_drop]
    omega
theorem ins_put (l : List Int) (x : Int) (i : Nat) (hi : i ≤ l.length) (hl : l.length ≤ 4096) : ((some (([] : List Int) : List Int)).bind fun y226 => (if 0 ≤ (i : Int) then (if (i : Int) ≤ (l.length : Int) then ((some (l.take (i : Int).toNat : List Int)).bind fun y229 => (if y226.length + y229.length < 17592186044416 then ((some (y226 ++ y229 : List Int)).bind fun y233 => (if y233.length < 17592186044416 then ((some (y233 ++ [x] : List Int)).bind fun y236 => ((some (l.drop (i : Int).toNat : List Int)).bind fun y239 => (if y236.length + y239.length < 17592186044416 then (some (y236 ++ y239)) else (none)))) else (none))) else (none))) else (none)) else (none))) = some (([] ++ l.take i) ++ [x] ++ l.drop i) := by
  have e1 : (l.take i).length = i := by rw [List.length_take]; omega
  have e2 : (l.drop i).length = l.length - i := List.length_drop
  rw [Option.bind_some, if_pos (by omega), if_pos (by omega), Int.toNat_natCast, Option.bind_some]
  rw [if_pos (big_ok _ (by rw [e1, List.length_nil]; omega)), Option.bind_some]
  rw [if_pos (big_ok _ (by rw [List.nil_append, e1]; omega)), Option.bind_some, Option.bind_some]
  rw [if_pos (big_ok _ (by rw [List.length_append, List.nil_append, e1, e2, List.length_singleton]; omega))]
theorem ins_l (l : List Int) (x : Int) (hs : l.Pairwise (· < ·)) (hl : l.length ≤ 4096) : ∀ i : Nat, i ≤ l.length → (∀ y ∈ l.drop i, x < y) → ∃ r, Ev (fun k => spec_l17Insert.l0 k l x (i : Int)) r ∧ Into l x r := by
  intro i
  induction i with
  | zero =>
    intro hi hd
    refine ⟨_, Ev.step (f := fun _ => some (([] ++ l.take 0) ++ [x] ++ l.drop 0)) (fun k => ?_) (Ev.now _), into_at hs (by simp) hd⟩
    rw [spec_l17Insert.l0, if_neg (by omega)]
    exact ins_put l x 0 (by omega) hl
  | succ i ih =>
    intro hi hd
    have hw : wrap64 (((i + 1 : Nat) : Int) - 1) = (i : Int) := by rw [show (((i + 1 : Nat) : Int) - 1) = (i : Int) by omega]; exact w64 (by omega) (by omega)
    have hg : rd l (i : Int) = l[i] := rd_get (by omega)
    have hdr : l.drop i = l[i] :: l.drop (i + 1) := List.drop_eq_getElem_cons (by omega)
    by_cases c1 : l[i] > x
    · obtain ⟨r, h1, h2⟩ := ih (by omega) (by
        rw [hdr]
        intro y hy
        rcases List.mem_cons.1 hy with rfl | hy
        · exact c1
        · exact hd y hy)
      refine ⟨r, Ev.step (f := fun k => spec_l17Insert.l0 k l x (i : Int)) (fun k => ?_) h1, h2⟩
      rw [spec_l17Insert.l0, if_pos (by omega), hw, if_pos (by omega), if_pos (by omega), hg, if_pos c1]
    by_cases c2 : l[i] = x
    · refine ⟨l, Ev.step (f := fun _ => some l) (fun k => ?_) (Ev.now _), hs, fun y => ?_, by omega⟩
      · rw [spec_l17Insert.l0, if_pos (by omega), hw, if_pos (by omega), if_pos (by omega), hg, if_neg c1, if_pos c2]
      · constructor
        · exact .inr
        · rintro (rfl | h)
          · rw [← c2]; exact List.getElem_mem _
          · exact h
    · refine ⟨_, Ev.step (f := fun _ => some (([] ++ l.take (i + 1)) ++ [x] ++ l.drop (i + 1))) (fun k => ?_) (Ev.now _), into_at hs ?_ hd⟩
      · rw [spec_l17Insert.l0, if_pos (by omega), hw, if_pos (by omega), if_pos (by omega), hg, if_neg c1, if_neg c2]
        exact ins_put l x (i + 1) (by omega) hl
      · intro y hy
        have hp : (l.take i ++ l.drop i).Pairwise (· < ·) := by rw [List.take_append_drop]; exact hs
        have h3 := (List.pairwise_append.1 hp).2.2
        rw [take_step (by omega)] at hy
        rcases List.mem_append.1 hy with hy | hy
        · have hin : l[i] ∈ l.drop i := by rw [hdr]; exact List.mem_cons_self
          have := h3 y hy l[i] hin
          omega
        · have := List.mem_singleton.1 hy
          omega
theorem ins_ev (l : List Int) (x : Int) (hs : l.Pairwise (· < ·)) (hl : l.length ≤ 4096) : ∃ r, Ev (fun k => spec_l17Insert.f k l x) r ∧ Into l x r :=
  ins_l l x hs hl l.length (Nat.le_refl _) (by simp)
end Go.Proofs.Ytcdajmbnijmdfaa.PA
/- StrokesNeeded, LineParts: both texts. -/
namespace Go.Proofs.Ytcdajmbnijmdfaa.PA
open Go.RowKit Go.Proofs.YtcdajmbnijmdfaaW.PrintWords Go.Proofs.YtcdajmbnijmdfaaW.PrintLast Go.Proofs.YtcdajmbnijmdfaaW.PrintMore
set_option linter.unusedVariables false
set_option linter.unusedSimpArgs false
def oddR (G d : List Int) (g : Int) : Nat → Int
  | 0 => 0
  | t + 1 => oddR G d g t + (if G.getD t 0 = g ∧ 0 < d.getD t 0 then d.getD t 0 % 2 else 0)
def someR (G d : List Int) (g : Int) : Nat → Bool
  | 0 => false
  | t + 1 => someR G d g t || decide (G.getD t 0 = g ∧ 0 < d.getD t 0)
theorem oddR_bd (G d : List Int) (g : Int) : ∀ t : Nat, 0 ≤ oddR G d g t ∧ oddR G d g t ≤ (t : Int) := by
  intro t
  induction t with
  | zero => simp [oddR]
  | succ t ih => simp only [oddR]; split <;> omega
theorem someR_iff (G d : List Int) (g : Int) : ∀ t : Nat, someR G d g t = true ↔ ∃ i, i < t ∧ G.getD i 0 = g ∧ 0 < d.getD i 0 := by
  intro t
  induction t with
  | zero => simp [someR]
  | succ t ih =>
    simp only [someR]
    rw [Bool.or_eq_true, ih, decide_eq_true_iff]
    constructor
    · rintro (⟨i, h1, h2⟩ | h)
      · exact ⟨i, by omega, h2⟩
      · exact ⟨t, by omega, h⟩
    · rintro ⟨i, h1, h2⟩
      by_cases c : i = t
      · subst c; exact .inr h2
      · exact .inl ⟨i, by omega, h2⟩
/-- The points that have lines. -/
def lined (d : List Int) (n : Nat) : List Nat := (List.range n).filter fun i => decide (0 < d.getD i 0)
theorem mem_lined {d : List Int} {n i : Nat} : i ∈ lined d n ↔ i < n ∧ 0 < d.getD i 0 := by
  unfold lined
  rw [List.mem_filter, List.mem_range, decide_eq_true_iff]
theorem someR_mem (G d : List Int) (g : Int) (n : Nat) : someR G d g n = true ↔ g ∈ (lined d n).map fun i => G.getD i 0 := by
  rw [someR_iff, List.mem_map]
  constructor
  · rintro ⟨i, h1, h2, h3⟩
    exact ⟨i, mem_lined.2 ⟨h1, h3⟩, h2⟩
  · rintro ⟨i, h1, h2⟩
    obtain ⟨h3, h4⟩ := mem_lined.1 h1
    exact ⟨i, h3, h2, h4⟩
theorem oddR_same {n : Nat} {G P d : List Int} (h : SameParts n G P) {i : Nat} (hi : i < n) : ∀ t : Nat, t ≤ n → oddR G d (G.getD i 0) t = oddR P d (P.getD i 0) t := by
  intro t
  induction t with
  | zero => intro _; rfl
  | succ t ih =>
    intro ht
    simp only [oddR]
    rw [ih (by omega)]
    have e := h.iff t i (by omega) hi
    by_cases c : G.getD t 0 = G.getD i 0 ∧ 0 < d.getD t 0
    · rw [if_pos c, if_pos ⟨e.1 c.1, c.2⟩]
    · rw [if_neg c, if_neg (fun z => c ⟨e.2 z.1, z.2⟩)]
/-- The sum of F over the parts' numbers of odd points. -/
def partSum (F : Int → Int) (G d : List Int) (n : Nat) : Int := rsum (fun g => if someR G d (g : Int) n = true then F (oddR G d (g : Int) n) else 0) n
theorem partSum_dsum {n : Nat} (F : Int → Int) (G d : List Int) (hl : G.length = n) (hb : ∀ x ∈ G, 0 ≤ x ∧ x < (n : Int)) : partSum F G d n = dsum (fun g => F (oddR G d g n)) ((lined d n).map fun i => G.getD i 0) := by
  unfold partSum
  rw [← dsum_range (fun g => F (oddR G d g n)) n]
  · refine rsum_congr (fun g _ => ?_)
    by_cases c : someR G d (g : Int) n = true
    · rw [if_pos c, if_pos ((someR_mem G d g n).1 c)]
    · rw [if_neg c, if_neg (fun z => c ((someR_mem G d g n).2 z))]
  · intro x hx
    obtain ⟨i, hi, rfl⟩ := List.mem_map.1 hx
    exact hb _ (mem_getD (by rw [hl]; exact (mem_lined.1 hi).1))
theorem partSum_same {n : Nat} {G P : List Int} (F : Int → Int) (d : List Int) (h : SameParts n G P) : partSum F G d n = partSum F P d n := by
  rw [partSum_dsum F G d h.lg h.bg, partSum_dsum F P d h.lp h.bp]
  exact dsum_congr (fun i => G.getD i 0) (fun i => P.getD i 0) _ _ (lined d n) (fun i hi j hj => h.iff i j (mem_lined.1 hi).1 (mem_lined.1 hj).1) (fun i hi => by rw [oddR_same h (mem_lined.1 hi).1 n (Nat.le_refl _)])
/-- The list that lineParts gives. -/
def oddsOf (G d : List Int) (n : Nat) : Nat → List Int
  | 0 => []
  | g + 1 => oddsOf G d n g ++ (if someR G d (g : Int) n = true then [oddR G d (g : Int) n] else [])
theorem oddsOf_len (G d : List Int) (n : Nat) : ∀ g, (oddsOf G d n g).length ≤ g := by
  intro g
  induction g with
  | zero => simp [oddsOf]
  | succ g ih => simp only [oddsOf]; split <;> simp <;> omega
theorem oddsOf_sum (F : Int → Int) (G d : List Int) (n : Nat) : ∀ g, ((oddsOf G d n g).map F).sum = rsum (fun g => if someR G d (g : Int) n = true then F (oddR G d (g : Int) n) else 0) g := by
  intro g
  induction g with
  | zero => rfl
  | succ g ih =>
    simp only [oddsOf, rsum]
    rw [List.map_append, List.sum_append, ih]
    split <;> simp
theorem tmod2 {x : Int} (h : 0 ≤ x) : Int.tmod x 2 = x % 2 := Int.tmod_eq_emod_of_nonneg h
theorem impl_lp_1 {n : Nat} (G d : List Int) (out : List Int) (g : Nat) (hn : n ≤ 8) (hg : G.length = n) (hd : d.length = n) (hdb : ∀ x ∈ d, 0 ≤ x ∧ x ≤ 24) (hgn : g < n) (ho : out.length ≤ g) (R : List Int)
    (hr : Ev (fun k => impl_lineParts.l0 k G d (out ++ (if someR G d (g : Int) n = true then [oddR G d (g : Int) n] else [])) (n : Int) ((g + 1 : Nat) : Int)) R) : ∀ (m t : Nat), t + m = n →
    Ev (fun k => impl_lineParts.l1 k G d out (g : Int) (oddR G d (g : Int) t) (someR G d (g : Int) t) (n : Int) (g : Int) G (G.length : Int) (t : Int)) R := by
  intro m
  induction m with
  | zero =>
    intro t ht
    obtain rfl : t = n := by omega
    by_cases c : someR G d (g : Int) t = true
    · rw [if_pos c] at hr
      refine Ev.step (f := fun k => impl_lineParts.l0 k G d (out ++ [oddR G d (g : Int) t]) (t : Int) ((g + 1 : Nat) : Int)) (fun k => ?_) hr
      simp only [impl_lineParts.l1]
      rw [if_neg (by omega), if_pos c, if_pos (by omega), w64 (by omega) (by omega)]
      rfl
    · rw [if_neg c, List.append_nil] at hr
      refine Ev.step (f := fun k => impl_lineParts.l0 k G d out (t : Int) ((g + 1 : Nat) : Int)) (fun k => ?_) hr
      simp only [impl_lineParts.l1]
      rw [if_neg (by omega), if_neg c, w64 (by omega) (by omega)]
      rfl
  | succ m ih =>
    intro t ht
    have hlt : t < G.length := by omega
    have ho2 := oddR_bd G d (g : Int) t
    have hdt := hdb _ (mem_getD (G := d) (i := t) (by omega))
    refine Ev.step (f := fun k => impl_lineParts.l1 k G d out (g : Int) (oddR G d (g : Int) (t + 1)) (someR G d (g : Int) (t + 1)) (n : Int) (g : Int) G (G.length : Int) ((t + 1 : Nat) : Int)) (fun k => ?_) (ih (t + 1) (by omega))
    simp only [impl_lineParts.l1, oddR, someR]
    rw [if_pos (by omega), if_pos (by omega), if_pos (by omega), rd_getD, rd_getD]
    by_cases c1 : G.getD t 0 = (g : Int)
    · rw [if_pos c1, if_pos (by omega)]
      by_cases c2 : d.getD t 0 > 0
      · rw [if_pos c2, if_pos ⟨c1, c2⟩, decide_eq_true (⟨c1, c2⟩ : G.getD t 0 = (g : Int) ∧ 0 < d.getD t 0), Bool.or_true, tmod2 (by omega), w64 (by omega) (by omega), w64 (by omega) (by omega)]
        rfl
      · rw [if_neg c2, if_neg (fun z => c2 z.2), decide_eq_false (fun z : G.getD t 0 = (g : Int) ∧ 0 < d.getD t 0 => c2 z.2), Bool.or_false, w64 (by omega) (by omega), Int.add_zero]
        rfl
    · rw [if_neg c1, if_neg (fun z => c1 z.1), decide_eq_false (fun z : G.getD t 0 = (g : Int) ∧ 0 < d.getD t 0 => c1 z.1), Bool.or_false, w64 (by omega) (by omega), Int.add_zero]
      rfl
theorem impl_lp_0 {n : Nat} (G d : List Int) (hn : n ≤ 8) (hg : G.length = n) (hd : d.length = n) (hdb : ∀ x ∈ d, 0 ≤ x ∧ x ≤ 24) : ∀ (m g : Nat), g + m = n →
    Ev (fun k => impl_lineParts.l0 k G d (oddsOf G d n g) (n : Int) (g : Int)) (oddsOf G d n n) := by
  intro m
  induction m with
  | zero =>
    intro g hgm
    obtain rfl : g = n := by omega
    refine Ev.step (f := fun _ => some (oddsOf G d g g)) (fun k => ?_) (Ev.now _)
    simp only [impl_lineParts.l0]
    rw [if_neg (by omega)]
  | succ m ih =>
    intro g hgm
    have h := impl_lp_1 G d (oddsOf G d n g) g hn hg hd hdb (by omega) (oddsOf_len G d n g) (oddsOf G d n n) (ih (g + 1) (by omega)) n 0 (by omega)
    refine Ev.step (f := fun k => impl_lineParts.l1 k G d (oddsOf G d n g) (g : Int) 0 false (n : Int) (g : Int) G (G.length : Int) ((0 : Nat) : Int)) (fun k => ?_) h
    simp only [impl_lineParts.l0]
    rw [if_pos (by omega)]
    rfl
theorem impl_lineParts_ev {n : Nat} (l : List (List Int)) (hn : n ≤ 8) (hl : l.length ≤ 12) (hr : ∀ r ∈ l, LineOk n r) : Ev (fun k => impl_lineParts.f k (n : Int) l) (oddsOf (joinG l (idL n)) (degs n l) n n) := by
  unfold impl_lineParts.f
  obtain ⟨b, hb⟩ := impl_joined_ev l hn hl hr
  have hs := join_same l _ _ hr (same_start n)
  have hd := degs_bd n l
  refine Ev.bind hb (Ev.bind (impl_deg_ev l hn hl hr) ?_)
  exact impl_lp_0 _ _ hn hs.lg (degs_len n l) (fun x hx => by have := hd x hx; omega) n 0 (by omega)
def lineN (F : Int → Int) (n : Int) (l : List (List Int)) : Int := if drawOk n l = true then partSum F (joinG l (idL n.toNat)) (degs n.toNat l) n.toNat else -1
theorem draw_nat {n : Int} {l : List (List Int)} (c : drawOk n l = true) : ∃ m : Nat, n = (m : Int) := by
  have h := drawOk_iff.1 c
  exact ⟨n.toNat, by omega⟩
theorem impl_LineParts_ev (n : Int) (l : List (List Int)) : Ev (fun k => impl_LineParts.f k n l) (lineN (fun _ => 1) n l) := by
  unfold impl_LineParts.f lineN
  refine Ev.bind (impl_IsDrawing_ev n l) ?_
  by_cases c : drawOk n l = true
  · rw [if_pos c]
    obtain ⟨m, rfl⟩ := draw_nat c
    obtain ⟨h1, h2, h3, h4⟩ := drawOk_lines c
    refine Ev.congr (fun k => if_pos c) (Ev.bind (impl_lineParts_ev l h2 h3 h4) ?_)
    rw [Int.toNat_natCast]
    refine ev_eq (Ev.now _) ?_
    have := oddsOf_sum (fun _ => 1) (joinG l (idL m)) (degs m l) m m
    unfold partSum
    rw [← this]
    generalize oddsOf (joinG l (idL m)) (degs m l) m m = xs
    induction xs with
    | nil => rfl
    | cons x xs ih => simp only [List.length_cons, List.map_cons, List.sum_cons]; omega
  · rw [if_neg c]
    exact Ev.congr (fun k => if_neg c) (Ev.now _)
theorem spec_lp_l {n : Nat} (P d : List Int) (hn : n ≤ 8) (hg : P.length = n) (hd : d.length = n) : ∀ (m t : Nat) (seen : List Int), t + m = n → seen.Pairwise (· < ·) → seen.length ≤ t → (∀ y, y ∈ seen ↔ ∃ i, i < t ∧ P.getD i 0 = y ∧ 0 < d.getD i 0) →
    Ev (fun k => spec_LineParts.l0 k d seen P (P.length : Int) (t : Int)) (dsum (fun _ => 1) ((lined d n).map fun i => P.getD i 0)) := by
  intro m
  induction m with
  | zero =>
    intro t seen ht hs hl hm
    obtain rfl : t = n := by omega
    have e := dsum_len ((lined d t).map fun i => P.getD i 0) seen (hs.imp (fun h => by omega)) (fun y => by
      rw [hm y, List.mem_map]
      constructor
      · rintro ⟨i, a, b, c⟩; exact ⟨i, mem_lined.2 ⟨a, c⟩, b⟩
      · rintro ⟨i, a, b⟩; obtain ⟨c1, c2⟩ := mem_lined.1 a; exact ⟨i, c1, b, c2⟩)
    rw [← e]
    refine Ev.step (f := fun _ => some (seen.length : Int)) (fun k => ?_) (Ev.now _)
    simp only [spec_LineParts.l0]
    rw [if_neg (by omega)]
  | succ m ih =>
    intro t seen ht hs hl hm
    have hlt : t < P.length := by omega
    by_cases c2 : d.getD t 0 > 0
    · obtain ⟨r, hr, h1, h2, h3⟩ := ins_ev seen (P.getD t 0) hs (by omega)
      refine Ev.step (f := fun k => (spec_l17Insert.f k seen (P.getD t 0)).bind fun s => spec_LineParts.l0 k d s P (P.length : Int) ((t + 1 : Nat) : Int)) (fun k => ?_) (Ev.bind hr (ih (t + 1) r (by omega) h1 (by omega) (fun y => ?_)))
      · simp only [spec_LineParts.l0]
        rw [if_pos (by omega), if_pos (by omega), if_pos (by omega), if_pos (by omega), rd_getD, rd_getD, if_pos c2, w64 (by omega) (by omega)]
        rfl
      · rw [h2 y, hm y]
        constructor
        · rintro (rfl | ⟨i, a, b⟩)
          · exact ⟨t, by omega, rfl, c2⟩
          · exact ⟨i, by omega, b⟩
        · rintro ⟨i, a, b, c⟩
          by_cases e : i = t
          · subst e; exact .inl b.symm
          · exact .inr ⟨i, by omega, b, c⟩
    · refine Ev.step (f := fun k => spec_LineParts.l0 k d seen P (P.length : Int) ((t + 1 : Nat) : Int)) (fun k => ?_) (ih (t + 1) seen (by omega) hs (by omega) (fun y => ?_))
      · simp only [spec_LineParts.l0]
        rw [if_pos (by omega), if_pos (by omega), if_pos (by omega), if_pos (by omega), rd_getD, if_neg c2, w64 (by omega) (by omega)]
        rfl
      · rw [hm y]
        constructor
        · rintro ⟨i, a, b⟩; exact ⟨i, by omega, b⟩
        · rintro ⟨i, a, b, c⟩
          by_cases e : i = t
          · subst e; exact absurd c c2
          · exact ⟨i, by omega, b, c⟩
theorem spec_LineParts_ev (n : Int) (l : List (List Int)) : Ev (fun k => spec_LineParts.f k n l) (lineN (fun _ => 1) n l) := by
  unfold spec_LineParts.f lineN
  refine Ev.bind (spec_IsDrawing_ev n l) ?_
  by_cases c : drawOk n l = true
  · rw [if_pos c]
    obtain ⟨m, rfl⟩ := draw_nat c
    obtain ⟨h1, h2, h3, h4⟩ := drawOk_lines c
    obtain ⟨b, hb⟩ := spec_parts_ev l h2 h3 h4
    have hs := join_same l _ _ h4 (same_start m)
    refine Ev.congr (fun k => if_pos c) (Ev.bind hb (Ev.bind (spec_deg_ev l h2 h3 h4) ?_))
    rw [Int.toNat_natCast, partSum_same _ _ hs, partSum_dsum _ _ _ hs.lp hs.bp]
    exact spec_lp_l _ _ h2 hs.lp (degs_len m l) m 0 [] (by omega) List.Pairwise.nil (by simp) (fun y => by simp)
  · rw [if_neg c]
    exact Ev.congr (fun k => if_neg c) (Ev.now _)
end Go.Proofs.Ytcdajmbnijmdfaa.PA
/- What the contracts ask of a slice of slices that comes in. -/
namespace Go.Proofs.Ytcdajmbnijmdfaa.PA
open Go.RowKit Go.Proofs.YtcdajmbnijmdfaaW.PrintWords Go.Proofs.YtcdajmbnijmdfaaW.PrintLast Go.Proofs.YtcdajmbnijmdfaaW.PrintMore
set_option linter.unusedVariables false
set_option linter.unusedSimpArgs false
open Go.ChangeShapes Go.WideShapes Go.Deep in
theorem rows_open {H : Type} {enc : TypeId × Value → H} {P : Program} {w : World} {base : Nat} {held : Bool} {t e q : TypeId} {k : IntKind} {fuel : Nat} {cs : List Value} {x : DataW H × List MemPlace} {a : Option Addr} {len cap : Nat}
    (ht : P.underlying t = some (.slice e)) (he : P.underlying e = some (.slice q)) (hq : P.underlying q = some (.int k))
    (ce : P.cellsOf e = 1) (cq : P.cellsOf q = 1) (h : DataW.trod enc P w base (fun _ => true) held fuel t cs = some x) (hcs : cs = [.slice a len cap]) :
    ∃ l : List (List Int), l.length = len ∧ len ≤ cap ∧ Kd.C (Kd.slice q (Kd.int k)) w a len l ∧ ∀ r ∈ l, ∀ n ∈ r, (Lit.int k n).wf = true := by
  rcases open_int_rows ht he hq ce cq h with ⟨h0, _⟩ | ⟨a', len', cap', A, L, C, Z, h0, _, hl, hm, _, hrows⟩
  · rw [hcs] at h0
    simp at h0
    obtain ⟨rfl, rfl, rfl⟩ := h0
    exact ⟨[], rfl, Nat.le_refl _, ⟨rfl, by omega, fun hh => absurd hh (by omega)⟩, by simp⟩
  · rw [hcs] at h0
    simp at h0
    obtain ⟨rfl, rfl, rfl⟩ := h0
    have hM : maxLen = 9223372036854775807 := rfl
    refine ⟨(List.range len).map fun r => (Z r).take (L r), by simp, hl, ⟨by simp, by omega, fun _ => ⟨a', rfl, fun j p hj => ?_⟩⟩, fun r hr n hn => ?_⟩
    · obtain ⟨hj1, hj2⟩ := List.getElem?_eq_some_iff.1 hj
      have hjl : j < len := by simpa using hj1
      obtain ⟨hc, h1, h2, h3, h4, h5, h6⟩ := hrows j (by omega)
      have hp : p = (Z j).take (L j) := by simpa using hj2.symm
      have hpl : p.length = L j := by rw [hp, List.length_take]; omega
      refine ⟨[.slice (A j) (L j) (C j)], rfl, ⟨A j, C j, by rw [hpl], by omega, ⟨rfl, by omega, fun hp0 => ?_⟩⟩, fun i u hu => ?_⟩
      · cases hA : A j with
        | none => have := h5 hA; omega
        | some b =>
          obtain ⟨_, hcell⟩ := h6 b hA
          refine ⟨b, rfl, fun i y hy => ⟨[.int k y], rfl, rfl, fun i' u hu => ?_⟩⟩
          obtain ⟨hi1, hi2⟩ := List.getElem?_eq_some_iff.1 hy
          cases i' with
          | succ i' => simp at hu
          | zero =>
            simp at hu
            subst hu
            have hz := hcell i (by omega)
            simp only [Kd.int, Kd.scalar, Nat.mul_one, Nat.add_zero]
            rw [hz]
            subst hp
            rw [List.getElem_take] at hi2
            rw [List.getD_eq_getElem?_getD, List.getElem?_eq_getElem (by omega), Option.getD_some, hi2]
      · cases i with
        | succ i => simp at hu
        | zero =>
          simp at hu
          subst hu
          simp only [Kd.slice, Nat.mul_one, Nat.add_zero]
          exact hc
    · obtain ⟨j, hj, rfl⟩ := List.mem_map.1 hr
      obtain ⟨_, _, _, _, h4, _⟩ := hrows j (by have := List.mem_range.1 hj; omega)
      exact h4 n (List.mem_of_mem_take hn)
/-- Each row of what came in has a length that an int holds. -/
theorem rows_len {w : World} {A : Option Addr} {n q : Nat} {k : IntKind} {l : List (List Int)} (h : Kd.C (Kd.slice q (Kd.int k)) w A n l) : l.length ≤ 9223372036854775807 ∧ ∀ r ∈ l, r.length ≤ 9223372036854775807 := by
  obtain ⟨h1, h2, h3⟩ := h
  refine ⟨by omega, fun r hr => ?_⟩
  obtain ⟨j, hj, rfl⟩ := List.getElem_of_mem hr
  obtain ⟨ad, _, hc⟩ := h3 (by omega)
  obtain ⟨c, _, ⟨A', c', _, _, hC⟩, _⟩ := hc j _ (List.getElem?_eq_getElem hj)
  exact hC.2.1
end Go.Proofs.Ytcdajmbnijmdfaa.PA
/- The program's LineParts returns what the reference's returns, for all arguments; no condition. -/
namespace Go.Proofs.Ytcdajmbnijmdfaa.PA
open Go.RowKit Go.Proofs.YtcdajmbnijmdfaaW.PrintWords
def laws_FnExactLineParts.Pure : Prop := ∀ (a0 : Int) (l1 : List (List Int)), (Lit.int .i64 a0).wf = true → l1.length ≤ 9223372036854775807 → (∀ r ∈ l1, r.length ≤ 9223372036854775807) → (∀ r ∈ l1, ∀ x ∈ r, (Lit.int .i64 x).wf = true) → ∃ k, laws_FnExactLineParts.f k a0 l1 = some true
end Go.Proofs.Ytcdajmbnijmdfaa.PA
namespace Go.Proofs.Ytcdajmbnijmdfaa.Pure
open Go.RowKit Go.Proofs.Ytcdajmbnijmdfaa.PA Go.Proofs.YtcdajmbnijmdfaaW.PrintWords Go.Proofs.YtcdajmbnijmdfaaW.PrintLast Go.Proofs.YtcdajmbnijmdfaaW.PrintMore
set_option linter.unusedVariables false
set_option linter.unusedSimpArgs false
theorem FnExactLineParts : laws_FnExactLineParts.Pure := by
  intro n l _ hl hr _
  refine Ev.rounds (g := fun k => laws_FnExactLineParts.f k n l) ?_
  unfold laws_FnExactLineParts.f
  obtain ⟨s, hs, hd⟩ := szIntSS_ev l hl hr
  refine Ev.bind hs ?_
  by_cases c : s < 0
  · exact Ev.congr (fun k => if_pos c) (Ev.now _)
  refine Ev.congr (fun k => if_neg c) ?_
  obtain ⟨h1, h2⟩ : l.length ≤ 1048576 ∧ ∀ x ∈ l, x.length ≤ 1048576 := by
    rcases hd with hd | hd
    · exact absurd hd c
    · exact hd
  refine Ev.bind (toIntSS_ev l h1 h2) ?_
  refine Ev.bind (spec_LineParts_ev n l) ?_
  refine Ev.bind (toIntSS_ev l h1 h2) ?_
  refine Ev.bind (impl_LineParts_ev n l) ?_
  refine Ev.congr (fun k => if_pos rfl) ?_
  refine Ev.bind (toIntSS_ev l h1 h2) ?_
  refine Ev.bind (eqIntSS_ev l l (by omega) (fun x hx => by have := h2 x hx; omega)) ?_
  exact ev_const (if_pos (by simp))
end Go.Proofs.Ytcdajmbnijmdfaa.Pure
/- The row of the law FnExactLineParts: for every input it answers true and its arguments read as before. No condition. Written by a program of this session's (rowgen.py) in the form of the kit's print. -/
namespace Go.Proofs.Ytcdajmbnijmdfaa.fnExactLineParts
open Go.ChangeShapes Go.WideShapes Go.ChangeAt Go.RowKit Go.Proofs.YtcdajmbnijmdfaaW.PrintWords
open Go.ChangeMaps (open_string shut_string)
set_option linter.unusedVariables false
theorem own : ownKnob Try.prog.godebug = none := by kernel_rfl
theorem laidOut : laidOutB Try.prog = true := by kernel_rfl
def IsRow (k : IntKind) (w : World) (a : Option Addr) (len cap : Nat) (zs : List Int) : Prop :=
  (a = none ∧ len = 0 ∧ cap = 0 ∧ zs = []) ∨
  ∃ x, a = some x ∧ len ≤ cap ∧ cap ≤ maxLen ∧ zs.length = cap ∧ (∀ i, i < zs.length → w.cell? (x.add i) = some (.int k (zs.getD i 0))) ∧ ∀ n ∈ zs, (Lit.int k n).wf = true
set_option maxRecDepth 100000 in
theorem lifted (os : Os) (started : os.Started) (H : Type) (enc : TypeId × Value → H) :
    ReturnsInHanded {} Try.checked os 11 .any (Rows.fnExactLinePartsSpec.pre6 enc Try.prog Try.f11 Rows.fnExactLinePartsRow.domain false) (Rows.fnExactLinePartsSpec.post enc Try.prog Try.f11 false true false false) := by
  refine returnsInHanded_of_change_sized (C := Try.checked) own started (by kernel_rfl) Try.func11
    (ChangeSpec.witness6 (enc := enc) (C := Try.checked) false ⟨#[], #[.int .i64 0, .slice none 0 0], []⟩ 8 (by kernel_rfl) (by kernel_rfl) (by kernel_rfl) (by kernel_rfl)) ?_
  intro W base args ds gs before hval0 hW hcnd hsz0 _
  have hval : ∀ (j : Nat) t v, Try.f11.params[j]? = some t → args[j]? = some v → Value.okWide Try.prog W .any base t v := hval0
  have hW' := hW
  obtain ⟨p, q, hA0, hV, rfl, hfz, hnd⟩ := hW
  have hA : DataW.TrodAll enc Try.prog W 0 (fun _ => true) true Try.f11.params.toList args.toList ds p := hA0
  rw [Try.params11] at hA hval
  obtain ⟨v0, vs0, d0, ds0, p0, q0, hargs, rfl, rfl, h0, r0⟩ := trodAll_cons hA
  obtain ⟨v1, vs1, d1, ds1, p1, q1, rfl, rfl, rfl, h1, r1⟩ := trodAll_cons r0
  obtain ⟨rfl, rfl, rfl⟩ := trodAll_nil r1
  obtain rfl : args = #[v0, v1] := by cases args; simp_all
  obtain ⟨rfl, rfl⟩ := trodVars_none hV
  obtain ⟨a0, rfl, rfl, rfl, w0⟩ := open_int Try.underlying3 (hval 0 3 v0 rfl rfl) h0
  obtain ⟨b1, len1, cap1, rfl⟩ := okWide_slice Try.underlying22 (hval 1 22 v1 rfl rfl)
  have k1 := h1
  have lt1 : ∀ x ∈ p1, x.block < W.heap.size := by obtain ⟨m, hm⟩ := k1; exact DataW.trod_lt m _ _ _ hm
  obtain ⟨l1, hl1, hc1, hr1, hw1⟩ : ∃ l : List (List Int), l.length = len1 ∧ len1 ≤ cap1 ∧ Kd.C (Kd.slice 3 (Kd.int .i64)) W b1 len1 l ∧ ∀ r ∈ l, ∀ n ∈ r, (Lit.int .i64 n).wf = true := by
    obtain ⟨fuel, hf⟩ := h1
    exact PA.rows_open Try.underlying22 Try.underlying27 Try.underlying3 (by kernel_rfl) (by kernel_rfl) hf (by simp [Value.cells])
  subst hl1
  clear hA0 hval0 hsz0
  obtain ⟨k, hk⟩ := Pure.FnExactLineParts a0 l1 w0 (PA.rows_len hr1).1 (PA.rows_len hr1).2 hw1
  refine (PA.laws_FnExactLineParts.calls k a0 _ _ l1 true W hr1 hc1 hk).mono fun e W' ⟨he, bel0⟩ => ?_
  have bel : Below W.heap.size W W' := bel0
  subst he
  exact ⟨_, rfl, _, _, _, [], _, [], hW', trodAll_mk1 (shut_bool Try.underlying4 _), (trodAll_cons_mk (shut_int Try.underlying3 w0) (trodAll_cons_mk (Below.trod laidOut (by kernel_rfl) (of_decide_eq_true (by kernel_rfl)) k1 bel lt1) trodAll_mk0)), rfl, bel.frame _, fun h => by cases h⟩
theorem over : Rows.fnExactLinePartsRow.holds Try.pinned (OpenSpec.ofChange Rows.fnExactLinePartsSpec) :=
  OpenClaim.holds_of_wide 11 Try.f11 rfl rfl rfl rfl rfl rfl rfl ⟨rfl, rfl, rfl, rfl, rfl⟩ rfl rfl rfl rfl rfl (by kernel_rfl) Try.func11 (by kernel_rfl)
    (of_decide_eq_true (by kernel_rfl)) (by unfold Func.isWrapper; first | (rw [if_pos (by decide +kernel)]; kernel_rfl) | (rw [if_neg (by decide +kernel)]; exact ⟨rfl, rfl⟩))
    (fun os started H enc _ => lifted os started H enc)
theorem proved : Rows.FnExactLinePartsSaid := over
#print axioms proved
end Go.Proofs.Ytcdajmbnijmdfaa.fnExactLineParts
namespace Go.Proofs.Ytcdajmbnijmdfaa
/-- The row, under a short name, for the claim. -/
theorem fnExactLineParts_holds : Rows.FnExactLinePartsSaid := fnExactLineParts.proved
end Go.Proofs.Ytcdajmbnijmdfaa

/- ClearFor: both texts. -/
import Derived.Test.YtoildabjnioafaaLibAa
import Derived.Test.YtoildabjnioafaaPAx0
import Derived.Test.YtoildabjnioafaaPAx25
import Derived.Test.YtoildabjnioafaaPAx26
namespace Go.Proofs.Ytoildabjnioafaa.PA
open Go.RowKit Go.Proofs.YtoildabjnioafaaW.PrintWords Go.Proofs.YtoildabjnioafaaW.PrintLast Go.Proofs.YtoildabjnioafaaW.PrintMore
set_option linter.unusedVariables false
set_option linter.unusedSimpArgs false

/-! ClearFor -/
theorem allU_all (Q : List Int → Prop) (W H : Nat) (m : Int) (x y v : Nat) (hq : ∀ u, Q (win4 x y v u)) : ∀ (c u : Nat) (acc : List (List Int)), (∀ l ∈ acc, Q l) → ∀ l ∈ allU W H m x y v c u acc, Q l := by
  intro c
  induction c with
  | zero => intro u acc h; exact h
  | succ c ih =>
    intro u acc h
    simp only [allU]
    refine ih (u + 1) _ ?_
    split
    · intro l hl
      rcases List.mem_append.1 hl with h1 | h1
      · exact h l h1
      · rw [List.mem_singleton.1 h1]; exact hq u
    · exact h
theorem allV_all (Q : List Int → Prop) (W H : Nat) (m : Int) (x y : Nat) (hq : ∀ v u, Q (win4 x y v u)) : ∀ (c v : Nat) (acc : List (List Int)), (∀ l ∈ acc, Q l) → ∀ l ∈ allV W H m x y c v acc, Q l := by
  intro c
  induction c with
  | zero => intro u acc h; exact h
  | succ c ih =>
    intro v acc h
    simp only [allV]
    exact ih (v + 1) _ (allU_all Q W H m x y v (hq v) _ _ _ h)
theorem allY_all (Q : List Int → Prop) (W H : Nat) (m : Int) (x : Nat) (hq : ∀ y v u, Q (win4 x y v u)) : ∀ (c y : Nat) (acc : List (List Int)), (∀ l ∈ acc, Q l) → ∀ l ∈ allY W H m x c y acc, Q l := by
  intro c
  induction c with
  | zero => intro u acc h; exact h
  | succ c ih =>
    intro y acc h
    simp only [allY]
    exact ih (y + 1) _ (allV_all Q W H m x y (hq y) _ _ _ h)
theorem allX_all (Q : List Int → Prop) (W H : Nat) (m : Int) (hq : ∀ x y v u, Q (win4 x y v u)) : ∀ (c x : Nat) (acc : List (List Int)), (∀ l ∈ acc, Q l) → ∀ l ∈ allX W H m c x acc, Q l := by
  intro c
  induction c with
  | zero => intro u acc h; exact h
  | succ c ih =>
    intro x acc h
    simp only [allX]
    exact ih (x + 1) _ (allY_all Q W H m x (hq x) _ _ _ h)
theorem allWin_four (w h m : Int) : ∀ l ∈ allWin w h m, l.length = 4 :=
  allX_all (fun l => l.length = 4) _ _ m (fun _ _ _ _ => rfl) _ _ _ (by simp)
theorem rdL_get {l : List (List Int)} {i : Nat} (h : i < l.length) : rd_L1 l (i : Int) = l[i] := by simp [rd_L1, List.getD_eq_getElem?_getD, h]
def clearForL (v u : Int) : List (List Int) → List Int × Bool
  | [] => ([], false)
  | l :: ls => if rd l 2 = v ∧ rd l 3 = u then (l, true) else clearForL v u ls
theorem clearForL_len (v u : Int) : ∀ (ls : List (List Int)), (∀ l ∈ ls, l.length = 4) → (clearForL v u ls).1.length ≤ 4 := by
  intro ls
  induction ls with
  | nil => intro _; simp [clearForL]
  | cons l ls ih =>
    intro h
    simp only [clearForL]
    split
    · simp [h l List.mem_cons_self]
    · exact ih (fun x hx => h x (List.mem_cons_of_mem _ hx))
def clearFor (w h m v u : Int) : List Int × Bool := if shapeOk w h m then clearForL v u (allWin w h m) else ([], false)
theorem clearFor_len (w h m v u : Int) : (clearFor w h m v u).1.length ≤ 4 := by
  unfold clearFor
  split
  · exact clearForL_len v u _ (allWin_four w h m)
  · simp

theorem spec_ClearFor_l (v u : Int) (ls : List (List Int)) (hl : ls.length ≤ 1296) (h4 : ∀ l ∈ ls, l.length = 4) : ∀ (d i : Nat), i + d = ls.length → Ev (fun k => spec_ClearFor.l0 k v u ls (ls.length : Int) (i : Int)) (clearForL v u (ls.drop i)) := by
  intro d
  induction d with
  | zero =>
    intro i hi
    refine Ev.step (f := fun _ => some (clearForL v u (ls.drop i))) (fun k => ?_) (Ev.now _)
    simp only [spec_ClearFor.l0]
    rw [if_neg (by omega), List.drop_of_length_le (by omega)]
    rfl
  | succ d ih =>
    intro i hi
    have hlt : i < ls.length := by omega
    have hf := h4 ls[i] (List.getElem_mem hlt)
    rw [List.drop_eq_getElem_cons hlt]
    simp only [clearForL]
    by_cases c : rd ls[i] 2 = v ∧ rd ls[i] 3 = u
    · rw [if_pos c]
      refine Ev.step (f := fun k => some (ls[i], true)) (fun k => ?_) (Ev.now _)
      simp only [spec_ClearFor.l0]
      rw [if_pos (by omega), if_pos (by omega), if_pos (by omega), rdL_get hlt, if_pos (by omega), if_pos c.1, if_pos (by omega), if_pos c.2]
    · rw [if_neg c]
      refine Ev.step (f := fun k => spec_ClearFor.l0 k v u ls (ls.length : Int) ((i + 1 : Nat) : Int)) (fun k => ?_) (ih (i + 1) (by omega))
      simp only [spec_ClearFor.l0]
      rw [if_pos (by omega), if_pos (by omega), if_pos (by omega), rdL_get hlt, if_pos (by omega), w64 (by omega) (by omega)]
      by_cases c1 : rd ls[i] 2 = v
      · rw [if_pos c1, if_pos (by omega), if_neg (fun z => c ⟨c1, z⟩)]
        rfl
      · rw [if_neg c1]
        rfl
theorem spec_ClearFor_ev (w h m v u : Int) : Ev (fun k => spec_ClearFor.f k w h m v u) (clearFor w h m v u) := by
  unfold spec_ClearFor.f clearFor
  refine Ev.bind (ev_const (spec_ShapeOk_eq w h m)) ?_
  by_cases c : shapeOk w h m = true
  · rw [if_pos c]
    refine Ev.congr (fun k => if_pos c) ?_
    exact Ev.bind (spec_all_ev c) (spec_ClearFor_l v u _ (allWin_len c) (allWin_four w h m) (allWin w h m).length 0 (by omega))
  · rw [if_neg c]
    exact Ev.congr (fun k => if_neg c) (Ev.now _)

theorem impl_ClearFor_l (v u : Int) (ls : List (List Int)) (hl : ls.length ≤ 1296) (h4 : ∀ l ∈ ls, l.length = 4) : ∀ (d i : Nat), i + d = ls.length → Ev (fun k => impl_ClearFor.l0 k v u ls (ls.length : Int) (i : Int)) (clearForL v u (ls.drop i)) := by
  intro d
  induction d with
  | zero =>
    intro i hi
    refine Ev.step (f := fun _ => some (clearForL v u (ls.drop i))) (fun k => ?_) (Ev.now _)
    simp only [impl_ClearFor.l0]
    rw [if_neg (by omega), List.drop_of_length_le (by omega)]
    rfl
  | succ d ih =>
    intro i hi
    have hlt : i < ls.length := by omega
    have hf := h4 ls[i] (List.getElem_mem hlt)
    rw [List.drop_eq_getElem_cons hlt]
    simp only [clearForL]
    by_cases c : rd ls[i] 2 = v ∧ rd ls[i] 3 = u
    · rw [if_pos c]
      refine Ev.step (f := fun k => some (ls[i], true)) (fun k => ?_) (Ev.now _)
      simp only [impl_ClearFor.l0]
      rw [if_pos (by omega), if_pos (by omega), if_pos (by omega), rdL_get hlt, if_pos (by omega), if_pos c.1, if_pos (by omega), if_pos c.2]
    · rw [if_neg c]
      refine Ev.step (f := fun k => impl_ClearFor.l0 k v u ls (ls.length : Int) ((i + 1 : Nat) : Int)) (fun k => ?_) (ih (i + 1) (by omega))
      simp only [impl_ClearFor.l0]
      rw [if_pos (by omega), if_pos (by omega), if_pos (by omega), rdL_get hlt, if_pos (by omega), w64 (by omega) (by omega)]
      by_cases c1 : rd ls[i] 2 = v
      · rw [if_pos c1, if_pos (by omega), if_neg (fun z => c ⟨c1, z⟩)]
        rfl
      · rw [if_neg c1]
        rfl
theorem impl_ClearFor_ev (w h m v u : Int) : Ev (fun k => impl_ClearFor.f k w h m v u) (clearFor w h m v u) := by
  unfold impl_ClearFor.f clearFor
  refine Ev.bind (ev_const (impl_ShapeOk_eq w h m)) ?_
  by_cases c : shapeOk w h m = true
  · rw [if_pos c]
    refine Ev.congr (fun k => if_pos c) ?_
    exact Ev.bind (impl_all_ev c) (impl_ClearFor_l v u _ (allWin_len c) (allWin_four w h m) (allWin w h m).length 0 (by omega))
  · rw [if_neg c]
    exact Ev.congr (fun k => if_neg c) (Ev.now _)

end Go.Proofs.Ytoildabjnioafaa.PA

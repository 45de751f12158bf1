/- one more remnant -/
import Derived.Test.YtebjpafnfmmjeaaLibS
import Derived.Test.YtebjpafnfmmjeaaLibT
import Derived.Test.YtebjpafnfmmjeaaPAx15
import Derived.Test.YtebjpafnfmmjeaaPAx16
import Derived.Test.YtebjpafnfmmjeaaPAx17
import Derived.Test.YtebjpafnfmmjeaaPAx2
import Derived.Test.YtebjpafnfmmjeaaPAx5
namespace Go.Proofs.Ytebjpafnfmmjeaa.PA
open Go.RowKit Go.Proofs.YtebjpafnfmmjeaaW.PrintWords Go.Proofs.YtebjpafnfmmjeaaW.PrintLast Go.Proofs.YtebjpafnfmmjeaaW.PrintMore
set_option linter.unusedVariables false
set_option linter.unusedSimpArgs false

/-! copyLists -/
theorem copyLists_l (l : List (List Int)) (hl : l.length ≤ 1048576) (hr : ∀ r ∈ l, r.length ≤ 1048576) : ∀ (m i : Nat) (acc : List (List Int)), i + m = l.length → acc = l.take i →
    Ev (fun k => impl_copyLists.l0 k acc l (l.length : Int) (i : Int)) l := by
  intro m
  induction m with
  | zero =>
    intro i acc hi ha
    refine Ev.step (f := fun _ => some l) (fun k => ?_) (Ev.now _)
    simp only [impl_copyLists.l0]
    rw [if_neg (by omega), ha, List.take_of_length_le (by omega)]
  | succ m ih =>
    intro i acc hi ha
    have hlt : i < l.length := by omega
    have hx := hr l[i] (List.getElem_mem hlt)
    have hacc : acc.length ≤ i := by rw [ha, List.length_take]; omega
    refine Ev.step (f := fun k => impl_copyLists.l0 k (acc ++ [l[i]]) l (l.length : Int) ((i + 1 : Nat) : Int)) (fun k => ?_) (ih (i + 1) (acc ++ [l[i]]) (by omega) (by rw [takeL_step hlt, ha]))
    simp only [impl_copyLists.l0, Option.bind_some]
    rw [if_pos (by omega), if_pos (by omega), if_pos (by omega), rdL_get hlt, if_pos (by simp; omega), if_pos (by omega), w64 (by omega) (by omega)]
    simp
theorem copyLists_ev (l : List (List Int)) (hl : l.length ≤ 1048576) (hr : ∀ r ∈ l, r.length ≤ 1048576) : Ev (fun k => impl_copyLists.f k l) l :=
  copyLists_l l hl hr l.length 0 [] (by omega) (by simp)
theorem two_of {r : List Int} (h : r.length = 2) : [rd r 0, rd r 1] = r := by
  match r, h with
  | [x, y], _ => rfl

/-! spec.l21Copy: a store anew, less one -/
def skipFrom (a : Int) : Nat → List (List Int) → List (List Int)
  | _, [] => []
  | i, x :: xs => if (i : Int) = a then skipFrom a (i + 1) xs else x :: skipFrom a (i + 1) xs
theorem skip_neg (l : List (List Int)) : ∀ i, skipFrom (-1) i l = l := by
  induction l with
  | nil => intro i; rfl
  | cons x xs ih => intro i; rw [skipFrom, if_neg (by omega), ih]
theorem skip_past (l : List (List Int)) (a : Int) : ∀ (i : Nat), a < i → skipFrom a i l = l := by
  induction l with
  | nil => intro i _; rfl
  | cons x xs ih => intro i h; rw [skipFrom, if_neg (by omega), ih _ (by omega)]
theorem skip_erase (l : List (List Int)) : ∀ (i j : Nat), skipFrom ((i + j : Nat) : Int) i l = l.eraseIdx j := by
  induction l with
  | nil => intro i j; simp [skipFrom]
  | cons x xs ih =>
    intro i j
    cases j with
    | zero => rw [skipFrom, if_pos (by omega), skip_past _ _ _ (by omega)]; rfl
    | succ j => rw [skipFrom, if_neg (by omega), show i + (j + 1) = (i + 1) + j by omega, ih]; rfl
theorem spec_copy_l (a : Int) (l : List (List Int)) (hl : l.length ≤ 20) (hr : ∀ r ∈ l, r.length = 2) : ∀ (m i : Nat) (acc : List (List Int)), i + m = l.length → acc.length ≤ i →
    Ev (fun k => spec_l21Copy.l0 k a acc l (l.length : Int) (i : Int)) (acc ++ skipFrom a i (l.drop i)) := by
  intro m
  induction m with
  | zero =>
    intro i acc hi ha
    refine Ev.step (f := fun _ => some acc) (fun k => ?_) (ev_eq (Ev.now _) (by rw [List.drop_of_length_le (by omega)]; simp [skipFrom]))
    simp only [spec_l21Copy.l0]
    rw [if_neg (by omega)]
  | succ m ih =>
    intro i acc hi ha
    have hlt : i < l.length := by omega
    have hx := hr l[i] (List.getElem_mem hlt)
    rw [List.drop_eq_getElem_cons hlt, skipFrom]
    by_cases c : (i : Int) = a
    · rw [if_pos c]
      refine Ev.step (f := fun k => spec_l21Copy.l0 k a acc l (l.length : Int) ((i + 1 : Nat) : Int)) (fun k => ?_) (ih (i + 1) acc (by omega) (by omega))
      simp only [spec_l21Copy.l0]
      rw [if_pos (by omega), if_pos (by omega), if_pos (by omega), if_pos c, w64 (by omega) (by omega)]
      simp
    · rw [if_neg c]
      refine Ev.step (f := fun k => spec_l21Copy.l0 k a (acc ++ [l[i]]) l (l.length : Int) ((i + 1 : Nat) : Int)) (fun k => ?_) (ev_eq (ih (i + 1) (acc ++ [l[i]]) (by omega) (by simp; omega)) (by simp))
      simp only [spec_l21Copy.l0]
      rw [if_pos (by omega), if_pos (by omega), if_pos (by omega), if_neg c, rdL_get hlt, if_pos (by omega), if_pos (by omega), if_pos (by omega), two_of hx, w64 (by omega) (by omega)]
      simp
theorem spec_copy_ev (a : Int) (l : List (List Int)) (hl : l.length ≤ 20) (hr : ∀ r ∈ l, r.length = 2) : Ev (fun k => spec_l21Copy.f k l a) (skipFrom a 0 l) :=
  ev_eq (spec_copy_l a l hl hr l.length 0 [] (by omega) (by simp)) (by simp)

/-! AddRemnant -/
def addRemnant (l : List (List Int)) (a b : Int) : List (List Int) × Bool := if storeOk l = true ∧ storeOk (l ++ [[a, b]]) = true then (l ++ [[a, b]], true) else ([], false)
theorem store_bd {l : List (List Int)} (h : storeOk l = true) : l.length ≤ 20 ∧ (∀ r ∈ l, r.length ≤ 1048576) ∧ totlen l ≤ 40 := by
  obtain ⟨h1, h2⟩ := storeOk_iff.1 h
  have h3 : ∀ r ∈ l, r.length ≤ 2 := fun r hr => by have := (h2 r hr).len; omega
  have h4 := totlen_le 2 _ h3
  exact ⟨h1, fun r hr => by have := h3 r hr; omega, by omega⟩
theorem addRemnant_bd (l : List (List Int)) (a b : Int) : (addRemnant l a b).1.length ≤ 20 ∧ (∀ r ∈ (addRemnant l a b).1, r.length ≤ 1048576) ∧ totlen (addRemnant l a b).1 ≤ 40 := by
  unfold addRemnant
  split
  · rename_i h
    exact store_bd h.2
  · simp [totlen]
theorem impl_AddRemnant_ev (l : List (List Int)) (a b : Int) (hl : l.length ≤ 1048576) : Ev (fun k => impl_AddRemnant.f k l a b) (addRemnant l a b) := by
  unfold impl_AddRemnant.f addRemnant
  refine Ev.bind (impl_StoreOk_ev l) ?_
  by_cases c : storeOk l = true
  · refine Ev.congr (fun k => if_pos c) ?_
    have h2 := (storeOk_iff.1 c).2
    refine Ev.bind (copyLists_ev l hl (fun r hr => by have := (h2 r hr).len; omega)) ?_
    refine Ev.congr (f := fun k => (impl_StoreOk.f (l ++ [[a, b]])).bind fun t => if t = true then some (l ++ [[a, b]], true) else some ([], false)) (fun k => if_pos (by omega)) ?_
    refine Ev.bind (impl_StoreOk_ev (l ++ [[a, b]])) ?_
    by_cases c2 : storeOk (l ++ [[a, b]]) = true
    · exact ev_eq (Ev.congr (fun k => if_pos c2) (Ev.now _)) (if_pos ⟨c, c2⟩).symm
    · exact ev_eq (Ev.congr (fun k => if_neg c2) (Ev.now _)) (if_neg (fun z => c2 z.2)).symm
  · exact ev_eq (Ev.congr (fun k => if_neg c) (Ev.now _)) (if_neg (fun z => c z.1)).symm
theorem spec_AddRemnant_ev (l : List (List Int)) (a b : Int) : Ev (fun k => spec_AddRemnant.f k l a b) (addRemnant l a b) := by
  unfold spec_AddRemnant.f addRemnant
  refine Ev.bind (spec_StoreOk_ev l) ?_
  by_cases c : storeOk l = true
  · refine Ev.congr (fun k => if_pos c) ?_
    obtain ⟨h1, h2⟩ := storeOk_iff.1 c
    refine Ev.bind (spec_copy_ev (-1) l h1 (fun r hr => (h2 r hr).len)) ?_
    rw [skip_neg]
    refine Ev.congr (f := fun k => (spec_StoreOk.f k (l ++ [[a, b]])).bind fun t => if t = true then some (l ++ [[a, b]], true) else some ([], false)) (fun k => if_pos (by omega)) ?_
    refine Ev.bind (spec_StoreOk_ev (l ++ [[a, b]])) ?_
    by_cases c2 : storeOk (l ++ [[a, b]]) = true
    · exact ev_eq (Ev.congr (fun k => if_pos c2) (Ev.now _)) (if_pos ⟨c, c2⟩).symm
    · exact ev_eq (Ev.congr (fun k => if_neg c2) (Ev.now _)) (if_neg (fun z => c2 z.2)).symm
  · exact ev_eq (Ev.congr (fun k => if_neg c) (Ev.now _)) (if_neg (fun z => c z.1)).symm

end Go.Proofs.Ytebjpafnfmmjeaa.PA

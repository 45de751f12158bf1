/- sorted stores -/
import Derived.Test.YtebjpafnfmmjeaaLibL
import Derived.Test.YtebjpafnfmmjeaaPAx28
import Derived.Test.YtebjpafnfmmjeaaPAx30
import Derived.Test.YtebjpafnfmmjeaaPAx5
namespace Go.Proofs.Ytebjpafnfmmjeaa.PA
open Go.RowKit Go.Proofs.YtebjpafnfmmjeaaW.PrintWords Go.Proofs.YtebjpafnfmmjeaaW.PrintLast Go.Proofs.YtebjpafnfmmjeaaW.PrintMore
set_option linter.unusedVariables false
set_option linter.unusedSimpArgs false

/-! SortStore: both put the rows in order by area, then width -/
def posR (P : List (List Int)) (x : List Int) : Nat → Nat
  | 0 => 0
  | j + 1 => if leRow (P.getD j []) x = true then j + 1 else posR P x j
def insR (P : List (List Int)) (j : Nat) (x : List Int) : List (List Int) := P.take j ++ x :: P.drop j
theorem posR_le (P : List (List Int)) (x : List Int) : ∀ j, posR P x j ≤ j := by
  intro j
  induction j with
  | zero => exact Nat.le_refl _
  | succ j ih => simp only [posR]; split <;> omega
theorem insR_perm (P : List (List Int)) (j : Nat) (x : List Int) : (insR P j x).Perm (x :: P) := by
  unfold insR
  exact List.perm_middle.trans (by rw [List.take_append_drop])
theorem insR_len (P : List (List Int)) (j : Nat) (x : List Int) : (insR P j x).length = P.length + 1 := by
  rw [(insR_perm P j x).length_eq, List.length_cons]
theorem leRow_trans {a b c : List Int} (h1 : leRow a b = true) (h2 : leRow b c = true) : leRow a c = true := by
  unfold leRow at *
  rw [decide_eq_true_iff] at *
  omega
theorem leRow_total {a b : List Int} (h : ¬ leRow a b = true) : leRow b a = true := by
  unfold leRow at *
  rw [decide_eq_true_iff] at *
  omega
/-- What stands before the place is not greater, what stands behind it is not less. -/
theorem posR_spec (P : List (List Int)) (x : List Int) (hs : P.Pairwise fun a b => leRow a b = true) : ∀ j, j ≤ P.length → (∀ y ∈ P.drop j, leRow x y = true) → (∀ y ∈ P.take (posR P x j), leRow y x = true) ∧ (∀ y ∈ P.drop (posR P x j), leRow x y = true) := by
  intro j
  induction j with
  | zero => intro _ hd; simp only [posR]; exact ⟨fun y hy => by simp at hy, hd⟩
  | succ j ih =>
    intro hj hd
    have hlt : j < P.length := by omega
    have e : P.getD j [] = P[j] := getD_get hlt
    simp only [posR]
    by_cases c : leRow (P.getD j []) x = true
    · rw [if_pos c]
      refine ⟨fun y hy => ?_, hd⟩
      rw [List.take_succ_eq_append_getElem hlt] at hy
      rcases List.mem_append.1 hy with hy | hy
      · obtain ⟨i, hi, rfl⟩ := List.getElem_of_mem hy
        rw [List.length_take] at hi
        rw [List.getElem_take]
        have := List.pairwise_iff_getElem.1 hs i j (by omega) hlt (by omega)
        rw [e] at c
        exact leRow_trans this c
      · rw [List.mem_singleton.1 hy, ← e]; exact c
    · rw [if_neg c]
      refine ih (by omega) (fun y hy => ?_)
      rw [List.drop_eq_getElem_cons hlt] at hy
      rcases List.mem_cons.1 hy with rfl | hy
      · rw [← e]; exact leRow_total c
      · exact hd y hy
theorem insR_sorted (P : List (List Int)) (x : List Int) (hs : P.Pairwise fun a b => leRow a b = true) : (insR P (posR P x P.length) x).Pairwise fun a b => leRow a b = true := by
  obtain ⟨h1, h2⟩ := posR_spec P x hs P.length (Nat.le_refl _) (fun y hy => by simp at hy)
  unfold insR
  generalize posR P x P.length = j at *
  rw [List.pairwise_append]
  refine ⟨hs.sublist (List.take_sublist _ _), ?_, ?_⟩
  · rw [List.pairwise_cons]
    exact ⟨h2, hs.sublist (List.drop_sublist _ _)⟩
  · intro a ha b hb
    rcases List.mem_cons.1 hb with rfl | hb
    · exact h1 a ha
    · exact leRow_trans (h1 a ha) (h2 b hb)
theorem rowIn_ok {r : List Int} (h : RowOk r) : RowIn r := ⟨h.len, h.w1, h.w2, h.h1, h.h2⟩
theorem sortRows_le {o r : List (List Int)} (h : ∀ x ∈ o, RowIn x) (hp : r.Perm o) (hs : r.Pairwise fun x y => leRow x y = true) : r = sortRows o := by
  refine sortRows_of h hp (hs.imp_of_mem (fun {a b} ha hb hab => ?_))
  obtain ⟨_, _, e⟩ := cmpRow_eq (h b (hp.mem_iff.1 hb)) (h a (hp.mem_iff.1 ha))
  rw [e]
  unfold leRow at hab
  rw [decide_eq_true_iff] at hab
  split <;> omega
theorem spec_sort_1 (l P : List (List Int)) (i : Nat) (hi : i < l.length) (h20 : l.length ≤ 20) (hx : RowOk l[i]) (hP : ∀ r ∈ P, RowOk r) (hPi : P.length ≤ i) (R : List (List Int)) : ∀ j, j ≤ P.length →
    Ev (fun k => spec_SortStore.l0 k (insR P (posR P l[i] j) l[i]) l (l.length : Int) ((i + 1 : Nat) : Int)) R →
    Ev (fun k => spec_SortStore.l1 k P l[i] (j : Int) l (l.length : Int) (i : Int)) R := by
  intro j
  have put : ∀ j : Nat, j ≤ P.length → Ev (fun k => spec_SortStore.l0 k (insR P j l[i]) l (l.length : Int) ((i + 1 : Nat) : Int)) R → Ev (fun k => spec_SortStore.j2 k P l[i] (j : Int) l (l.length : Int) (i : Int) false) R := by
    intro j hj hr
    refine Ev.step (f := fun k => spec_SortStore.l0 k (insR P j l[i]) l (l.length : Int) ((i + 1 : Nat) : Int)) (fun k => ?_) hr
    have hlx := hx.len
    have e : ([] ++ P.take j ++ [[rd l[i] 0, rd l[i] 1]]) ++ P.drop j = insR P j l[i] := by rw [two_of hlx]; simp [insR]
    simp only [spec_SortStore.j2, Option.bind_some]
    rw [if_neg (by simp), if_pos (by omega), if_pos (by omega), Int.toNat_natCast, if_pos (by simp; omega), if_pos (by omega), if_pos (by omega), if_pos (by simp; omega), if_pos (by simp; omega), e, w64 (by omega) (by omega)]
    rfl
  have hx2 := rowArea_bd hx
  unfold rowArea at hx2
  have hlx := hx.len
  induction j with
  | zero =>
    intro hj hr
    refine Ev.step (f := fun k => spec_SortStore.j2 k P l[i] ((0 : Nat) : Int) l (l.length : Int) (i : Int) false) (fun k => ?_) (put 0 hj hr)
    simp only [spec_SortStore.l1]
    rw [if_neg (by omega)]
  | succ j ih =>
    intro hj hr
    have hlt : j < P.length := by omega
    have hp := hP P[j] (List.getElem_mem hlt)
    have hp2 := rowArea_bd hp
    unfold rowArea at hp2
    have hlp := hp.len
    simp only [posR] at hr
    rw [getD_get hlt] at hr
    have em : wrap64 (((j + 1 : Nat) : Int) - 1) = (j : Int) := by rw [w64 (by omega) (by omega)]; omega
    by_cases c : leRow P[j] l[i] = true
    · rw [if_pos c] at hr
      refine Ev.step (f := fun k => spec_SortStore.j2 k P l[i] ((j + 1 : Nat) : Int) l (l.length : Int) (i : Int) false) (fun k => ?_) (put (j + 1) hj hr)
      unfold leRow at c
      rw [decide_eq_true_iff] at c
      simp only [spec_SortStore.l1]
      rw [em, if_pos (by omega), if_pos (by omega), if_pos (by omega), rdL_get hlt, if_pos (by omega), if_pos (by omega), if_pos (by omega), if_pos (by omega), w64 (x := rd P[j] 0 * rd P[j] 1) (by omega) (by omega), w64 (x := rd l[i] 0 * rd l[i] 1) (by omega) (by omega)]
      generalize rd P[j] 0 * rd P[j] 1 = p at *
      generalize rd l[i] 0 * rd l[i] 1 = q at *
      rw [if_neg (by omega)]
      by_cases e : p = q
      · rw [if_pos e, decide_eq_false (by omega)]
      · rw [if_neg e]
    · rw [if_neg c] at hr
      have go : Ev (fun k => spec_SortStore.j2 k P l[i] ((j + 1 : Nat) : Int) l (l.length : Int) (i : Int) true) R := by
        refine Ev.step (f := fun k => spec_SortStore.l1 k P l[i] (j : Int) l (l.length : Int) (i : Int)) (fun k => ?_) (ih (by omega) hr)
        simp only [spec_SortStore.j2]
        rw [if_pos trivial, em]
      refine Ev.step (f := fun k => spec_SortStore.j2 k P l[i] ((j + 1 : Nat) : Int) l (l.length : Int) (i : Int) true) (fun k => ?_) go
      unfold leRow at c
      rw [decide_eq_true_iff] at c
      simp only [spec_SortStore.l1]
      rw [em, if_pos (by omega), if_pos (by omega), if_pos (by omega), rdL_get hlt, if_pos (by omega), if_pos (by omega), if_pos (by omega), if_pos (by omega), w64 (x := rd P[j] 0 * rd P[j] 1) (by omega) (by omega), w64 (x := rd l[i] 0 * rd l[i] 1) (by omega) (by omega)]
      generalize rd P[j] 0 * rd P[j] 1 = p at *
      generalize rd l[i] 0 * rd l[i] 1 = q at *
      by_cases e : p > q
      · rw [if_pos e]
      · rw [if_neg e, if_pos (by omega), decide_eq_true (by omega)]
theorem spec_sort_0 (l : List (List Int)) (h20 : l.length ≤ 20) (hl : ∀ r ∈ l, RowOk r) : ∀ (m i : Nat) (P : List (List Int)), i + m = l.length → P.Perm (l.take i) → (P.Pairwise fun a b => leRow a b = true) →
    Ev (fun k => spec_SortStore.l0 k P l (l.length : Int) (i : Int)) (sortRows l) := by
  intro m
  induction m with
  | zero =>
    intro i P hi hp hs
    rw [List.take_of_length_le (by omega)] at hp
    rw [← sortRows_le (fun x hx => rowIn_ok (hl x hx)) hp hs]
    refine Ev.step (f := fun _ => some P) (fun k => ?_) (Ev.now _)
    simp only [spec_SortStore.l0]
    rw [if_neg (by omega)]
  | succ m ih =>
    intro i P hi hp hs
    have hlt : i < l.length := by omega
    have hPl : P.length ≤ i := by rw [hp.length_eq, List.length_take]; omega
    have hn := ih (i + 1) (insR P (posR P l[i] P.length) l[i]) (by omega) (by
      refine (insR_perm _ _ _).trans ?_
      rw [takeL_step hlt]
      exact (hp.cons _).trans (List.perm_append_comm (l₁ := [l[i]]) (l₂ := l.take i))) (insR_sorted P l[i] hs)
    refine Ev.step (f := fun k => spec_SortStore.l1 k P l[i] (P.length : Int) l (l.length : Int) (i : Int)) (fun k => ?_) (spec_sort_1 l P i hlt h20 (hl _ (List.getElem_mem hlt)) (fun r hr => hl r (List.mem_of_mem_take (hp.mem_iff.1 hr))) hPl _ P.length (Nat.le_refl _) hn)
    simp only [spec_SortStore.l0]
    rw [if_pos (by omega), if_pos (by omega), if_pos (by omega), rdL_get hlt]
def sortStore (l : List (List Int)) : List (List Int) := if storeOk l = true then sortRows l else []
theorem spec_SortStore_ev (l : List (List Int)) : Ev (fun k => spec_SortStore.f k l) (sortStore l) := by
  unfold spec_SortStore.f sortStore
  refine Ev.bind (spec_StoreOk_ev l) ?_
  by_cases c : storeOk l = true
  · rw [if_pos c]
    obtain ⟨h1, h2⟩ := storeOk_iff.1 c
    exact Ev.congr (fun k => if_pos c) (spec_sort_0 l h1 h2 l.length 0 [] (by omega) (by simp) List.Pairwise.nil)
  · rw [if_neg c]
    exact Ev.congr (fun k => if_neg c) (Ev.now _)
theorem impl_SortStore_ev (l : List (List Int)) : Ev (fun k => impl_SortStore.f k l) (sortStore l) := by
  unfold impl_SortStore.f sortStore
  refine Ev.bind (impl_StoreOk_ev l) ?_
  by_cases c : storeOk l = true
  · rw [if_pos c]
    obtain ⟨h1, h2⟩ := storeOk_iff.1 c
    refine Ev.congr (fun k => if_pos c) (Ev.bind (copyLists_ev l (by omega) (fun r hr => by have := (h2 r hr).len; omega)) ?_)
    exact Ev.congr (fun k => if_pos c) (Ev.now _)
  · rw [if_neg c]
    exact Ev.congr (fun k => if_neg c) (Ev.now _)
theorem sortStore_perm {l : List (List Int)} (h : storeOk l = true) : (sortStore l).Perm l := by
  unfold sortStore
  rw [if_pos h]
  exact List.mergeSort_perm l leRow
theorem sortStore_ok (l : List (List Int)) : storeOk (sortStore l) = true := by
  by_cases h : storeOk l = true
  · have hp := sortStore_perm h
    obtain ⟨h1, h2⟩ := storeOk_iff.1 h
    exact storeOk_iff.2 ⟨by rw [hp.length_eq]; exact h1, fun r hr => h2 r (hp.mem_iff.1 hr)⟩
  · unfold sortStore
    rw [if_neg h]
    simp [storeOk]
theorem sortStore_bd (l : List (List Int)) : (sortStore l).length ≤ 20 ∧ (∀ r ∈ sortStore l, r.length ≤ 1048576) ∧ totlen (sortStore l) ≤ 40 := store_bd (sortStore_ok l)

end Go.Proofs.Ytebjpafnfmmjeaa.PA

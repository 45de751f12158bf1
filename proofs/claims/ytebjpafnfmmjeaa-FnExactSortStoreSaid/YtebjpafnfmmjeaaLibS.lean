/- stores -/
import Derived.Test.YtebjpafnfmmjeaaLibI
import Derived.Test.YtebjpafnfmmjeaaPAx10
import Derived.Test.YtebjpafnfmmjeaaPAx11
import Derived.Test.YtebjpafnfmmjeaaPAx12
import Derived.Test.YtebjpafnfmmjeaaPAx2
import Derived.Test.YtebjpafnfmmjeaaPAx4
import Derived.Test.YtebjpafnfmmjeaaPAx5
import Derived.Test.YtebjpafnfmmjeaaPAx9
namespace Go.Proofs.Ytebjpafnfmmjeaa.PA
open Go.RowKit Go.Proofs.YtebjpafnfmmjeaaW.PrintWords Go.Proofs.YtebjpafnfmmjeaaW.PrintLast Go.Proofs.YtebjpafnfmmjeaaW.PrintMore
set_option linter.unusedVariables false
set_option linter.unusedSimpArgs false

/-! StoreOk, SmallestFor, areas -/
theorem isRemnant_eq (a b : Int) : impl_isRemnant.f a b = some (decide (1 ≤ a ∧ a ≤ 100 ∧ 1 ≤ b ∧ b ≤ 100)) := by
  unfold impl_isRemnant.f
  rw [within_eq]
  simp only [Option.bind_some]
  by_cases c : 1 ≤ a ∧ a ≤ 100
  · rw [if_pos (by simpa using c), within_eq]
    simp only [Option.bind_some]
    congr 1
    rw [decide_eq_decide]
    omega
  · rw [if_neg (by simpa using c)]
    congr 1
    exact (decide_eq_false (fun z => c ⟨z.1, z.2.1⟩)).symm
structure RowOk (r : List Int) : Prop where
  len : r.length = 2
  w1 : 1 ≤ rd r 0
  w2 : rd r 0 ≤ 100
  h1 : 1 ≤ rd r 1
  h2 : rd r 1 ≤ 100
theorem badRow_false {r : List Int} : badRow r = false ↔ RowOk r := by
  unfold badRow
  rw [Bool.not_eq_false', decide_eq_true_iff]
  exact ⟨fun ⟨a, b, c, d, e⟩ => ⟨a, b, c, d, e⟩, fun ⟨a, b, c, d, e⟩ => ⟨a, b, c, d, e⟩⟩
theorem storeOk_iff {l : List (List Int)} : storeOk l = true ↔ l.length ≤ 20 ∧ ∀ r ∈ l, RowOk r := by
  unfold storeOk
  rw [Bool.and_eq_true, decide_eq_true_iff, Bool.not_eq_true', List.any_eq_false]
  constructor
  · rintro ⟨a, b⟩
    exact ⟨a, fun r hr => badRow_false.1 (by simpa using b r hr)⟩
  · rintro ⟨a, b⟩
    exact ⟨a, fun r hr => by simpa using badRow_false.2 (b r hr)⟩
theorem spec_StoreOk_l (l : List (List Int)) (hl : l.length ≤ 20) : ∀ (d i : Nat), i + d = l.length → Ev (fun k => spec_StoreOk.l0 k l (l.length : Int) (i : Int)) (!((l.drop i).any badRow)) := by
  intro d
  induction d with
  | zero =>
    intro i hi
    refine Ev.step (f := fun _ => some (!((l.drop i).any badRow))) (fun k => ?_) (Ev.now _)
    simp only [spec_StoreOk.l0]
    rw [if_neg (by omega), List.drop_of_length_le (by omega)]
    rfl
  | succ d ih =>
    intro i hi
    have hlt : i < l.length := by omega
    have hd : (l.drop i).any badRow = (badRow l[i] || (l.drop (i + 1)).any badRow) := by rw [List.drop_eq_getElem_cons hlt, List.any_cons]
    rw [hd]
    cases c : badRow l[i] with
    | false =>
      rw [Bool.false_or]
      refine Ev.step (f := fun k => spec_StoreOk.l0 k l (l.length : Int) ((i + 1 : Nat) : Int)) (fun k => ?_) (ih (i + 1) (by omega))
      obtain ⟨c1, c2, c3, c4, c5⟩ := badRow_false.1 c
      simp only [spec_StoreOk.l0, l01In_eq, Option.bind_some]
      rw [if_pos (by omega), if_pos (by omega), if_pos (by omega), rdL_get hlt, if_pos (by omega), if_pos (by omega), if_pos (by simpa using ⟨c2, c3⟩), if_pos (by omega), if_pos (by simpa using ⟨c4, c5⟩), w64 (by omega) (by omega)]
      rfl
    | true =>
      rw [Bool.true_or]
      refine Ev.step (f := fun k => some false) (fun k => ?_) (Ev.now _)
      have hc : ¬ RowOk l[i] := fun z => by rw [badRow_false.2 z] at c; cases c
      simp only [spec_StoreOk.l0, l01In_eq, Option.bind_some]
      rw [if_pos (by omega), if_pos (by omega), if_pos (by omega), rdL_get hlt]
      by_cases e1 : l[i].length = 2
      · rw [if_pos (by omega), if_pos (by omega)]
        by_cases e2 : 1 ≤ rd l[i] 0 ∧ rd l[i] 0 ≤ 100
        · rw [if_pos (by simpa using e2), if_pos (by omega)]
          by_cases e3 : 1 ≤ rd l[i] 1 ∧ rd l[i] 1 ≤ 100
          · exact absurd ⟨e1, e2.1, e2.2, e3.1, e3.2⟩ hc
          · rw [if_neg (by simpa using e3)]
        · rw [if_neg (by simpa using e2)]
      · rw [if_neg (by omega)]
theorem spec_StoreOk_ev (l : List (List Int)) : Ev (fun k => spec_StoreOk.f k l) (storeOk l) := by
  unfold spec_StoreOk.f
  by_cases c : l.length ≤ 20
  · refine Ev.congr (fun k => if_neg (by omega)) (ev_eq (spec_StoreOk_l l c l.length 0 (by omega)) ?_)
    unfold storeOk
    rw [decide_eq_true c]
    rfl
  · refine ev_eq (Ev.congr (fun k => if_pos (by omega)) (Ev.now false)) ?_
    unfold storeOk
    rw [decide_eq_false c]
    rfl
theorem impl_StoreOk_ev (l : List (List Int)) : Ev (fun _ => impl_StoreOk.f l) (storeOk l) := ev_const rfl
def rowArea (r : List Int) : Int := rd r 0 * rd r 1
theorem rowArea_bd {r : List Int} (h : RowOk r) : 1 ≤ rowArea r ∧ rowArea r ≤ 10000 := by
  obtain ⟨_, a, b, c, d⟩ := h
  have p1 : 1 * 1 ≤ rd r 0 * rd r 1 := Int.mul_le_mul a c (by omega) (by omega)
  have p2 : rd r 0 * rd r 1 ≤ 100 * 100 := Int.mul_le_mul b d (by omega) (by omega)
  unfold rowArea
  omega
def pick (l : List (List Int)) (w h best : Int) (i : Nat) : Int :=
  if rd (l.getD i []) 0 ≥ w ∧ rd (l.getD i []) 1 ≥ h ∧ (best < 0 ∨ rowArea (l.getD i []) < rowArea (l.getD best.toNat [])) then (i : Int) else best
def smallL (l : List (List Int)) (w h : Int) : Nat → Nat → Int → Int
  | 0, _, best => best
  | d + 1, i, best => smallL l w h d (i + 1) (pick l w h best i)
def smallest (l : List (List Int)) (w h : Int) : Int :=
  if storeOk l = true ∧ (1 ≤ w ∧ w ≤ 100 ∧ 1 ≤ h ∧ h ≤ 100) then smallL l w h l.length 0 (-1) else -1
theorem getD_get {l : List (List Int)} {i : Nat} (h : i < l.length) : l.getD i [] = l[i] := by simp [List.getD_eq_getElem?_getD, h]


theorem spec_small_l (l : List (List Int)) (w h : Int) (hl : l.length ≤ 20) (hr : ∀ r ∈ l, RowOk r) : ∀ (d i : Nat) (best : Int), i + d = l.length → -1 ≤ best → best < i →
    Ev (fun k => spec_SmallestFor.l0 k l w h best l (l.length : Int) (i : Int)) (smallL l w h d i best) := by
  intro d
  induction d with
  | zero =>
    intro i best hi h0 h1
    refine Ev.step (f := fun _ => some best) (fun k => ?_) (Ev.now _)
    simp only [spec_SmallestFor.l0]
    rw [if_neg (by omega)]
  | succ d ih =>
    intro i best hi h0 h1
    have hlt : i < l.length := by omega
    have hrow := hr l[i] (List.getElem_mem hlt)
    have ha := rowArea_bd hrow
    unfold rowArea at ha
    simp only [smallL]
    have hp : -1 ≤ pick l w h best i ∧ pick l w h best i < ((i + 1 : Nat) : Int) := by unfold pick; split <;> omega
    refine Ev.step (f := fun k => spec_SmallestFor.l0 k l w h (pick l w h best i) l (l.length : Int) ((i + 1 : Nat) : Int)) (fun k => ?_) (ih (i + 1) (pick l w h best i) (by omega) hp.1 hp.2)
    simp only [spec_SmallestFor.l0]
    unfold pick
    rw [getD_get hlt, if_pos (by omega), if_pos (by omega), if_pos (by omega), rdL_get hlt, w64 (x := (i : Int) + 1) (by omega) (by omega), show ((i : Int) + 1) = ((i + 1 : Nat) : Int) by omega]
    rw [if_pos (by have := hrow.len; omega)]
    by_cases c1 : rd l[i] 0 ≥ w
    · rw [if_pos c1, if_pos (by have := hrow.len; omega)]
      by_cases c2 : rd l[i] 1 ≥ h
      · rw [if_pos c2]
        by_cases c3 : best < 0
        · rw [if_pos c3, if_pos ⟨c1, c2, .inl c3⟩]
        · obtain ⟨b, rfl⟩ := Int.eq_ofNat_of_zero_le (a := best) (by omega)
          have hb : b < l.length := by omega
          have hrow2 := hr l[b] (List.getElem_mem hb)
          have ha2 := rowArea_bd hrow2
          unfold rowArea at ha2
          rw [if_neg c3, if_pos (by omega), if_pos (by omega), rdL_get hb, if_pos (by have := hrow2.len; omega), if_pos (by have := hrow2.len; omega), w64 (x := rd l[i] 0 * rd l[i] 1) (by omega) (by omega), w64 (x := rd l[b] 0 * rd l[b] 1) (by omega) (by omega)]
          rw [Int.toNat_natCast, getD_get hb]
          by_cases c4 : rd l[i] 0 * rd l[i] 1 < rd l[b] 0 * rd l[b] 1
          · rw [if_pos c4, if_pos ⟨c1, c2, .inr c4⟩]
          · rw [if_neg c4, if_neg (fun z => z.2.2.elim c3 c4)]
      · rw [if_neg c2, if_neg (fun z => c2 z.2.1)]
    · rw [if_neg c1, if_neg (fun z => c1 z.1)]


theorem impl_small_l (l : List (List Int)) (w h : Int) (hl : l.length ≤ 20) (hr : ∀ r ∈ l, RowOk r) : ∀ (d i : Nat) (best : Int), i + d = l.length → -1 ≤ best → best < i →
    Ev (fun k => impl_SmallestFor.l0 k l w h best l (l.length : Int) (i : Int)) (smallL l w h d i best) := by
  intro d
  induction d with
  | zero =>
    intro i best hi h0 h1
    refine Ev.step (f := fun _ => some best) (fun k => ?_) (Ev.now _)
    simp only [impl_SmallestFor.l0]
    rw [if_neg (by omega)]
  | succ d ih =>
    intro i best hi h0 h1
    have hlt : i < l.length := by omega
    have hrow := hr l[i] (List.getElem_mem hlt)
    have ha := rowArea_bd hrow
    unfold rowArea at ha
    simp only [smallL]
    have hp : -1 ≤ pick l w h best i ∧ pick l w h best i < ((i + 1 : Nat) : Int) := by unfold pick; split <;> omega
    refine Ev.step (f := fun k => impl_SmallestFor.l0 k l w h (pick l w h best i) l (l.length : Int) ((i + 1 : Nat) : Int)) (fun k => ?_) (ih (i + 1) (pick l w h best i) (by omega) hp.1 hp.2)
    simp only [impl_SmallestFor.l0]
    unfold pick
    rw [getD_get hlt, if_pos (by omega), if_pos (by omega), if_pos (by omega), rdL_get hlt, w64 (x := (i : Int) + 1) (by omega) (by omega), show ((i : Int) + 1) = ((i + 1 : Nat) : Int) by omega]
    rw [if_pos (by have := hrow.len; omega)]
    by_cases c1 : rd l[i] 0 ≥ w
    · rw [if_pos c1, if_pos (by have := hrow.len; omega)]
      by_cases c2 : rd l[i] 1 ≥ h
      · rw [if_pos c2]
        by_cases c3 : best < 0
        · rw [if_pos c3, if_pos ⟨c1, c2, .inl c3⟩]
        · obtain ⟨b, rfl⟩ := Int.eq_ofNat_of_zero_le (a := best) (by omega)
          have hb : b < l.length := by omega
          have hrow2 := hr l[b] (List.getElem_mem hb)
          have ha2 := rowArea_bd hrow2
          unfold rowArea at ha2
          rw [if_neg c3, if_pos (by omega), if_pos (by omega), rdL_get hb, if_pos (by have := hrow2.len; omega), if_pos (by have := hrow2.len; omega), w64 (x := rd l[i] 0 * rd l[i] 1) (by omega) (by omega), w64 (x := rd l[b] 0 * rd l[b] 1) (by omega) (by omega)]
          rw [Int.toNat_natCast, getD_get hb]
          by_cases c4 : rd l[i] 0 * rd l[i] 1 < rd l[b] 0 * rd l[b] 1
          · rw [if_pos c4, if_pos ⟨c1, c2, .inr c4⟩]
          · rw [if_neg c4, if_neg (fun z => z.2.2.elim c3 c4)]
      · rw [if_neg c2, if_neg (fun z => c2 z.2.1)]
    · rw [if_neg c1, if_neg (fun z => c1 z.1)]


theorem spec_small_ev (l : List (List Int)) (w h : Int) : Ev (fun k => spec_SmallestFor.f k l w h) (smallest l w h) := by
  unfold spec_SmallestFor.f smallest
  refine Ev.bind (spec_StoreOk_ev l) ?_
  have no : ∀ c : Prop, [Decidable c] → ¬ c → Ev (fun k => spec_SmallestFor.j0 k l w h true) (if c then smallL l w h l.length 0 (-1) else -1) := by
    intro c _ hc
    rw [if_neg hc]
    refine Ev.step (f := fun _ => some (-1)) (fun k => ?_) (Ev.now _)
    simp only [spec_SmallestFor.j0]
    rw [if_pos trivial]
  by_cases c0 : storeOk l = true
  · refine Ev.congr (fun k => if_pos c0) ?_
    refine Ev.bind (ev_const (l01In_eq w 1 100)) ?_
    by_cases c1 : 1 ≤ w ∧ w ≤ 100
    · refine Ev.congr (fun k => if_pos (by simpa using c1)) ?_
      refine Ev.bind (ev_const (l01In_eq h 1 100)) ?_
      by_cases c2 : 1 ≤ h ∧ h ≤ 100
      · rw [if_pos ⟨c0, c1.1, c1.2, c2.1, c2.2⟩, decide_eq_true c2]
        obtain ⟨h1, h2⟩ := storeOk_iff.1 c0
        refine Ev.step (f := fun k => spec_SmallestFor.l0 k l w h (-1) l (l.length : Int) ((0 : Nat) : Int)) (fun k => ?_) (spec_small_l l w h h1 h2 l.length 0 (-1) (by omega) (by omega) (by omega))
        simp only [spec_SmallestFor.j0]
        rw [if_neg (by simp)]
        rfl
      · rw [decide_eq_false c2]
        exact no _ (fun z => c2 z.2.2.2)
    · exact Ev.congr (fun k => if_neg (by simpa using c1)) (no _ (fun z => c1 ⟨z.2.1, z.2.2.1⟩))
  · exact Ev.congr (fun k => if_neg c0) (no _ (fun z => c0 z.1))
theorem impl_small_ev (l : List (List Int)) (w h : Int) : Ev (fun k => impl_SmallestFor.f k l w h) (smallest l w h) := by
  unfold impl_SmallestFor.f smallest
  refine Ev.bind (impl_StoreOk_ev l) ?_
  have no : ∀ c : Prop, [Decidable c] → ¬ c → Ev (fun k => impl_SmallestFor.j0 k l w h true) (if c then smallL l w h l.length 0 (-1) else -1) := by
    intro c _ hc
    rw [if_neg hc]
    refine Ev.step (f := fun _ => some (-1)) (fun k => ?_) (Ev.now _)
    simp only [impl_SmallestFor.j0]
    rw [if_pos trivial]
  by_cases c0 : storeOk l = true
  · refine Ev.congr (fun k => if_pos c0) ?_
    refine Ev.bind (ev_const (isRemnant_eq w h)) ?_
    by_cases c1 : 1 ≤ w ∧ w ≤ 100 ∧ 1 ≤ h ∧ h ≤ 100
    · rw [if_pos ⟨c0, c1⟩, decide_eq_true c1]
      obtain ⟨h1, h2⟩ := storeOk_iff.1 c0
      refine Ev.step (f := fun k => impl_SmallestFor.l0 k l w h (-1) l (l.length : Int) ((0 : Nat) : Int)) (fun k => ?_) (impl_small_l l w h h1 h2 l.length 0 (-1) (by omega) (by omega) (by omega))
      simp only [impl_SmallestFor.j0]
      rw [if_neg (by simp)]
      rfl
    · rw [decide_eq_false c1]
      exact no _ (fun z => c1 z.2)
  · exact Ev.congr (fun k => if_neg c0) (no _ (fun z => c0 z.1))
/-- The sum of areas. -/
def areaSum : List (List Int) → Int
  | [] => 0
  | r :: l => rowArea r + areaSum l
theorem areaSum_bd : ∀ (l : List (List Int)), (∀ r ∈ l, RowOk r) → 0 ≤ areaSum l ∧ areaSum l ≤ 10000 * (l.length : Int) := by
  intro l
  induction l with
  | nil => intro _; simp [areaSum]
  | cons r l ih =>
    intro h
    have h1 := ih (fun x hx => h x (List.mem_cons_of_mem _ hx))
    have h2 := rowArea_bd (h r List.mem_cons_self)
    simp only [areaSum, List.length_cons]
    omega


theorem spec_area_l (l : List (List Int)) (hl : l.length ≤ 20) (hr : ∀ r ∈ l, RowOk r) : ∀ (d i : Nat) (a : Int), i + d = l.length → 0 ≤ a → a ≤ 10000 * (i : Int) →
    Ev (fun k => spec_l15Area.l0 k a l (l.length : Int) (i : Int)) (a + areaSum (l.drop i)) := by
  intro d
  induction d with
  | zero =>
    intro i a hi h0 h1
    refine Ev.step (f := fun _ => some (a + areaSum (l.drop i))) (fun k => ?_) (Ev.now _)
    simp only [spec_l15Area.l0]
    rw [if_neg (by omega), List.drop_of_length_le (by omega)]
    simp [areaSum]
  | succ d ih =>
    intro i a hi h0 h1
    have hlt : i < l.length := by omega
    have hrow := hr l[i] (List.getElem_mem hlt)
    have ha := rowArea_bd hrow
    rw [List.drop_eq_getElem_cons hlt]
    simp only [areaSum]
    rw [← Int.add_assoc]
    refine Ev.step (f := fun k => spec_l15Area.l0 k (a + rowArea l[i]) l (l.length : Int) ((i + 1 : Nat) : Int)) (fun k => ?_) (ih (i + 1) (a + rowArea l[i]) (by omega) (by omega) (by omega))
    simp only [spec_l15Area.l0]
    unfold rowArea at ha ⊢
    rw [if_pos (by omega), if_pos (by omega), if_pos (by omega), rdL_get hlt, if_pos (by have := hrow.len; omega), if_pos (by have := hrow.len; omega), w64 (x := rd l[i] 0 * rd l[i] 1) (by omega) (by omega), w64 (x := a + _) (by omega) (by omega), w64 (by omega) (by omega)]
    rfl
theorem spec_area_ev (l : List (List Int)) (hl : l.length ≤ 20) (hr : ∀ r ∈ l, RowOk r) : Ev (fun k => spec_l15Area.f k l) (areaSum l) := by
  have := spec_area_l l hl hr l.length 0 0 (by omega) (by omega) (by omega)
  exact ev_eq this (by simp)
theorem spec_StoreArea_ev (l : List (List Int)) : Ev (fun k => spec_StoreArea.f k l) (if storeOk l then areaSum l else -1) := by
  unfold spec_StoreArea.f
  refine Ev.bind (spec_StoreOk_ev l) ?_
  by_cases c : storeOk l = true
  · rw [if_pos c]
    obtain ⟨h1, h2⟩ := storeOk_iff.1 c
    exact Ev.congr (fun k => if_pos c) (Ev.bind (spec_area_ev l h1 h2) (Ev.now _))
  · rw [if_neg c]
    exact Ev.congr (fun k => if_neg c) (Ev.now _)


theorem impl_area_l (l : List (List Int)) (hl : l.length ≤ 20) (hr : ∀ r ∈ l, RowOk r) : ∀ (d i : Nat) (a : Int), i + d = l.length → 0 ≤ a → a ≤ 10000 * (i : Int) →
    Ev (fun k => impl_areaOf.l0 k a l (l.length : Int) (i : Int)) (a + areaSum (l.drop i)) := by
  intro d
  induction d with
  | zero =>
    intro i a hi h0 h1
    refine Ev.step (f := fun _ => some (a + areaSum (l.drop i))) (fun k => ?_) (Ev.now _)
    simp only [impl_areaOf.l0]
    rw [if_neg (by omega), List.drop_of_length_le (by omega)]
    simp [areaSum]
  | succ d ih =>
    intro i a hi h0 h1
    have hlt : i < l.length := by omega
    have hrow := hr l[i] (List.getElem_mem hlt)
    have ha := rowArea_bd hrow
    rw [List.drop_eq_getElem_cons hlt]
    simp only [areaSum]
    rw [← Int.add_assoc]
    refine Ev.step (f := fun k => impl_areaOf.l0 k (a + rowArea l[i]) l (l.length : Int) ((i + 1 : Nat) : Int)) (fun k => ?_) (ih (i + 1) (a + rowArea l[i]) (by omega) (by omega) (by omega))
    simp only [impl_areaOf.l0]
    unfold rowArea at ha ⊢
    rw [if_pos (by omega), if_pos (by omega), if_pos (by omega), rdL_get hlt, if_pos (by have := hrow.len; omega), if_pos (by have := hrow.len; omega), w64 (x := rd l[i] 0 * rd l[i] 1) (by omega) (by omega), w64 (x := a + _) (by omega) (by omega), w64 (by omega) (by omega)]
    rfl
theorem impl_area_ev (l : List (List Int)) (hl : l.length ≤ 20) (hr : ∀ r ∈ l, RowOk r) : Ev (fun k => impl_areaOf.f k l) (areaSum l) := by
  have := impl_area_l l hl hr l.length 0 0 (by omega) (by omega) (by omega)
  exact ev_eq this (by simp)
theorem impl_StoreArea_ev (l : List (List Int)) : Ev (fun k => impl_StoreArea.f k l) (if storeOk l then areaSum l else -1) := by
  unfold impl_StoreArea.f
  refine Ev.bind (impl_StoreOk_ev l) ?_
  by_cases c : storeOk l = true
  · rw [if_pos c]
    obtain ⟨h1, h2⟩ := storeOk_iff.1 c
    exact Ev.congr (fun k => if_pos c) (Ev.bind (impl_area_ev l h1 h2) (Ev.now _))
  · rw [if_neg c]
    exact Ev.congr (fun k => if_neg c) (Ev.now _)

end Go.Proofs.Ytebjpafnfmmjeaa.PA

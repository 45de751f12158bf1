/- order by a column -/
import Derived.Test.YtoonamloihbjnaaLibO
import Derived.Test.YtoonamloihbjnaaPAx0
import Derived.Test.YtoonamloihbjnaaPAx11
import Derived.Test.YtoonamloihbjnaaPAx12
import Derived.Test.YtoonamloihbjnaaPAx5
import Derived.Test.YtoonamloihbjnaaPAx9
namespace Go.Proofs.Ytoonamloihbjnaa.PA
open Go.RowKit Go.Proofs.YtoonamloihbjnaaW.PrintWords Go.Proofs.YtoonamloihbjnaaW.PrintLast Go.Proofs.YtoonamloihbjnaaW.PrintMore
set_option linter.unusedVariables false
set_option linter.unusedSimpArgs false

/-! orderBy: both put each index into those before it, from the right -/
def pos (K : Int → Int) (P : List Int) (x : Int) : Nat → Nat
  | 0 => 0
  | j + 1 => if K (rd P (j : Int)) > K x then pos K P x j else j + 1
def insAt (P : List Int) (j : Nat) (x : Int) : List Int := P.take j ++ x :: P.drop j
def sortL (K : Int → Int) : List Int → List Int → List Int
  | P, [] => P
  | P, x :: S => sortL K (insAt P (pos K P x P.length) x) S
theorem pos_le (K : Int → Int) (P : List Int) (x : Int) : ∀ j, pos K P x j ≤ j := by
  intro j
  induction j with
  | zero => exact Nat.le_refl _
  | succ j ih => simp only [pos]; split <;> omega
theorem insAt_len {P : List Int} {j : Nat} (x : Int) (h : j ≤ P.length) : (insAt P j x).length = P.length + 1 := by simp [insAt]; omega
theorem insAt_mem {P : List Int} {j : Nat} {x y : Int} (h : y ∈ insAt P j x) : y ∈ P ∨ y = x := by
  unfold insAt at h
  rcases List.mem_append.1 h with h | h
  · exact .inl (List.mem_of_mem_take h)
  · rcases List.mem_cons.1 h with h | h
    · exact .inr h
    · exact .inl (List.mem_of_mem_drop h)
def keyBy (ws : List (List Int)) (c x : Int) : Int := rd (rd_L1 ws x) c
theorem key_bd {ws : List (List Int)} (h : worksOk ws = true) {c x : Int} (hc : c = 0 ∨ c = 1) (h0 : 0 ≤ x) (h1 : x ≤ (ws.length : Int) - 1) : 0 ≤ keyBy ws c x ∧ keyBy ws c x ≤ 1000 ∧ (rd_L1 ws x).length = 2 := by
  have hw := work_at h h0 h1
  have w1 := hw.w1
  have w2 := hw.w2
  have w3 := hw.h1
  have w4 := hw.h2
  unfold keyBy
  rcases hc with rfl | rfl
  · exact ⟨by omega, by omega, hw.len⟩
  · exact ⟨by omega, by omega, hw.len⟩
theorem spec_by_1 {ws : List (List Int)} (h : worksOk ws = true) {c : Int} (hc : c = 0 ∨ c = 1) (P : List Int) (i : Nat) (hi : i < ws.length) (hP : P.length ≤ 7) (hb : ∀ y ∈ P, 0 ≤ y ∧ y ≤ (ws.length : Int) - 1) (R : List Int) : ∀ j, j ≤ P.length →
    Ev (fun k => spec_l24By.l0 k ws c (insAt P (pos (keyBy ws c) P (i : Int) j) (i : Int)) ws (ws.length : Int) ((i + 1 : Nat) : Int)) R →
    Ev (fun k => spec_l24By.l1 k ws c P (i : Int) (rd_L1 ws (i : Int)) (j : Int) ws (ws.length : Int) (i : Int)) R := by
  intro j
  have hs := (worksOk_iff.1 h).1
  have hx := key_bd h hc (show (0 : Int) ≤ (i : Int) by omega) (by omega)
  have put : ∀ j : Nat, j ≤ P.length → ¬ ((j : Int) > 0 ∧ keyBy ws c (rd P (j - 1 : Int)) > keyBy ws c (i : Int)) → Ev (fun k => spec_l24By.l0 k ws c (insAt P j (i : Int)) ws (ws.length : Int) ((i + 1 : Nat) : Int)) R → Ev (fun k => spec_l24By.l1 k ws c P (i : Int) (rd_L1 ws (i : Int)) (j : Int) ws (ws.length : Int) (i : Int)) R := by
    intro j hj hn hr
    refine Ev.step (f := fun k => spec_l24By.l0 k ws c (insAt P j (i : Int)) ws (ws.length : Int) ((i + 1 : Nat) : Int)) (fun k => ?_) hr
    simp only [spec_l24By.l1, Option.bind_some]
    have e : ([] ++ P.take j ++ [(i : Int)]) ++ P.drop j = insAt P j (i : Int) := by simp [insAt]
    by_cases c0 : (j : Int) > 0
    · have hlt : j - 1 < P.length := by omega
      have hy := hb P[j - 1] (List.getElem_mem hlt)
      have hk := key_bd h hc hy.1 hy.2
      have ej : ((j : Int) - 1) = ((j - 1 : Nat) : Int) := by omega
      rw [ej] at hn
      rw [if_pos c0, w64 (x := (j : Int) - 1) (by omega) (by omega), ej, rd_get hlt]
      rw [rd_get hlt] at hn
      unfold keyBy at hn
      rw [if_pos (by omega), if_pos (by omega), if_pos hy.1, if_pos (by omega), if_pos (by omega), if_pos (by omega), if_pos (by omega), if_neg (fun z => hn ⟨c0, z⟩)]
      rw [if_pos (by omega), if_pos (by omega), if_pos (by simp; omega), if_pos (by simp; omega), if_pos (by simp; omega), Int.toNat_natCast, e, w64 (x := (i : Int) + 1) (by omega) (by omega)]
      rfl
    · rw [if_neg c0, if_pos (by omega), if_pos (by omega), if_pos (by simp; omega), if_pos (by simp; omega), if_pos (by simp; omega), Int.toNat_natCast, e, w64 (x := (i : Int) + 1) (by omega) (by omega)]
      rfl
  induction j with
  | zero => intro hj hr; exact put 0 hj (by simp) hr
  | succ j ih =>
    intro hj hr
    simp only [pos] at hr
    have hlt : j < P.length := by omega
    by_cases c1 : keyBy ws c (rd P (j : Int)) > keyBy ws c (i : Int)
    · rw [if_pos c1] at hr
      have hy := hb P[j] (List.getElem_mem hlt)
      have hk := key_bd h hc hy.1 hy.2
      refine Ev.step (f := fun k => spec_l24By.l1 k ws c P (i : Int) (rd_L1 ws (i : Int)) (j : Int) ws (ws.length : Int) (i : Int)) (fun k => ?_) (ih (by omega) hr)
      simp only [spec_l24By.l1]
      rw [show wrap64 (((j + 1 : Nat) : Int) - 1) = (j : Int) by rw [w64 (by omega) (by omega)]; omega]
      unfold keyBy at c1
      rw [rd_get hlt] at c1 ⊢
      rw [if_pos (by omega), if_pos (by omega), if_pos (by omega), if_pos hy.1, if_pos (by omega), if_pos (by omega), if_pos (by omega), if_pos (by omega), if_pos c1]
    · rw [if_neg c1] at hr
      refine put (j + 1) hj (fun z => c1 ?_) hr
      have := z.2
      rwa [show ((j + 1 : Nat) : Int) - 1 = (j : Int) by omega] at this
theorem spec_by_0 {ws : List (List Int)} (h : worksOk ws = true) {c : Int} (hc : c = 0 ∨ c = 1) : ∀ (m i : Nat) (P : List Int), i + m = ws.length → P.length = i → (∀ y ∈ P, 0 ≤ y ∧ y ≤ (ws.length : Int) - 1) →
    Ev (fun k => spec_l24By.l0 k ws c P ws (ws.length : Int) (i : Int)) (sortL (keyBy ws c) P ((List.range' i m).map fun t : Nat => (t : Int))) := by
  intro m
  have hs := (worksOk_iff.1 h).1
  induction m with
  | zero =>
    intro i P hi hP hb
    refine Ev.step (f := fun _ => some P) (fun k => ?_) (Ev.now _)
    simp only [spec_l24By.l0]
    rw [if_neg (by omega)]
  | succ m ih =>
    intro i P hi hP hb
    have hlt : i < ws.length := by omega
    rw [List.range'_succ, List.map_cons]
    simp only [sortL]
    have hl := insAt_len (P := P) (i : Int) (pos_le (keyBy ws c) P (i : Int) P.length)
    have hn := ih (i + 1) (insAt P (pos (keyBy ws c) P (i : Int) P.length) (i : Int)) (by omega) (by omega) (fun y hy => by
      rcases insAt_mem hy with hy | rfl
      · exact hb y hy
      · omega)
    refine Ev.step (f := fun k => spec_l24By.l1 k ws c P (i : Int) (rd_L1 ws (i : Int)) (P.length : Int) ws (ws.length : Int) (i : Int)) (fun k => ?_) (spec_by_1 h hc P i hlt (by omega) hb _ P.length (Nat.le_refl _) hn)
    simp only [spec_l24By.l0]
    rw [if_pos (by omega), if_pos (by omega), if_pos (by omega)]
theorem cfBy_eq {ws : List (List Int)} (h : worksOk ws = true) {c : Int} (hc : c = 0 ∨ c = 1) {x y : Int} (h0 : 0 ≤ x ∧ x ≤ (ws.length : Int) - 1) (h1 : 0 ≤ y ∧ y ≤ (ws.length : Int) - 1) : cfBy ws c x y = some (keyBy ws c x - keyBy ws c y) := by
  have k1 := key_bd h hc h0.1 h0.2
  have k2 := key_bd h hc h1.1 h1.2
  unfold cfBy
  rw [if_pos ⟨⟨h0.1, by omega⟩, h1.1, by omega⟩, if_pos ⟨⟨by omega, by omega⟩, by omega⟩]
  unfold keyBy at *
  rw [w64 (by omega) (by omega)]
theorem swap_eq (A B : List Int) (p x : Int) : ((A ++ p :: x :: B).set (A.length + 1) p).set A.length x = A ++ x :: p :: B := by
  simp [List.set_append]
theorem rd_at (A B : List Int) (p : Int) : rd (A ++ p :: B) (A.length : Int) = p := by
  rw [rd_nat]
  simp [List.getD_eq_getElem?_getD]
theorem rd_at1 (A B : List Int) (p x : Int) : rd (A ++ p :: x :: B) ((A.length + 1 : Nat) : Int) = x := by
  rw [rd_nat]
  simp [List.getD_eq_getElem?_getD]

theorem impl_ins_1 {ws : List (List Int)} (h : worksOk ws = true) {c : Int} (hc : c = 0 ∨ c = 1) (P S : List Int) (x : Int) (n : Int) (hP : P.length + S.length ≤ 7) (hx : 0 ≤ x ∧ x ≤ (ws.length : Int) - 1) (hb : ∀ y ∈ P, 0 ≤ y ∧ y ≤ (ws.length : Int) - 1) (R : List Int) : ∀ j, j ≤ P.length →
    Ev (fun k => slices_insertionSortCmpFunc_int.l0 (cfBy ws c) k (insAt P (pos (keyBy ws c) P x j) x ++ S) 0 n ((P.length + 1 : Nat) : Int)) R →
    Ev (fun k => slices_insertionSortCmpFunc_int.l1 (cfBy ws c) k (insAt P j x ++ S) 0 n (P.length : Int) (j : Int)) R := by
  intro j
  induction j with
  | zero =>
    intro hj hr
    simp only [pos] at hr
    refine Ev.step (f := fun k => slices_insertionSortCmpFunc_int.l0 (cfBy ws c) k (insAt P 0 x ++ S) 0 n ((P.length + 1 : Nat) : Int)) (fun k => ?_) hr
    simp only [slices_insertionSortCmpFunc_int.l1]
    rw [if_neg (by omega), w64 (x := (P.length : Int) + 1) (by omega) (by omega)]
    rfl
  | succ j ih =>
    intro hj hr
    simp only [pos] at hr
    have hlt : j < P.length := by omega
    have hy := hb P[j] (List.getElem_mem hlt)
    have eA : (P.take j).length = j := by rw [List.length_take]; omega
    have e1 : insAt P (j + 1) x ++ S = P.take j ++ P[j] :: x :: (P.drop (j + 1) ++ S) := by
      unfold insAt
      rw [List.take_succ_eq_append_getElem hlt]
      simp only [List.append_assoc, List.cons_append, List.nil_append]
    have e2 : insAt P j x ++ S = P.take j ++ x :: P[j] :: (P.drop (j + 1) ++ S) := by
      unfold insAt
      rw [List.drop_eq_getElem_cons hlt]
      simp only [List.append_assoc, List.cons_append, List.nil_append]
    have r1 : rd (P.take j ++ P[j] :: x :: (P.drop (j + 1) ++ S)) ((j + 1 : Nat) : Int) = x := by have := rd_at1 (P.take j) (P.drop (j + 1) ++ S) P[j] x; rwa [eA] at this
    have r2 : rd (P.take j ++ P[j] :: x :: (P.drop (j + 1) ++ S)) (j : Int) = P[j] := by have := rd_at (P.take j) (x :: (P.drop (j + 1) ++ S)) P[j]; rwa [eA] at this
    have sw : ((P.take j ++ P[j] :: x :: (P.drop (j + 1) ++ S)).set (j + 1) P[j]).set j x = insAt P j x ++ S := by rw [e2]; have := swap_eq (P.take j) (P.drop (j + 1) ++ S) P[j] x; rwa [eA] at this
    have hlen : (P.take j ++ P[j] :: x :: (P.drop (j + 1) ++ S)).length = P.length + 1 + S.length := by simp; omega
    rw [e1]
    rw [rd_get hlt] at hr
    by_cases c1 : keyBy ws c P[j] > keyBy ws c x
    · rw [if_pos c1] at hr
      refine Ev.step (f := fun k => slices_insertionSortCmpFunc_int.l1 (cfBy ws c) k (insAt P j x ++ S) 0 n (P.length : Int) (j : Int)) (fun k => ?_) (ih (by omega) hr)
      simp only [slices_insertionSortCmpFunc_int.l1]
      rw [show wrap64 (((j + 1 : Nat) : Int) - 1) = (j : Int) by rw [w64 (by omega) (by omega)]; omega]
      rw [if_pos (by omega), if_pos (by omega), if_pos (by omega), if_pos (by omega), if_pos (by omega), r1, r2, cfBy_eq h hc hx hy, Option.bind_some, if_pos (by omega), Int.toNat_natCast, Int.toNat_natCast, sw]
    · rw [if_neg c1, e1] at hr
      refine Ev.step (f := fun k => slices_insertionSortCmpFunc_int.l0 (cfBy ws c) k (P.take j ++ P[j] :: x :: (P.drop (j + 1) ++ S)) 0 n ((P.length + 1 : Nat) : Int)) (fun k => ?_) hr
      simp only [slices_insertionSortCmpFunc_int.l1]
      rw [show wrap64 (((j + 1 : Nat) : Int) - 1) = (j : Int) by rw [w64 (by omega) (by omega)]; omega]
      rw [if_pos (by omega), if_pos (by omega), if_pos (by omega), if_pos (by omega), if_pos (by omega), r1, r2, cfBy_eq h hc hx hy, Option.bind_some, if_neg (by omega), w64 (x := (P.length : Int) + 1) (by omega) (by omega)]
      rfl
theorem impl_ins_0 {ws : List (List Int)} (h : worksOk ws = true) {c : Int} (hc : c = 0 ∨ c = 1) : ∀ (S P : List Int), P.length + S.length ≤ 7 → (∀ y ∈ P, 0 ≤ y ∧ y ≤ (ws.length : Int) - 1) → (∀ y ∈ S, 0 ≤ y ∧ y ≤ (ws.length : Int) - 1) →
    Ev (fun k => slices_insertionSortCmpFunc_int.l0 (cfBy ws c) k (P ++ S) 0 ((P.length + S.length : Nat) : Int) (P.length : Int)) (sortL (keyBy ws c) P S) := by
  intro S
  induction S with
  | nil =>
    intro P hl hb _
    refine Ev.step (f := fun _ => some (P ++ [])) (fun k => ?_) (ev_eq (Ev.now _) (by simp [sortL]))
    simp only [slices_insertionSortCmpFunc_int.l0]
    rw [if_neg (by simp)]
  | cons x S ih =>
    intro P hl hb hs
    simp only [List.length_cons] at hl
    have hx := hs x List.mem_cons_self
    have hlen := insAt_len (P := P) x (pos_le (keyBy ws c) P x P.length)
    have hn := ih (insAt P (pos (keyBy ws c) P x P.length) x) (by omega) (fun y hy => by
      rcases insAt_mem hy with hy | rfl
      · exact hb y hy
      · exact hx) (fun y hy => hs y (List.mem_cons_of_mem _ hy))
    rw [hlen] at hn
    have e : P ++ x :: S = insAt P P.length x ++ S := by simp [insAt]
    have h1 := impl_ins_1 h hc P S x ((P.length + 1 + S.length : Nat) : Int) (by omega) hx hb _ P.length (Nat.le_refl _) hn
    simp only [sortL]
    rw [e]
    refine Ev.step (f := fun k => slices_insertionSortCmpFunc_int.l1 (cfBy ws c) k (insAt P P.length x ++ S) 0 ((P.length + 1 + S.length : Nat) : Int) (P.length : Int) (P.length : Int)) (fun k => ?_) h1
    simp only [slices_insertionSortCmpFunc_int.l0, List.length_cons]
    rw [if_pos (by omega), show P.length + (S.length + 1) = P.length + 1 + S.length by omega]
def orderBy (ws : List (List Int)) (c : Int) : List Int := sortL (keyBy ws c) [] (upto ws.length)
theorem spec_by_ev {ws : List (List Int)} (h : worksOk ws = true) {c : Int} (hc : c = 0 ∨ c = 1) : Ev (fun k => spec_l24By.f k ws c) (orderBy ws c) := by
  have e := spec_by_0 h hc ws.length 0 [] (by omega) rfl (by simp)
  rw [← List.range_eq_range'] at e
  exact e
theorem impl_by_ev {ws : List (List Int)} (h : worksOk ws = true) {c : Int} (hc : c = 0 ∨ c = 1) : Ev (fun k => impl_orderBy.f k ws c) (orderBy ws c) := by
  have hs := (worksOk_iff.1 h).1
  unfold impl_orderBy.f
  refine Ev.bind (orderOf_ev ws.length hs) ?_
  refine Ev.congr (fun k => if_pos (by rw [upto_len]; omega)) ?_
  unfold slices_insertionSortCmpFunc_int.f orderBy
  rw [upto_len]
  have hm : ∀ y ∈ upto ws.length, 0 ≤ y ∧ y ≤ (ws.length : Int) - 1 := fun y hy => mem_upto.1 hy
  have hl := upto_len ws.length
  generalize upto ws.length = S at *
  cases S with
  | nil =>
    simp only [List.length_nil] at hl
    refine Ev.step (f := fun _ => some []) (fun k => ?_) (Ev.now _)
    simp only [slices_insertionSortCmpFunc_int.l0]
    rw [if_neg (by rw [w64 (by omega) (by omega)]; omega)]
  | cons x S =>
    simp only [List.length_cons] at hl
    have e := impl_ins_0 h hc S [x] (by simp; omega) (fun y hy => hm y (by simp at hy; simp [hy])) (fun y hy => hm y (List.mem_cons_of_mem _ hy))
    simp only [List.length_cons, List.length_nil] at e
    rw [show wrap64 (0 + 1) = ((0 + 1 : Nat) : Int) by rw [w64 (by omega) (by omega)]; rfl, ← hl, show S.length + 1 = 0 + 1 + S.length by omega]
    exact e

end Go.Proofs.Ytoonamloihbjnaa.PA

/- Texts of this claim put together in build order (FnExactSlackOf). -/
import Derived.Test.YtoonamloihbjnaaMSlackOf3
import Derived.Test.YtoonamloihbjnaaMSlackOf0
import Derived.Test.YtoonamloihbjnaaMSlackOf2
import Derived.Test.YtoonamloihbjnaaMSlackOf1
import Derived.Deep.Matrix
import Derived.Test.YtoonamloihbjnaaRows
import Derived.WalkKit
import Derived.ProofKit
import Derived.OpenShut
import Derived.ShutString
import Derived.ChangeOld
import Derived.Below
import Derived.SizedLaws
/- ends, lateness -/
namespace Go.Proofs.Ytoonamloihbjnaa.PA
open Go.RowKit Go.Proofs.YtoonamloihbjnaaW.PrintWords Go.Proofs.YtoonamloihbjnaaW.PrintLast Go.Proofs.YtoonamloihbjnaaW.PrintMore
set_option linter.unusedVariables false
set_option linter.unusedSimpArgs false
def endsL (ws : List (List Int)) : Int → List Int → List Int → List Int
  | _, out, [] => out
  | at_, out, i :: o => endsL ws (at_ + rd (rd_L1 ws i) 0) (out.set i.toNat (at_ + rd (rd_L1 ws i) 0)) o
def endsOf (ws : List (List Int)) (o : List Int) : List Int := endsL ws 0 (List.replicate ws.length 0) o
theorem endsL_len (ws : List (List Int)) : ∀ (o : List Int) (a : Int) (out : List Int), (endsL ws a out o).length = out.length := by
  intro o
  induction o with
  | nil => intro a out; rfl
  | cons i o ih => intro a out; simp only [endsL]; rw [ih]; simp
theorem endsL_mem {ws : List (List Int)} (h : worksOk ws = true) : ∀ (o : List Int) (a : Int) (out : List Int), (∀ x ∈ o, 0 ≤ x ∧ x ≤ (ws.length : Int) - 1) → o.length ≤ 7 → 0 ≤ a → a + 100 * (o.length : Int) ≤ 700 → (∀ x ∈ out, 0 ≤ x ∧ x ≤ 700) → ∀ x ∈ endsL ws a out o, 0 ≤ x ∧ x ≤ 700 := by
  intro o
  induction o with
  | nil => intro a out _ _ _ _ hb; exact hb
  | cons i o ih =>
    intro a out ho hl h0 h1 hb
    have hi := ho i List.mem_cons_self
    have hw := work_at h hi.1 hi.2
    have w1 := hw.w1
    have w2 := hw.w2
    simp only [List.length_cons] at hl h1
    simp only [endsL]
    refine ih _ _ (fun x hx => ho x (List.mem_cons_of_mem _ hx)) (by omega) (by omega) (by omega) (fun x hx => ?_)
    rcases List.mem_or_eq_of_mem_set hx with hx | rfl
    · exact hb x hx
    · omega
theorem spec_ends_l {ws : List (List Int)} (h : worksOk ws = true) (o : List Int) (ho : ∀ x ∈ o, 0 ≤ x ∧ x ≤ (ws.length : Int) - 1) (hl : o.length ≤ 7) : ∀ (m i : Nat) (a : Int) (out : List Int), i + m = o.length → out.length = ws.length → 0 ≤ a → a ≤ 100 * (i : Int) →
    Ev (fun k => spec_l24Ends.l0 k ws out a o (o.length : Int) (i : Int)) (endsL ws a out (o.drop i)) := by
  intro m
  induction m with
  | zero =>
    intro i a out hi hout h0 h1
    refine Ev.step (f := fun _ => some (endsL ws a out (o.drop i))) (fun k => ?_) (Ev.now _)
    simp only [spec_l24Ends.l0]
    rw [if_neg (by omega), List.drop_of_length_le (by omega)]
    rfl
  | succ m ih =>
    intro i a out hi hout h0 h1
    have hlt : i < o.length := by omega
    have hx := ho o[i] (List.getElem_mem hlt)
    have hw := work_at h hx.1 hx.2
    have w0 := hw.len
    have w1 := hw.w1
    have w2 := hw.w2
    rw [List.drop_eq_getElem_cons hlt]
    simp only [endsL]
    refine Ev.step (f := fun k => spec_l24Ends.l0 k ws (out.set o[i].toNat (a + rd (rd_L1 ws o[i]) 0)) (a + rd (rd_L1 ws o[i]) 0) o (o.length : Int) ((i + 1 : Nat) : Int)) (fun k => ?_) (ih (i + 1) (a + rd (rd_L1 ws o[i]) 0) (out.set o[i].toNat (a + rd (rd_L1 ws o[i]) 0)) (by omega) (by simpa using hout) (by omega) (by omega))
    simp only [spec_l24Ends.l0]
    rw [if_pos (by omega), if_pos (by omega), if_pos (by omega), rd_get hlt, if_pos hx.1, if_pos (by omega), if_pos (by omega), if_pos (by omega), w64 (x := a + rd (rd_L1 ws o[i]) 0) (by omega) (by omega), w64 (x := (i : Int) + 1) (by omega) (by omega)]
    rfl
theorem impl_ends_l {ws : List (List Int)} (h : worksOk ws = true) (o : List Int) (ho : ∀ x ∈ o, 0 ≤ x ∧ x ≤ (ws.length : Int) - 1) (hl : o.length ≤ 7) : ∀ (m i : Nat) (a : Int) (out : List Int), i + m = o.length → out.length = ws.length → 0 ≤ a → a ≤ 100 * (i : Int) →
    Ev (fun k => impl_EndsAt.l0 k ws out a o (o.length : Int) (i : Int)) (endsL ws a out (o.drop i)) := by
  intro m
  induction m with
  | zero =>
    intro i a out hi hout h0 h1
    refine Ev.step (f := fun _ => some (endsL ws a out (o.drop i))) (fun k => ?_) (Ev.now _)
    simp only [impl_EndsAt.l0]
    rw [if_neg (by omega), List.drop_of_length_le (by omega)]
    rfl
  | succ m ih =>
    intro i a out hi hout h0 h1
    have hlt : i < o.length := by omega
    have hx := ho o[i] (List.getElem_mem hlt)
    have hw := work_at h hx.1 hx.2
    have w0 := hw.len
    have w1 := hw.w1
    have w2 := hw.w2
    rw [List.drop_eq_getElem_cons hlt]
    simp only [endsL]
    refine Ev.step (f := fun k => impl_EndsAt.l0 k ws (out.set o[i].toNat (a + rd (rd_L1 ws o[i]) 0)) (a + rd (rd_L1 ws o[i]) 0) o (o.length : Int) ((i + 1 : Nat) : Int)) (fun k => ?_) (ih (i + 1) (a + rd (rd_L1 ws o[i]) 0) (out.set o[i].toNat (a + rd (rd_L1 ws o[i]) 0)) (by omega) (by simpa using hout) (by omega) (by omega))
    simp only [impl_EndsAt.l0]
    rw [if_pos (by omega), if_pos (by omega), if_pos (by omega), rd_get hlt, if_pos hx.1, if_pos (by omega), if_pos (by omega), if_pos (by omega), w64 (x := a + rd (rd_L1 ws o[i]) 0) (by omega) (by omega), w64 (x := (i : Int) + 1) (by omega) (by omega)]
    rfl
structure OrdOk (ws : List (List Int)) (o : List Int) : Prop where
  works : worksOk ws = true
  len : o.length = ws.length
  small : ws.length ≤ 7
  mem : ∀ x ∈ o, 0 ≤ x ∧ x ≤ (ws.length : Int) - 1
theorem ordOk_of {ws : List (List Int)} {o : List Int} (h : workOrd ws o = true) : OrdOk ws o := by
  obtain ⟨h1, h2, h3, _⟩ := workOrd_iff.1 h
  exact ⟨h1, h2, (worksOk_iff.1 h1).1, h3⟩
theorem ends_facts {ws : List (List Int)} {o : List Int} (h : OrdOk ws o) : (endsOf ws o).length = ws.length ∧ ∀ x ∈ endsOf ws o, 0 ≤ x ∧ x ≤ 700 := by
  have h1 := h.len
  have h2 := h.small
  refine ⟨by unfold endsOf; rw [endsL_len, List.length_replicate], endsL_mem h.works o 0 _ h.mem (by omega) (by omega) (by omega) (fun x hx => ?_)⟩
  rw [List.eq_of_mem_replicate hx]
  omega
theorem spec_ends_ev {ws : List (List Int)} {o : List Int} (h : OrdOk ws o) : Ev (fun k => spec_l24Ends.f k ws o) (endsOf ws o) := by
  have h1 := h.len
  have h2 := h.small
  have e := spec_ends_l h.works o h.mem (by omega) o.length 0 0 (List.replicate ws.length 0) (by omega) (by simp) (by omega) (by omega)
  unfold spec_l24Ends.f
  refine Ev.congr (fun k => (if_pos (by omega)).trans (if_pos (by omega))) ?_
  rw [Int.toNat_natCast]
  exact e
theorem impl_EndsAt_ev (ws : List (List Int)) (o : List Int) (ho : o.length ≤ 1048576) : Ev (fun k => impl_EndsAt.f k ws o) (if workOrd ws o = true then endsOf ws o else []) := by
  unfold impl_EndsAt.f
  refine Ev.bind (impl_WorkOrd_ev ws o ho) ?_
  by_cases c : workOrd ws o = true
  · have h := ordOk_of c
    have h1 := h.len
    have h2 := h.small
    refine ev_eq (Ev.congr (fun k => (if_pos c).trans ((if_pos (by omega)).trans (if_pos (by omega)))) ?_) (if_pos c).symm
    have e := impl_ends_l h.works o h.mem (by omega) o.length 0 0 (List.replicate ws.length 0) (by omega) (by simp) (by omega) (by omega)
    rw [Int.toNat_natCast]
    exact e
  · exact ev_eq (Ev.congr (fun k => if_neg c) (Ev.now _)) (if_neg c).symm
end Go.Proofs.Ytoonamloihbjnaa.PA
/- order by a column -/
namespace Go.Proofs.Ytoonamloihbjnaa.PA
open Go.RowKit Go.Proofs.YtoonamloihbjnaaW.PrintWords Go.Proofs.YtoonamloihbjnaaW.PrintLast Go.Proofs.YtoonamloihbjnaaW.PrintMore
set_option linter.unusedVariables false
set_option linter.unusedSimpArgs false
def pos (K : Int → Int) (P : List Int) (x : Int) : Nat → Nat
  | 0 => 0
  | j + 1 => if K (rd P (j : Int)) > K x then pos K P x j else j + 1
def insAt (P : List Int) (j : Nat) (x : Int) : List Int := P.take j ++ x :: P.drop j
def sortL (K : Int → Int) : List Int → List Int → List Int
  | P, [] => P
  | P, x :: S => sortL K (insAt P (pos K P x P.length) x) S
theorem pos_le (K : Int → Int) (P : List Int) (x : Int) : ∀ j, pos K P x j ≤ j := by
  intro j
  induction j with
  | zero => exact Nat.le_refl _
  | succ j ih => simp only [pos]; split <;> omega
theorem insAt_len {P : List Int} {j : Nat} (x : Int) (h : j ≤ P.length) : (insAt P j x).length = P.length + 1 := by simp [insAt]; omega
theorem insAt_mem {P : List Int} {j : Nat} {x y : Int} (h : y ∈ insAt P j x) : y ∈ P ∨ y = x := by
  unfold insAt at h
  rcases List.mem_append.1 h with h | h
  · exact .inl (List.mem_of_mem_take h)
  · rcases List.mem_cons.1 h with h | h
    · exact .inr h
    · exact .inl (List.mem_of_mem_drop h)
def keyBy (ws : List (List Int)) (c x : Int) : Int := rd (rd_L1 ws x) c
theorem key_bd {ws : List (List Int)} (h : worksOk ws = true) {c x : Int} (hc : c = 0 ∨ c = 1) (h0 : 0 ≤ x) (h1 : x ≤ (ws.length : Int) - 1) : 0 ≤ keyBy ws c x ∧ keyBy ws c x ≤ 1000 ∧ (rd_L1 ws x).length = 2 := by
  have hw := work_at h h0 h1
  have w1 := hw.w1
  have w2 := hw.w2
  have w3 := hw.h1
  have w4 := hw.h2
  unfold keyBy
  rcases hc with rfl | rfl
  · exact ⟨by omega, by omega, hw.len⟩
  · exact ⟨by omega, by omega, hw.len⟩
theorem spec_by_1 {ws : List (List Int)} (h : worksOk ws = true) {c : Int} (hc : c = 0 ∨ c = 1) (P : List Int) (i : Nat) (hi : i < ws.length) (hP : P.length ≤ 7) (hb : ∀ y ∈ P, 0 ≤ y ∧ y ≤ (ws.length : Int) - 1) (R : List Int) : ∀ j, j ≤ P.length →
    Ev (fun k => spec_l24By.l0 k ws c (insAt P (pos (keyBy ws c) P (i : Int) j) (i : Int)) ws (ws.length : Int) ((i + 1 : Nat) : Int)) R →
    Ev (fun k => spec_l24By.l1 k ws c P (i : Int) (rd_L1 ws (i : Int)) (j : Int) ws (ws.length : Int) (i : Int)) R := by
  intro j
  have hs := (worksOk_iff.1 h).1
  have hx := key_bd h hc (show (0 : Int) ≤ (i : Int) by omega) (by omega)
  have put : ∀ j : Nat, j ≤ P.length → ¬ ((j : Int) > 0 ∧ keyBy ws c (rd P (j - 1 : Int)) > keyBy ws c (i : Int)) → Ev (fun k => spec_l24By.l0 k ws c (insAt P j (i : Int)) ws (ws.length : Int) ((i + 1 : Nat) : Int)) R → Ev (fun k => spec_l24By.l1 k ws c P (i : Int) (rd_L1 ws (i : Int)) (j : Int) ws (ws.length : Int) (i : Int)) R := by
    intro j hj hn hr
    refine Ev.step (f := fun k => spec_l24By.l0 k ws c (insAt P j (i : Int)) ws (ws.length : Int) ((i + 1 : Nat) : Int)) (fun k => ?_) hr
    simp only [spec_l24By.l1, Option.bind_some]
    have e : ([] ++ P.take j ++ [(i : Int)]) ++ P.drop j = insAt P j (i : Int) := by simp [insAt]
    by_cases c0 : (j : Int) > 0
    · have hlt : j - 1 < P.length := by omega
      have hy := hb P[j - 1] (List.getElem_mem hlt)
      have hk := key_bd h hc hy.1 hy.2
      have ej : ((j : Int) - 1) = ((j - 1 : Nat) : Int) := by omega
      rw [ej] at hn
      rw [if_pos c0, w64 (x := (j : Int) - 1) (by omega) (by omega), ej, rd_get hlt]
      rw [rd_get hlt] at hn
      unfold keyBy at hn
      rw [if_pos (by omega), if_pos (by omega), if_pos hy.1, if_pos (by omega), if_pos (by omega), if_pos (by omega), if_pos (by omega), if_neg (fun z => hn ⟨c0, z⟩)]
      rw [if_pos (by omega), if_pos (by omega), if_pos (by simp; omega), if_pos (by simp; omega), if_pos (by simp; omega), Int.toNat_natCast, e, w64 (x := (i : Int) + 1) (by omega) (by omega)]
      rfl
    · rw [if_neg c0, if_pos (by omega), if_pos (by omega), if_pos (by simp; omega), if_pos (by simp; omega), if_pos (by simp; omega), Int.toNat_natCast, e, w64 (x := (i : Int) + 1) (by omega) (by omega)]
      rfl
  induction j with
  | zero => intro hj hr; exact put 0 hj (by simp) hr
  | succ j ih =>
    intro hj hr
    simp only [pos] at hr
    have hlt : j < P.length := by omega
    by_cases c1 : keyBy ws c (rd P (j : Int)) > keyBy ws c (i : Int)
    · rw [if_pos c1] at hr
      have hy := hb P[j] (List.getElem_mem hlt)
      have hk := key_bd h hc hy.1 hy.2
      refine Ev.step (f := fun k => spec_l24By.l1 k ws c P (i : Int) (rd_L1 ws (i : Int)) (j : Int) ws (ws.length : Int) (i : Int)) (fun k => ?_) (ih (by omega) hr)
      simp only [spec_l24By.l1]
      rw [show wrap64 (((j + 1 : Nat) : Int) - 1) = (j : Int) by rw [w64 (by omega) (by omega)]; omega]
      unfold keyBy at c1
      rw [rd_get hlt] at c1 ⊢
      rw [if_pos (by omega), if_pos (by omega), if_pos (by omega), if_pos hy.1, if_pos (by omega), if_pos (by omega), if_pos (by omega), if_pos (by omega), if_pos c1]
    · rw [if_neg c1] at hr
      refine put (j + 1) hj (fun z => c1 ?_) hr
      have := z.2
      rwa [show ((j + 1 : Nat) : Int) - 1 = (j : Int) by omega] at this
theorem spec_by_0 {ws : List (List Int)} (h : worksOk ws = true) {c : Int} (hc : c = 0 ∨ c = 1) : ∀ (m i : Nat) (P : List Int), i + m = ws.length → P.length = i → (∀ y ∈ P, 0 ≤ y ∧ y ≤ (ws.length : Int) - 1) →
    Ev (fun k => spec_l24By.l0 k ws c P ws (ws.length : Int) (i : Int)) (sortL (keyBy ws c) P ((List.range' i m).map fun t : Nat => (t : Int))) := by
  intro m
  have hs := (worksOk_iff.1 h).1
  induction m with
  | zero =>
    intro i P hi hP hb
    refine Ev.step (f := fun _ => some P) (fun k => ?_) (Ev.now _)
    simp only [spec_l24By.l0]
    rw [if_neg (by omega)]
  | succ m ih =>
    intro i P hi hP hb
    have hlt : i < ws.length := by omega
    rw [List.range'_succ, List.map_cons]
    simp only [sortL]
    have hl := insAt_len (P := P) (i : Int) (pos_le (keyBy ws c) P (i : Int) P.length)
    have hn := ih (i + 1) (insAt P (pos (keyBy ws c) P (i : Int) P.length) (i : Int)) (by omega) (by omega) (fun y hy => by
      rcases insAt_mem hy with hy | rfl
      · exact hb y hy
      · omega)
    refine Ev.step (f := fun k => spec_l24By.l1 k ws c P (i : Int) (rd_L1 ws (i : Int)) (P.length : Int) ws (ws.length : Int) (i : Int)) (fun k => ?_) (spec_by_1 h hc P i hlt (by omega) hb _ P.length (Nat.le_refl _) hn)
    simp only [spec_l24By.l0]
    rw [if_pos (by omega), if_pos (by omega), if_pos (by omega)]
theorem cfBy_eq {ws : List (List Int)} (h : worksOk ws = true) {c : Int} (hc : c = 0 ∨ c = 1) {x y : Int} (h0 : 0 ≤ x ∧ x ≤ (ws.length : Int) - 1) (h1 : 0 ≤ y ∧ y ≤ (ws.length : Int) - 1) : cfBy ws c x y = some (keyBy ws c x - keyBy ws c y) := by
  have k1 := key_bd h hc h0.1 h0.2
  have k2 := key_bd h hc h1.1 h1.2
  unfold cfBy
  rw [if_pos ⟨⟨h0.1, by omega⟩, h1.1, by omega⟩, if_pos ⟨⟨by omega, by omega⟩, by omega⟩]
  unfold keyBy at *
  rw [w64 (by omega) (by omega)]
theorem swap_eq (A B : List Int) (p x : Int) : ((A ++ p :: x :: B).set (A.length + 1) p).set A.length x = A ++ x :: p :: B := by
  simp [List.set_append]
theorem rd_at (A B : List Int) (p : Int) : rd (A ++ p :: B) (A.length : Int) = p := by
  rw [rd_nat]
  simp [List.getD_eq_getElem?_getD]
theorem rd_at1 (A B : List Int) (p x : Int) : rd (A ++ p :: x :: B) ((A.length + 1 : Nat) : Int) = x := by
  rw [rd_nat]
  simp [List.getD_eq_getElem?_getD]
theorem impl_ins_1 {ws : List (List Int)} (h : worksOk ws = true) {c : Int} (hc : c = 0 ∨ c = 1) (P S : List Int) (x : Int) (n : Int) (hP : P.length + S.length ≤ 7) (hx : 0 ≤ x ∧ x ≤ (ws.length : Int) - 1) (hb : ∀ y ∈ P, 0 ≤ y ∧ y ≤ (ws.length : Int) - 1) (R : List Int) : ∀ j, j ≤ P.length →
    Ev (fun k => slices_insertionSortCmpFunc_int.l0 (cfBy ws c) k (insAt P (pos (keyBy ws c) P x j) x ++ S) 0 n ((P.length + 1 : Nat) : Int)) R →
    Ev (fun k => slices_insertionSortCmpFunc_int.l1 (cfBy ws c) k (insAt P j x ++ S) 0 n (P.length : Int) (j : Int)) R := by
  intro j
  induction j with
  | zero =>
    intro hj hr
    simp only [pos] at hr
    refine Ev.step (f := fun k => slices_insertionSortCmpFunc_int.l0 (cfBy ws c) k (insAt P 0 x ++ S) 0 n ((P.length + 1 : Nat) : Int)) (fun k => ?_) hr
    simp only [slices_insertionSortCmpFunc_int.l1]
    rw [if_neg (by omega), w64 (x := (P.length : Int) + 1) (by omega) (by omega)]
    rfl
  | succ j ih =>
    intro hj hr
    simp only [pos] at hr
    have hlt : j < P.length := by omega
    have hy := hb P[j] (List.getElem_mem hlt)
    have eA : (P.take j).length = j := by rw [List.length_take]; omega
    have e1 : insAt P (j + 1) x ++ S = P.take j ++ P[j] :: x :: (P.drop (j + 1) ++ S) := by
      unfold insAt
      rw [List.take_succ_eq_append_getElem hlt]
      simp only [List.append_assoc, List.cons_append, List.nil_append]
    have e2 : insAt P j x ++ S = P.take j ++ x :: P[j] :: (P.drop (j + 1) ++ S) := by
      unfold insAt
      rw [List.drop_eq_getElem_cons hlt]
      simp only [List.append_assoc, List.cons_append, List.nil_append]
    have r1 : rd (P.take j ++ P[j] :: x :: (P.drop (j + 1) ++ S)) ((j + 1 : Nat) : Int) = x := by have := rd_at1 (P.take j) (P.drop (j + 1) ++ S) P[j] x; rwa [eA] at this
    have r2 : rd (P.take j ++ P[j] :: x :: (P.drop (j + 1) ++ S)) (j : Int) = P[j] := by have := rd_at (P.take j) (x :: (P.drop (j + 1) ++ S)) P[j]; rwa [eA] at this
    have sw : ((P.take j ++ P[j] :: x :: (P.drop (j + 1) ++ S)).set (j + 1) P[j]).set j x = insAt P j x ++ S := by rw [e2]; have := swap_eq (P.take j) (P.drop (j + 1) ++ S) P[j] x; rwa [eA] at this
    have hlen : (P.take j ++ P[j] :: x :: (P.drop (j + 1) ++ S)).length = P.length + 1 + S.length := by simp; omega
    rw [e1]
    rw [rd_get hlt] at hr
    by_cases c1 : keyBy ws c P[j] > keyBy ws c x
    · rw [if_pos c1] at hr
      refine Ev.step (f := fun k => slices_insertionSortCmpFunc_int.l1 (cfBy ws c) k (insAt P j x ++ S) 0 n (P.length : Int) (j : Int)) (fun k => ?_) (ih (by omega) hr)
      simp only [slices_insertionSortCmpFunc_int.l1]
      rw [show wrap64 (((j + 1 : Nat) : Int) - 1) = (j : Int) by rw [w64 (by omega) (by omega)]; omega]
      rw [if_pos (by omega), if_pos (by omega), if_pos (by omega), if_pos (by omega), if_pos (by omega), r1, r2, cfBy_eq h hc hx hy, Option.bind_some, if_pos (by omega), Int.toNat_natCast, Int.toNat_natCast, sw]
    · rw [if_neg c1, e1] at hr
      refine Ev.step (f := fun k => slices_insertionSortCmpFunc_int.l0 (cfBy ws c) k (P.take j ++ P[j] :: x :: (P.drop (j + 1) ++ S)) 0 n ((P.length + 1 : Nat) : Int)) (fun k => ?_) hr
      simp only [slices_insertionSortCmpFunc_int.l1]
      rw [show wrap64 (((j + 1 : Nat) : Int) - 1) = (j : Int) by rw [w64 (by omega) (by omega)]; omega]
      rw [if_pos (by omega), if_pos (by omega), if_pos (by omega), if_pos (by omega), if_pos (by omega), r1, r2, cfBy_eq h hc hx hy, Option.bind_some, if_neg (by omega), w64 (x := (P.length : Int) + 1) (by omega) (by omega)]
      rfl
theorem impl_ins_0 {ws : List (List Int)} (h : worksOk ws = true) {c : Int} (hc : c = 0 ∨ c = 1) : ∀ (S P : List Int), P.length + S.length ≤ 7 → (∀ y ∈ P, 0 ≤ y ∧ y ≤ (ws.length : Int) - 1) → (∀ y ∈ S, 0 ≤ y ∧ y ≤ (ws.length : Int) - 1) →
    Ev (fun k => slices_insertionSortCmpFunc_int.l0 (cfBy ws c) k (P ++ S) 0 ((P.length + S.length : Nat) : Int) (P.length : Int)) (sortL (keyBy ws c) P S) := by
  intro S
  induction S with
  | nil =>
    intro P hl hb _
    refine Ev.step (f := fun _ => some (P ++ [])) (fun k => ?_) (ev_eq (Ev.now _) (by simp [sortL]))
    simp only [slices_insertionSortCmpFunc_int.l0]
    rw [if_neg (by simp)]
  | cons x S ih =>
    intro P hl hb hs
    simp only [List.length_cons] at hl
    have hx := hs x List.mem_cons_self
    have hlen := insAt_len (P := P) x (pos_le (keyBy ws c) P x P.length)
    have hn := ih (insAt P (pos (keyBy ws c) P x P.length) x) (by omega) (fun y hy => by
      rcases insAt_mem hy with hy | rfl
      · exact hb y hy
      · exact hx) (fun y hy => hs y (List.mem_cons_of_mem _ hy))
    rw [hlen] at hn
    have e : P ++ x :: S = insAt P P.length x ++ S := by simp [insAt]
    have h1 := impl_ins_1 h hc P S x ((P.length + 1 + S.length : Nat) : Int) (by omega) hx hb _ P.length (Nat.le_refl _) hn
    simp only [sortL]
    rw [e]
    refine Ev.step (f := fun k => slices_insertionSortCmpFunc_int.l1 (cfBy ws c) k (insAt P P.length x ++ S) 0 ((P.length + 1 + S.length : Nat) : Int) (P.length : Int) (P.length : Int)) (fun k => ?_) h1
    simp only [slices_insertionSortCmpFunc_int.l0, List.length_cons]
    rw [if_pos (by omega), show P.length + (S.length + 1) = P.length + 1 + S.length by omega]
def orderBy (ws : List (List Int)) (c : Int) : List Int := sortL (keyBy ws c) [] (upto ws.length)
theorem spec_by_ev {ws : List (List Int)} (h : worksOk ws = true) {c : Int} (hc : c = 0 ∨ c = 1) : Ev (fun k => spec_l24By.f k ws c) (orderBy ws c) := by
  have e := spec_by_0 h hc ws.length 0 [] (by omega) rfl (by simp)
  rw [← List.range_eq_range'] at e
  exact e
theorem impl_by_ev {ws : List (List Int)} (h : worksOk ws = true) {c : Int} (hc : c = 0 ∨ c = 1) : Ev (fun k => impl_orderBy.f k ws c) (orderBy ws c) := by
  have hs := (worksOk_iff.1 h).1
  unfold impl_orderBy.f
  refine Ev.bind (orderOf_ev ws.length hs) ?_
  refine Ev.congr (fun k => if_pos (by rw [upto_len]; omega)) ?_
  unfold slices_insertionSortCmpFunc_int.f orderBy
  rw [upto_len]
  have hm : ∀ y ∈ upto ws.length, 0 ≤ y ∧ y ≤ (ws.length : Int) - 1 := fun y hy => mem_upto.1 hy
  have hl := upto_len ws.length
  generalize upto ws.length = S at *
  cases S with
  | nil =>
    simp only [List.length_nil] at hl
    refine Ev.step (f := fun _ => some []) (fun k => ?_) (Ev.now _)
    simp only [slices_insertionSortCmpFunc_int.l0]
    rw [if_neg (by rw [w64 (by omega) (by omega)]; omega)]
  | cons x S =>
    simp only [List.length_cons] at hl
    have e := impl_ins_0 h hc S [x] (by simp; omega) (fun y hy => hm y (by simp at hy; simp [hy])) (fun y hy => hm y (List.mem_cons_of_mem _ hy))
    simp only [List.length_cons, List.length_nil] at e
    rw [show wrap64 (0 + 1) = ((0 + 1 : Nat) : Int) by rw [w64 (by omega) (by omega)]; rfl, ← hl, show S.length + 1 = 0 + 1 + S.length by omega]
    exact e
end Go.Proofs.Ytoonamloihbjnaa.PA
/- slack -/
namespace Go.Proofs.Ytoonamloihbjnaa.PA
open Go.RowKit Go.Proofs.YtoonamloihbjnaaW.PrintWords Go.Proofs.YtoonamloihbjnaaW.PrintLast Go.Proofs.YtoonamloihbjnaaW.PrintMore
set_option linter.unusedVariables false
set_option linter.unusedSimpArgs false
theorem insAt_perm (P : List Int) (j : Nat) (x : Int) : (insAt P j x).Perm (P ++ [x]) := by
  unfold insAt
  refine List.perm_middle.trans ?_
  rw [List.take_append_drop]
  exact (List.perm_append_singleton x P).symm
theorem sortL_perm (K : Int → Int) : ∀ (S P : List Int), (sortL K P S).Perm (P ++ S) := by
  intro S
  induction S with
  | nil => intro P; simp [sortL]
  | cons x S ih =>
    intro P
    simp only [sortL]
    refine (ih _).trans ?_
    have h := (insAt_perm P (pos K P x P.length) x).append_right S
    rw [List.append_assoc] at h
    exact h
theorem workOrd_by {ws : List (List Int)} (h : worksOk ws = true) (c : Int) : workOrd ws (orderBy ws c) = true := by
  have hp : (orderBy ws c).Perm (upto ws.length) := by
    have := sortL_perm (keyBy ws c) (upto ws.length) []
    simpa [orderBy] using this
  refine workOrd_iff.2 ⟨h, ?_, fun x hx => mem_upto.1 (hp.mem_iff.1 hx), hp.nodup_iff.2 (upto_nodup _)⟩
  rw [hp.length_eq, upto_len]
def slackL (ws : List (List Int)) : List Int → Nat → Int → Int
  | [], _, m => m
  | e :: t, i, m => slackL ws t (i + 1) (mn m (rd (rd_L1 ws (i : Int)) 1 - e))
theorem mx_both (s : Int) : mx (-1) s = mx s (-1) := by
  unfold mx
  split <;> split <;> omega
theorem spec_slack_l {ws : List (List Int)} (h : worksOk ws = true) (t : List Int) (ht : t.length = ws.length) (hb : ∀ x ∈ t, 0 ≤ x ∧ x ≤ 700) : ∀ (d i : Nat) (m : Int), i + d = t.length →
    Ev (fun k => spec_SlackOf.l0 k ws m t (t.length : Int) (i : Int)) (mx (-1) (slackL ws (t.drop i) i m)) := by
  intro d
  have hs := (worksOk_iff.1 h).1
  induction d with
  | zero =>
    intro i m hi
    refine Ev.step (f := fun _ => some (mx (-1) (slackL ws (t.drop i) i m))) (fun k => ?_) (Ev.now _)
    simp only [spec_SlackOf.l0]
    rw [if_neg (by omega), List.drop_of_length_le (by omega)]
    rfl
  | succ d ih =>
    intro i m hi
    have hlt : i < t.length := by omega
    have hx := hb t[i] (List.getElem_mem hlt)
    have hw := work_at h (show (0 : Int) ≤ (i : Int) by omega) (by omega)
    have w0 := hw.len
    have w1 := hw.h1
    have w2 := hw.h2
    rw [List.drop_eq_getElem_cons hlt]
    simp only [slackL]
    refine Ev.step (f := fun k => spec_SlackOf.l0 k ws (mn m (rd (rd_L1 ws (i : Int)) 1 - t[i])) t (t.length : Int) ((i + 1 : Nat) : Int)) (fun k => ?_) (ih (i + 1) _ (by omega))
    simp only [spec_SlackOf.l0]
    rw [if_pos (by omega), if_pos (by omega), if_pos (by omega), if_pos (by omega), if_pos (by omega), rd_get hlt, w64 (x := rd (rd_L1 ws (i : Int)) 1 - t[i]) (by omega) (by omega), w64 (x := (i : Int) + 1) (by omega) (by omega)]
    rfl
theorem impl_slack_l {ws : List (List Int)} (h : worksOk ws = true) (t : List Int) (ht : t.length = ws.length) (hb : ∀ x ∈ t, 0 ≤ x ∧ x ≤ 700) : ∀ (d i : Nat) (m : Int), i + d = t.length →
    Ev (fun k => impl_SlackOf.l0 k ws m t (t.length : Int) (i : Int)) (mx (-1) (slackL ws (t.drop i) i m)) := by
  intro d
  have hs := (worksOk_iff.1 h).1
  induction d with
  | zero =>
    intro i m hi
    refine Ev.step (f := fun _ => some (mx (-1) (slackL ws (t.drop i) i m))) (fun k => ?_) (Ev.now _)
    simp only [impl_SlackOf.l0]
    rw [if_neg (by omega), List.drop_of_length_le (by omega), mx_both]
    rfl
  | succ d ih =>
    intro i m hi
    have hlt : i < t.length := by omega
    have hx := hb t[i] (List.getElem_mem hlt)
    have hw := work_at h (show (0 : Int) ≤ (i : Int) by omega) (by omega)
    have w0 := hw.len
    have w1 := hw.h1
    have w2 := hw.h2
    rw [List.drop_eq_getElem_cons hlt]
    simp only [slackL]
    refine Ev.step (f := fun k => impl_SlackOf.l0 k ws (mn m (rd (rd_L1 ws (i : Int)) 1 - t[i])) t (t.length : Int) ((i + 1 : Nat) : Int)) (fun k => ?_) (ih (i + 1) _ (by omega))
    simp only [impl_SlackOf.l0]
    rw [if_pos (by omega), if_pos (by omega), if_pos (by omega), if_pos (by omega), if_pos (by omega), rd_get hlt, w64 (x := rd (rd_L1 ws (i : Int)) 1 - t[i]) (by omega) (by omega), w64 (x := (i : Int) + 1) (by omega) (by omega)]
    rfl
def slack (ws : List (List Int)) : Int := if worksOk ws = true then mx (-1) (slackL ws (endsOf ws (orderBy ws 1)) 0 1000) else -1
theorem spec_Slack_ev (ws : List (List Int)) : Ev (fun k => spec_SlackOf.f k ws) (slack ws) := by
  unfold spec_SlackOf.f slack
  refine Ev.bind (spec_WorksOk_ev ws) ?_
  by_cases c : worksOk ws = true
  · have h := ordOk_of (workOrd_by c 1)
    obtain ⟨h1, h2⟩ := ends_facts h
    exact ev_eq (Ev.congr (fun k => if_pos c) (Ev.bind (spec_by_ev c (.inr rfl)) (Ev.bind (spec_ends_ev h) (spec_slack_l c _ h1 h2 (endsOf ws (orderBy ws 1)).length 0 1000 (by omega))))) (if_pos c).symm
  · exact ev_eq (Ev.congr (fun k => if_neg c) (Ev.now _)) (if_neg c).symm
theorem impl_Slack_ev (ws : List (List Int)) : Ev (fun k => impl_SlackOf.f k ws) (slack ws) := by
  unfold impl_SlackOf.f slack
  refine Ev.bind (impl_WorksOk_ev ws) ?_
  by_cases c : worksOk ws = true
  · have h := ordOk_of (workOrd_by c 1)
    obtain ⟨h1, h2⟩ := ends_facts h
    have hl : (orderBy ws 1).length ≤ 1048576 := by have := h.len; have := h.small; omega
    have e := impl_EndsAt_ev ws (orderBy ws 1) hl
    rw [if_pos (workOrd_by c 1)] at e
    exact ev_eq (Ev.congr (fun k => if_pos c) (Ev.bind (impl_by_ev c (.inr rfl)) (Ev.bind e (impl_slack_l c _ h1 h2 (endsOf ws (orderBy ws 1)).length 0 1000 (by omega))))) (if_pos c).symm
  · exact ev_eq (Ev.congr (fun k => if_neg c) (Ev.now _)) (if_neg c).symm
end Go.Proofs.Ytoonamloihbjnaa.PA
/- The program's SlackOf returns what the reference's returns, for all arguments; no condition. -/
namespace Go.Proofs.Ytoonamloihbjnaa.PA
open Go.RowKit Go.Proofs.YtoonamloihbjnaaW.PrintWords
def laws_FnExactSlackOf.Pure : Prop := ∀ (l0 : List (List Int)), l0.length ≤ 9223372036854775807 → (∀ r ∈ l0, r.length ≤ 9223372036854775807) → (∀ r ∈ l0, ∀ x ∈ r, (Lit.int .i64 x).wf = true) → ∃ k, laws_FnExactSlackOf.f k l0 = some true
end Go.Proofs.Ytoonamloihbjnaa.PA
namespace Go.Proofs.Ytoonamloihbjnaa.Pure
open Go.RowKit Go.Proofs.Ytoonamloihbjnaa.PA Go.Proofs.YtoonamloihbjnaaW.PrintWords Go.Proofs.YtoonamloihbjnaaW.PrintLast Go.Proofs.YtoonamloihbjnaaW.PrintMore
set_option linter.unusedVariables false
set_option linter.unusedSimpArgs false
theorem FnExactSlackOf : laws_FnExactSlackOf.Pure := by
  intro l0 hl0 hr0 _
  refine Ev.rounds (g := fun k => laws_FnExactSlackOf.f k l0) ?_
  unfold laws_FnExactSlackOf.f
  obtain ⟨s, hs, hd⟩ := szIntSS_ev l0 hl0 hr0
  refine Ev.bind hs ?_
  by_cases c : s < 0
  · exact Ev.congr (fun k => if_pos c) (Ev.now _)
  refine Ev.congr (fun k => if_neg c) ?_
  obtain ⟨h1, h2⟩ : l0.length ≤ 1048576 ∧ ∀ x ∈ l0, x.length ≤ 1048576 := by
    rcases hd with hd | hd
    · exact absurd hd c
    · exact hd
  refine Ev.bind (toIntSS_ev l0 h1 h2) ?_
  refine Ev.bind (spec_Slack_ev l0) ?_
  refine Ev.bind (toIntSS_ev l0 h1 h2) ?_
  refine Ev.bind (impl_Slack_ev l0) ?_
  refine Ev.congr (fun k => if_pos rfl) ?_
  refine Ev.bind (toIntSS_ev l0 h1 h2) ?_
  refine Ev.bind (eqIntSS_ev l0 l0 (by omega) (fun x hx => by have := h2 x hx; omega)) ?_
  exact ev_const (if_pos (by simp))
end Go.Proofs.Ytoonamloihbjnaa.Pure
/- What the contracts ask of a slice of slices that comes in. -/
namespace Go.Proofs.Ytoonamloihbjnaa.PA
open Go.RowKit Go.Proofs.YtoonamloihbjnaaW.PrintWords Go.Proofs.YtoonamloihbjnaaW.PrintLast Go.Proofs.YtoonamloihbjnaaW.PrintMore
set_option linter.unusedVariables false
set_option linter.unusedSimpArgs false
open Go.ChangeShapes Go.WideShapes Go.Deep in
theorem rows_open {H : Type} {enc : TypeId × Value → H} {P : Program} {w : World} {base : Nat} {held : Bool} {t e q : TypeId} {k : IntKind} {fuel : Nat} {cs : List Value} {x : DataW H × List MemPlace} {a : Option Addr} {len cap : Nat}
    (ht : P.underlying t = some (.slice e)) (he : P.underlying e = some (.slice q)) (hq : P.underlying q = some (.int k))
    (ce : P.cellsOf e = 1) (cq : P.cellsOf q = 1) (h : DataW.trod enc P w base (fun _ => true) held fuel t cs = some x) (hcs : cs = [.slice a len cap]) :
    ∃ l : List (List Int), l.length = len ∧ len ≤ cap ∧ Kd.C (Kd.slice q (Kd.int k)) w a len l ∧ ∀ r ∈ l, ∀ n ∈ r, (Lit.int k n).wf = true := by
  rcases open_int_rows ht he hq ce cq h with ⟨h0, _⟩ | ⟨a', len', cap', A, L, C, Z, h0, _, hl, hm, _, hrows⟩
  · rw [hcs] at h0
    simp at h0
    obtain ⟨rfl, rfl, rfl⟩ := h0
    exact ⟨[], rfl, Nat.le_refl _, ⟨rfl, by omega, fun hh => absurd hh (by omega)⟩, by simp⟩
  · rw [hcs] at h0
    simp at h0
    obtain ⟨rfl, rfl, rfl⟩ := h0
    have hM : maxLen = 9223372036854775807 := rfl
    refine ⟨(List.range len).map fun r => (Z r).take (L r), by simp, hl, ⟨by simp, by omega, fun _ => ⟨a', rfl, fun j p hj => ?_⟩⟩, fun r hr n hn => ?_⟩
    · obtain ⟨hj1, hj2⟩ := List.getElem?_eq_some_iff.1 hj
      have hjl : j < len := by simpa using hj1
      obtain ⟨hc, h1, h2, h3, h4, h5, h6⟩ := hrows j (by omega)
      have hp : p = (Z j).take (L j) := by simpa using hj2.symm
      have hpl : p.length = L j := by rw [hp, List.length_take]; omega
      refine ⟨[.slice (A j) (L j) (C j)], rfl, ⟨A j, C j, by rw [hpl], by omega, ⟨rfl, by omega, fun hp0 => ?_⟩⟩, fun i u hu => ?_⟩
      · cases hA : A j with
        | none => have := h5 hA; omega
        | some b =>
          obtain ⟨_, hcell⟩ := h6 b hA
          refine ⟨b, rfl, fun i y hy => ⟨[.int k y], rfl, rfl, fun i' u hu => ?_⟩⟩
          obtain ⟨hi1, hi2⟩ := List.getElem?_eq_some_iff.1 hy
          cases i' with
          | succ i' => simp at hu
          | zero =>
            simp at hu
            subst hu
            have hz := hcell i (by omega)
            simp only [Kd.int, Kd.scalar, Nat.mul_one, Nat.add_zero]
            rw [hz]
            subst hp
            rw [List.getElem_take] at hi2
            rw [List.getD_eq_getElem?_getD, List.getElem?_eq_getElem (by omega), Option.getD_some, hi2]
      · cases i with
        | succ i => simp at hu
        | zero =>
          simp at hu
          subst hu
          simp only [Kd.slice, Nat.mul_one, Nat.add_zero]
          exact hc
    · obtain ⟨j, hj, rfl⟩ := List.mem_map.1 hr
      obtain ⟨_, _, _, _, h4, _⟩ := hrows j (by have := List.mem_range.1 hj; omega)
      exact h4 n (List.mem_of_mem_take hn)
/-- Each row of what came in has a length that an int holds. -/
theorem rows_len {w : World} {A : Option Addr} {n q : Nat} {k : IntKind} {l : List (List Int)} (h : Kd.C (Kd.slice q (Kd.int k)) w A n l) : l.length ≤ 9223372036854775807 ∧ ∀ r ∈ l, r.length ≤ 9223372036854775807 := by
  obtain ⟨h1, h2, h3⟩ := h
  refine ⟨by omega, fun r hr => ?_⟩
  obtain ⟨j, hj, rfl⟩ := List.getElem_of_mem hr
  obtain ⟨ad, _, hc⟩ := h3 (by omega)
  obtain ⟨c, _, ⟨A', c', _, _, hC⟩, _⟩ := hc j _ (List.getElem?_eq_getElem hj)
  exact hC.2.1
end Go.Proofs.Ytoonamloihbjnaa.PA
/- The row of the law FnExactSlackOf: for every input it answers true and its arguments read as before. No condition. Written by a program of this session's (rowgen.py) in the form of the kit's print. -/
namespace Go.Proofs.Ytoonamloihbjnaa.fnExactSlackOf
open Go.ChangeShapes Go.WideShapes Go.ChangeAt Go.RowKit Go.Proofs.YtoonamloihbjnaaW.PrintWords
open Go.ChangeMaps (open_string shut_string)
set_option linter.unusedVariables false
theorem own : ownKnob Try.prog.godebug = none := by kernel_rfl
theorem laidOut : laidOutB Try.prog = true := by kernel_rfl
def IsRow (k : IntKind) (w : World) (a : Option Addr) (len cap : Nat) (zs : List Int) : Prop :=
  (a = none ∧ len = 0 ∧ cap = 0 ∧ zs = []) ∨
  ∃ x, a = some x ∧ len ≤ cap ∧ cap ≤ maxLen ∧ zs.length = cap ∧ (∀ i, i < zs.length → w.cell? (x.add i) = some (.int k (zs.getD i 0))) ∧ ∀ n ∈ zs, (Lit.int k n).wf = true
set_option maxRecDepth 100000 in
theorem lifted (os : Os) (started : os.Started) (H : Type) (enc : TypeId × Value → H) :
    ReturnsInHanded {} Try.checked os 11 .any (Rows.fnExactSlackOfSpec.pre6 enc Try.prog Try.f11 Rows.fnExactSlackOfRow.domain false) (Rows.fnExactSlackOfSpec.post enc Try.prog Try.f11 false true false false) := by
  refine returnsInHanded_of_change_sized (C := Try.checked) own started (by kernel_rfl) Try.func11
    (ChangeSpec.witness6 (enc := enc) (C := Try.checked) false ⟨#[], #[.slice none 0 0], []⟩ 8 (by kernel_rfl) (by kernel_rfl) (by kernel_rfl) (by kernel_rfl)) ?_
  intro W base args ds gs before hval0 hW hcnd hsz0 _
  have hval : ∀ (j : Nat) t v, Try.f11.params[j]? = some t → args[j]? = some v → Value.okWide Try.prog W .any base t v := hval0
  have hW' := hW
  obtain ⟨p, q, hA0, hV, rfl, hfz, hnd⟩ := hW
  have hA : DataW.TrodAll enc Try.prog W 0 (fun _ => true) true Try.f11.params.toList args.toList ds p := hA0
  rw [Try.params11] at hA hval
  obtain ⟨v0, vs0, d0, ds0, p0, q0, hargs, rfl, rfl, h0, r0⟩ := trodAll_cons hA
  obtain ⟨rfl, rfl, rfl⟩ := trodAll_nil r0
  obtain rfl : args = #[v0] := by cases args; simp_all
  obtain ⟨rfl, rfl⟩ := trodVars_none hV
  obtain ⟨b0, len0, cap0, rfl⟩ := okWide_slice Try.underlying22 (hval 0 22 v0 rfl rfl)
  have k0 := h0
  have lt0 : ∀ x ∈ p0, x.block < W.heap.size := by obtain ⟨m, hm⟩ := k0; exact DataW.trod_lt m _ _ _ hm
  obtain ⟨l0, hl0, hc0, hr0, hw0⟩ : ∃ l : List (List Int), l.length = len0 ∧ len0 ≤ cap0 ∧ Kd.C (Kd.slice 3 (Kd.int .i64)) W b0 len0 l ∧ ∀ r ∈ l, ∀ n ∈ r, (Lit.int .i64 n).wf = true := by
    obtain ⟨fuel, hf⟩ := h0
    exact PA.rows_open Try.underlying22 Try.underlying27 Try.underlying3 (by kernel_rfl) (by kernel_rfl) hf (by simp [Value.cells])
  subst hl0
  clear hA0 hval0 hsz0
  obtain ⟨k, hk⟩ := Pure.FnExactSlackOf l0 (PA.rows_len hr0).1 (PA.rows_len hr0).2 hw0
  refine (PA.laws_FnExactSlackOf.calls k _ _ l0 true W hr0 hc0 hk).mono fun e W' ⟨he, bel0⟩ => ?_
  have bel : Below W.heap.size W W' := bel0
  subst he
  exact ⟨_, rfl, _, _, _, [], _, [], hW', trodAll_mk1 (shut_bool Try.underlying4 _), (trodAll_cons_mk (Below.trod laidOut (by kernel_rfl) (of_decide_eq_true (by kernel_rfl)) k0 bel lt0) trodAll_mk0), rfl, bel.frame _, fun h => by cases h⟩
theorem over : Rows.fnExactSlackOfRow.holds Try.pinned (OpenSpec.ofChange Rows.fnExactSlackOfSpec) :=
  OpenClaim.holds_of_wide 11 Try.f11 rfl rfl rfl rfl rfl rfl rfl ⟨rfl, rfl, rfl, rfl, rfl⟩ rfl rfl rfl rfl rfl (by kernel_rfl) Try.func11 (by kernel_rfl)
    (of_decide_eq_true (by kernel_rfl)) (by unfold Func.isWrapper; first | (rw [if_pos (by decide +kernel)]; kernel_rfl) | (rw [if_neg (by decide +kernel)]; exact ⟨rfl, rfl⟩))
    (fun os started H enc _ => lifted os started H enc)
theorem proved : Rows.FnExactSlackOfSaid := over
#print axioms proved
end Go.Proofs.Ytoonamloihbjnaa.fnExactSlackOf
namespace Go.Proofs.Ytoonamloihbjnaa
/-- The row, under a short name, for the claim. -/
theorem fnExactSlackOf_holds : Rows.FnExactSlackOfSaid := fnExactSlackOf.proved
end Go.Proofs.Ytoonamloihbjnaa

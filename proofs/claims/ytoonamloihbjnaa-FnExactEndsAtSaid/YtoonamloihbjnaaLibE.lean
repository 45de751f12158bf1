/- when works end, and how late -/
import Derived.Test.YtoonamloihbjnaaPAx19
import Derived.Test.YtoonamloihbjnaaPAx20
import Derived.Test.YtoonamloihbjnaaPAx21
import Derived.Test.YtoonamloihbjnaaPAx22
import Derived.Test.YtoonamloihbjnaaPAx23
import Derived.Test.YtoonamloihbjnaaPAx24
import Derived.Test.YtoonamloihbjnaaPAx25
import Derived.Test.YtoonamloihbjnaaLibO
namespace Go.Proofs.Ytoonamloihbjnaa.PA
open Go.RowKit Go.Proofs.YtoonamloihbjnaaW.PrintWords Go.Proofs.YtoonamloihbjnaaW.PrintLast Go.Proofs.YtoonamloihbjnaaW.PrintMore
set_option linter.unusedVariables false
set_option linter.unusedSimpArgs false

/-! EndsAt, LatestBy, CountLate -/
def endsL (ws : List (List Int)) : Int → List Int → List Int → List Int
  | _, out, [] => out
  | at_, out, i :: o => endsL ws (at_ + rd (rd_L1 ws i) 0) (out.set i.toNat (at_ + rd (rd_L1 ws i) 0)) o
def endsOf (ws : List (List Int)) (o : List Int) : List Int := endsL ws 0 (List.replicate ws.length 0) o
theorem endsL_len (ws : List (List Int)) : ∀ (o : List Int) (a : Int) (out : List Int), (endsL ws a out o).length = out.length := by
  intro o
  induction o with
  | nil => intro a out; rfl
  | cons i o ih => intro a out; simp only [endsL]; rw [ih]; simp
theorem work_at {ws : List (List Int)} (h : worksOk ws = true) {i : Int} (h0 : 0 ≤ i) (h1 : i ≤ (ws.length : Int) - 1) : WorkOk (rd_L1 ws i) := by
  have hj : i.toNat < ws.length := by omega
  have : rd_L1 ws i = ws[i.toNat] := by simp [rd_L1, List.getD_eq_getElem?_getD, hj]
  rw [this]
  exact (worksOk_iff.1 h).2 _ (List.getElem_mem hj)
theorem endsL_mem {ws : List (List Int)} (h : worksOk ws = true) : ∀ (o : List Int) (a : Int) (out : List Int), (∀ x ∈ o, 0 ≤ x ∧ x ≤ (ws.length : Int) - 1) → o.length ≤ 7 → 0 ≤ a → a + 100 * (o.length : Int) ≤ 700 → (∀ x ∈ out, 0 ≤ x ∧ x ≤ 700) → ∀ x ∈ endsL ws a out o, 0 ≤ x ∧ x ≤ 700 := by
  intro o
  induction o with
  | nil => intro a out _ _ _ _ hb; exact hb
  | cons i o ih =>
    intro a out ho hl h0 h1 hb
    have hi := ho i List.mem_cons_self
    have hw := work_at h hi.1 hi.2
    have w1 := hw.w1
    have w2 := hw.w2
    simp only [List.length_cons] at hl h1
    simp only [endsL]
    refine ih _ _ (fun x hx => ho x (List.mem_cons_of_mem _ hx)) (by omega) (by omega) (by omega) (fun x hx => ?_)
    rcases List.mem_or_eq_of_mem_set hx with hx | rfl
    · exact hb x hx
    · omega
theorem spec_ends_l {ws : List (List Int)} (h : worksOk ws = true) (o : List Int) (ho : ∀ x ∈ o, 0 ≤ x ∧ x ≤ (ws.length : Int) - 1) (hl : o.length ≤ 7) : ∀ (m i : Nat) (a : Int) (out : List Int), i + m = o.length → out.length = ws.length → 0 ≤ a → a ≤ 100 * (i : Int) →
    Ev (fun k => spec_l24Ends.l0 k ws out a o (o.length : Int) (i : Int)) (endsL ws a out (o.drop i)) := by
  intro m
  induction m with
  | zero =>
    intro i a out hi hout h0 h1
    refine Ev.step (f := fun _ => some (endsL ws a out (o.drop i))) (fun k => ?_) (Ev.now _)
    simp only [spec_l24Ends.l0]
    rw [if_neg (by omega), List.drop_of_length_le (by omega)]
    rfl
  | succ m ih =>
    intro i a out hi hout h0 h1
    have hlt : i < o.length := by omega
    have hx := ho o[i] (List.getElem_mem hlt)
    have hw := work_at h hx.1 hx.2
    have w0 := hw.len
    have w1 := hw.w1
    have w2 := hw.w2
    rw [List.drop_eq_getElem_cons hlt]
    simp only [endsL]
    refine Ev.step (f := fun k => spec_l24Ends.l0 k ws (out.set o[i].toNat (a + rd (rd_L1 ws o[i]) 0)) (a + rd (rd_L1 ws o[i]) 0) o (o.length : Int) ((i + 1 : Nat) : Int)) (fun k => ?_) (ih (i + 1) (a + rd (rd_L1 ws o[i]) 0) (out.set o[i].toNat (a + rd (rd_L1 ws o[i]) 0)) (by omega) (by simpa using hout) (by omega) (by omega))
    simp only [spec_l24Ends.l0]
    rw [if_pos (by omega), if_pos (by omega), if_pos (by omega), rd_get hlt, if_pos hx.1, if_pos (by omega), if_pos (by omega), if_pos (by omega), w64 (x := a + rd (rd_L1 ws o[i]) 0) (by omega) (by omega), w64 (x := (i : Int) + 1) (by omega) (by omega)]
    rfl
theorem impl_ends_l {ws : List (List Int)} (h : worksOk ws = true) (o : List Int) (ho : ∀ x ∈ o, 0 ≤ x ∧ x ≤ (ws.length : Int) - 1) (hl : o.length ≤ 7) : ∀ (m i : Nat) (a : Int) (out : List Int), i + m = o.length → out.length = ws.length → 0 ≤ a → a ≤ 100 * (i : Int) →
    Ev (fun k => impl_EndsAt.l0 k ws out a o (o.length : Int) (i : Int)) (endsL ws a out (o.drop i)) := by
  intro m
  induction m with
  | zero =>
    intro i a out hi hout h0 h1
    refine Ev.step (f := fun _ => some (endsL ws a out (o.drop i))) (fun k => ?_) (Ev.now _)
    simp only [impl_EndsAt.l0]
    rw [if_neg (by omega), List.drop_of_length_le (by omega)]
    rfl
  | succ m ih =>
    intro i a out hi hout h0 h1
    have hlt : i < o.length := by omega
    have hx := ho o[i] (List.getElem_mem hlt)
    have hw := work_at h hx.1 hx.2
    have w0 := hw.len
    have w1 := hw.w1
    have w2 := hw.w2
    rw [List.drop_eq_getElem_cons hlt]
    simp only [endsL]
    refine Ev.step (f := fun k => impl_EndsAt.l0 k ws (out.set o[i].toNat (a + rd (rd_L1 ws o[i]) 0)) (a + rd (rd_L1 ws o[i]) 0) o (o.length : Int) ((i + 1 : Nat) : Int)) (fun k => ?_) (ih (i + 1) (a + rd (rd_L1 ws o[i]) 0) (out.set o[i].toNat (a + rd (rd_L1 ws o[i]) 0)) (by omega) (by simpa using hout) (by omega) (by omega))
    simp only [impl_EndsAt.l0]
    rw [if_pos (by omega), if_pos (by omega), if_pos (by omega), rd_get hlt, if_pos hx.1, if_pos (by omega), if_pos (by omega), if_pos (by omega), w64 (x := a + rd (rd_L1 ws o[i]) 0) (by omega) (by omega), w64 (x := (i : Int) + 1) (by omega) (by omega)]
    rfl
structure OrdOk (ws : List (List Int)) (o : List Int) : Prop where
  works : worksOk ws = true
  len : o.length = ws.length
  small : ws.length ≤ 7
  mem : ∀ x ∈ o, 0 ≤ x ∧ x ≤ (ws.length : Int) - 1
theorem ordOk_of {ws : List (List Int)} {o : List Int} (h : workOrd ws o = true) : OrdOk ws o := by
  obtain ⟨h1, h2, h3, _⟩ := workOrd_iff.1 h
  exact ⟨h1, h2, (worksOk_iff.1 h1).1, h3⟩
theorem ends_facts {ws : List (List Int)} {o : List Int} (h : OrdOk ws o) : (endsOf ws o).length = ws.length ∧ ∀ x ∈ endsOf ws o, 0 ≤ x ∧ x ≤ 700 := by
  have h1 := h.len
  have h2 := h.small
  refine ⟨by unfold endsOf; rw [endsL_len, List.length_replicate], endsL_mem h.works o 0 _ h.mem (by omega) (by omega) (by omega) (fun x hx => ?_)⟩
  rw [List.eq_of_mem_replicate hx]
  omega
theorem spec_ends_ev {ws : List (List Int)} {o : List Int} (h : OrdOk ws o) : Ev (fun k => spec_l24Ends.f k ws o) (endsOf ws o) := by
  have h1 := h.len
  have h2 := h.small
  have e := spec_ends_l h.works o h.mem (by omega) o.length 0 0 (List.replicate ws.length 0) (by omega) (by simp) (by omega) (by omega)
  unfold spec_l24Ends.f
  refine Ev.congr (fun k => (if_pos (by omega)).trans (if_pos (by omega))) ?_
  rw [Int.toNat_natCast]
  exact e
theorem impl_EndsAt_ev (ws : List (List Int)) (o : List Int) (ho : o.length ≤ 1048576) : Ev (fun k => impl_EndsAt.f k ws o) (if workOrd ws o = true then endsOf ws o else []) := by
  unfold impl_EndsAt.f
  refine Ev.bind (impl_WorkOrd_ev ws o ho) ?_
  by_cases c : workOrd ws o = true
  · have h := ordOk_of c
    have h1 := h.len
    have h2 := h.small
    refine ev_eq (Ev.congr (fun k => (if_pos c).trans ((if_pos (by omega)).trans (if_pos (by omega)))) ?_) (if_pos c).symm
    have e := impl_ends_l h.works o h.mem (by omega) o.length 0 0 (List.replicate ws.length 0) (by omega) (by simp) (by omega) (by omega)
    rw [Int.toNat_natCast]
    exact e
  · exact ev_eq (Ev.congr (fun k => if_neg c) (Ev.now _)) (if_neg c).symm
def mostL (ws : List (List Int)) : List Int → Nat → Int → Int
  | [], _, m => m
  | e :: t, i, m => mostL ws t (i + 1) (mx m (e - rd (rd_L1 ws (i : Int)) 1))
def manyL (ws : List (List Int)) : List Int → Nat → Int → Int
  | [], _, n => n
  | e :: t, i, n => manyL ws t (i + 1) (if e > rd (rd_L1 ws (i : Int)) 1 then n + 1 else n)
theorem spec_late_l {ws : List (List Int)} (h : worksOk ws = true) (t : List Int) (ht : t.length = ws.length) (hb : ∀ x ∈ t, 0 ≤ x ∧ x ≤ 700) : ∀ (d i : Nat) (m : Int), i + d = t.length →
    Ev (fun k => spec_LatestBy.l0 k ws m t (t.length : Int) (i : Int)) (mostL ws (t.drop i) i m) := by
  intro d
  have hs := (worksOk_iff.1 h).1
  induction d with
  | zero =>
    intro i m hi
    refine Ev.step (f := fun _ => some (mostL ws (t.drop i) i m)) (fun k => ?_) (Ev.now _)
    simp only [spec_LatestBy.l0]
    rw [if_neg (by omega), List.drop_of_length_le (by omega)]
    rfl
  | succ d ih =>
    intro i m hi
    have hlt : i < t.length := by omega
    have hx := hb t[i] (List.getElem_mem hlt)
    have hw := work_at h (show (0 : Int) ≤ (i : Int) by omega) (by omega)
    have w0 := hw.len
    have w1 := hw.h1
    have w2 := hw.h2
    rw [List.drop_eq_getElem_cons hlt]
    simp only [mostL]
    refine Ev.step (f := fun k => spec_LatestBy.l0 k ws (mx m (t[i] - rd (rd_L1 ws (i : Int)) 1)) t (t.length : Int) ((i + 1 : Nat) : Int)) (fun k => ?_) (ih (i + 1) _ (by omega))
    simp only [spec_LatestBy.l0]
    rw [if_pos (by omega), if_pos (by omega), if_pos (by omega), if_pos (by omega), if_pos (by omega), rd_get hlt, w64 (x := t[i] - rd (rd_L1 ws (i : Int)) 1) (by omega) (by omega), w64 (x := (i : Int) + 1) (by omega) (by omega)]
    rfl
theorem spec_count_l {ws : List (List Int)} (h : worksOk ws = true) (t : List Int) (ht : t.length = ws.length) : ∀ (d i : Nat) (n : Int), i + d = t.length → 0 ≤ n → n ≤ (i : Int) →
    Ev (fun k => spec_CountLate.l0 k ws n t (t.length : Int) (i : Int)) (manyL ws (t.drop i) i n) := by
  intro d
  have hs := (worksOk_iff.1 h).1
  induction d with
  | zero =>
    intro i n hi h0 h1
    refine Ev.step (f := fun _ => some (manyL ws (t.drop i) i n)) (fun k => ?_) (Ev.now _)
    simp only [spec_CountLate.l0]
    rw [if_neg (by omega), List.drop_of_length_le (by omega)]
    rfl
  | succ d ih =>
    intro i n hi h0 h1
    have hlt : i < t.length := by omega
    have hw := work_at h (show (0 : Int) ≤ (i : Int) by omega) (by omega)
    have w0 := hw.len
    rw [List.drop_eq_getElem_cons hlt]
    simp only [manyL]
    by_cases c : t[i] > rd (rd_L1 ws (i : Int)) 1
    · rw [if_pos c]
      refine Ev.step (f := fun k => spec_CountLate.l0 k ws (n + 1) t (t.length : Int) ((i + 1 : Nat) : Int)) (fun k => ?_) (ih (i + 1) _ (by omega) (by omega) (by omega))
      simp only [spec_CountLate.l0]
      rw [if_pos (by omega), if_pos (by omega), if_pos (by omega), if_pos (by omega), if_pos (by omega), rd_get hlt, if_pos c, w64 (x := n + 1) (by omega) (by omega), w64 (x := (i : Int) + 1) (by omega) (by omega)]
      rfl
    · rw [if_neg c]
      refine Ev.step (f := fun k => spec_CountLate.l0 k ws n t (t.length : Int) ((i + 1 : Nat) : Int)) (fun k => ?_) (ih (i + 1) _ (by omega) (by omega) (by omega))
      simp only [spec_CountLate.l0]
      rw [if_pos (by omega), if_pos (by omega), if_pos (by omega), if_pos (by omega), if_pos (by omega), rd_get hlt, if_neg c, w64 (x := (i : Int) + 1) (by omega) (by omega)]
      rfl
theorem impl_late_l {ws : List (List Int)} (h : worksOk ws = true) (t : List Int) (ht : t.length = ws.length) (hb : ∀ x ∈ t, 0 ≤ x ∧ x ≤ 700) : ∀ (d i : Nat) (m n : Int), i + d = t.length → 0 ≤ n → n ≤ (i : Int) → 0 ≤ m →
    Ev (fun k => impl_lateness.l0 k ws m n t (t.length : Int) (i : Int)) (mostL ws (t.drop i) i m, manyL ws (t.drop i) i n) := by
  intro d
  have hs := (worksOk_iff.1 h).1
  induction d with
  | zero =>
    intro i m n hi h0 h1 h2
    refine Ev.step (f := fun _ => some (mostL ws (t.drop i) i m, manyL ws (t.drop i) i n)) (fun k => ?_) (Ev.now _)
    simp only [impl_lateness.l0]
    rw [if_neg (by omega), List.drop_of_length_le (by omega)]
    rfl
  | succ d ih =>
    intro i m n hi h0 h1 h2
    have hlt : i < t.length := by omega
    have hx := hb t[i] (List.getElem_mem hlt)
    have hw := work_at h (show (0 : Int) ≤ (i : Int) by omega) (by omega)
    have w0 := hw.len
    have w1 := hw.h1
    have w2 := hw.h2
    rw [List.drop_eq_getElem_cons hlt]
    simp only [manyL, mostL]
    by_cases c : t[i] > rd (rd_L1 ws (i : Int)) 1
    · rw [if_pos c]
      refine Ev.step (f := fun k => impl_lateness.l0 k ws (mx m (t[i] - rd (rd_L1 ws (i : Int)) 1)) (n + 1) t (t.length : Int) ((i + 1 : Nat) : Int)) (fun k => ?_) (ih (i + 1) (mx m (t[i] - rd (rd_L1 ws (i : Int)) 1)) (n + 1) (by omega) (by omega) (by omega) (by unfold mx; split <;> omega))
      simp only [impl_lateness.l0]
      rw [if_pos (by omega), if_pos (by omega), if_pos (by omega), if_pos (by omega), if_pos (by omega), rd_get hlt, w64 (x := t[i] - rd (rd_L1 ws (i : Int)) 1) (by omega) (by omega), if_pos (by omega), w64 (x := n + 1) (by omega) (by omega), w64 (x := (i : Int) + 1) (by omega) (by omega)]
      rfl
    · rw [if_neg c, show mx m (t[i] - rd (rd_L1 ws (i : Int)) 1) = m by unfold mx; rw [if_neg (by omega)]]
      refine Ev.step (f := fun k => impl_lateness.l0 k ws m n t (t.length : Int) ((i + 1 : Nat) : Int)) (fun k => ?_) (ih (i + 1) _ _ (by omega) (by omega) (by omega) h2)
      simp only [impl_lateness.l0]
      rw [if_pos (by omega), if_pos (by omega), if_pos (by omega), if_pos (by omega), if_pos (by omega), rd_get hlt, w64 (x := t[i] - rd (rd_L1 ws (i : Int)) 1) (by omega) (by omega), if_neg (by omega), w64 (x := (i : Int) + 1) (by omega) (by omega)]
      rfl
def latest (ws : List (List Int)) (o : List Int) : Int := if workOrd ws o = true then mostL ws (endsOf ws o) 0 0 else -1
def countLate (ws : List (List Int)) (o : List Int) : Int := if workOrd ws o = true then manyL ws (endsOf ws o) 0 0 else -1
theorem spec_Latest_ev (ws : List (List Int)) (o : List Int) (ho : o.length ≤ 1048576) : Ev (fun k => spec_LatestBy.f k ws o) (latest ws o) := by
  unfold spec_LatestBy.f latest
  refine Ev.bind (spec_WorkOrd_ev ws o ho) ?_
  by_cases c : workOrd ws o = true
  · have h := ordOk_of c
    obtain ⟨h1, h2⟩ := ends_facts h
    exact ev_eq (Ev.congr (fun k => if_pos c) (Ev.bind (spec_ends_ev h) (spec_late_l h.works _ h1 h2 (endsOf ws o).length 0 0 (by omega)))) (if_pos c).symm
  · exact ev_eq (Ev.congr (fun k => if_neg c) (Ev.now _)) (if_neg c).symm
theorem spec_Count_ev (ws : List (List Int)) (o : List Int) (ho : o.length ≤ 1048576) : Ev (fun k => spec_CountLate.f k ws o) (countLate ws o) := by
  unfold spec_CountLate.f countLate
  refine Ev.bind (spec_WorkOrd_ev ws o ho) ?_
  by_cases c : workOrd ws o = true
  · have h := ordOk_of c
    obtain ⟨h1, h2⟩ := ends_facts h
    exact ev_eq (Ev.congr (fun k => if_pos c) (Ev.bind (spec_ends_ev h) (spec_count_l h.works _ h1 (endsOf ws o).length 0 0 (by omega) (by omega) (by omega)))) (if_pos c).symm
  · exact ev_eq (Ev.congr (fun k => if_neg c) (Ev.now _)) (if_neg c).symm
theorem impl_lateness_ev {ws : List (List Int)} {o : List Int} (ho : o.length ≤ 1048576) (c : workOrd ws o = true) : Ev (fun k => impl_lateness.f k ws o) (mostL ws (endsOf ws o) 0 0, manyL ws (endsOf ws o) 0 0) := by
  have h := ordOk_of c
  obtain ⟨h1, h2⟩ := ends_facts h
  have e := impl_EndsAt_ev ws o ho
  rw [if_pos c] at e
  unfold impl_lateness.f
  exact Ev.bind e (impl_late_l h.works _ h1 h2 (endsOf ws o).length 0 0 0 (by omega) (by omega) (by omega) (by omega))
theorem impl_Latest_ev (ws : List (List Int)) (o : List Int) (ho : o.length ≤ 1048576) : Ev (fun k => impl_LatestBy.f k ws o) (latest ws o) := by
  unfold impl_LatestBy.f latest
  refine Ev.bind (impl_WorkOrd_ev ws o ho) ?_
  by_cases c : workOrd ws o = true
  · exact ev_eq (Ev.congr (fun k => if_pos c) (Ev.bind (impl_lateness_ev ho c) (Ev.now _))) (if_pos c).symm
  · exact ev_eq (Ev.congr (fun k => if_neg c) (Ev.now _)) (if_neg c).symm
theorem impl_Count_ev (ws : List (List Int)) (o : List Int) (ho : o.length ≤ 1048576) : Ev (fun k => impl_CountLate.f k ws o) (countLate ws o) := by
  unfold impl_CountLate.f countLate
  refine Ev.bind (impl_WorkOrd_ev ws o ho) ?_
  by_cases c : workOrd ws o = true
  · exact ev_eq (Ev.congr (fun k => if_pos c) (Ev.bind (impl_lateness_ev ho c) (Ev.now _))) (if_pos c).symm
  · exact ev_eq (Ev.congr (fun k => if_neg c) (Ev.now _)) (if_neg c).symm
theorem spec_EndsAt_ev (ws : List (List Int)) (o : List Int) (ho : o.length ≤ 1048576) : Ev (fun k => spec_EndsAt.f k ws o) (if workOrd ws o = true then endsOf ws o else []) := by
  unfold spec_EndsAt.f
  refine Ev.bind (spec_WorkOrd_ev ws o ho) ?_
  by_cases c : workOrd ws o = true
  · exact ev_eq (Ev.congr (fun k => if_pos c) (Ev.bind (spec_ends_ev (ordOk_of c)) (Ev.now _))) (if_pos c).symm
  · exact ev_eq (Ev.congr (fun k => if_neg c) (Ev.now _)) (if_neg c).symm
theorem endsAt_bd (ws : List (List Int)) (o : List Int) : (if workOrd ws o = true then endsOf ws o else []).length ≤ 7 := by
  split
  · rename_i c
    have h := ordOk_of c
    have := h.small
    have := (ends_facts h).1
    omega
  · simp

end Go.Proofs.Ytoonamloihbjnaa.PA

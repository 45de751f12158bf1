/- Texts of this claim put together in build order (FnDays). -/
import Derived.Test.YtoonamloihbjnaaMFnDays0
import Derived.Test.YtoonamloihbjnaaMFnDays3
import Derived.Test.YtoonamloihbjnaaMFnDays1
import Derived.Test.YtoonamloihbjnaaMFnDays2
import Derived.Test.YtoonamloihbjnaaMFnDays4
import Derived.Test.YtoonamloihbjnaaMFnDays5
/- ints -/
namespace Go.Proofs.Ytoonamloihbjnaa.PA
open Go.RowKit Go.Proofs.YtoonamloihbjnaaW.PrintWords Go.Proofs.YtoonamloihbjnaaW.PrintLast Go.Proofs.YtoonamloihbjnaaW.PrintMore
set_option linter.unusedVariables false
set_option linter.unusedSimpArgs false
theorem w64 {x : Int} (h0 : -9223372036854775808 ≤ x) (h1 : x < 9223372036854775808) : wrap64 x = x := by
  unfold wrap64
  omega
theorem rd_nat (l : List Int) (i : Nat) : rd l (i : Int) = l.getD i 0 := by simp [rd]
theorem rd_get {l : List Int} {i : Nat} (h : i < l.length) : rd l (i : Int) = l[i] := by simp [rd, List.getD_eq_getElem?_getD, h]
theorem ev_eq {α : Type} {g : Nat → Option α} {r r' : α} (h : Ev g r) (e : r = r') : Ev g r' := e ▸ h
theorem ev_const {α : Type} {a : Option α} {r : α} (h : a = some r) : Ev (fun _ => a) r := ⟨0, fun _ _ => h⟩
theorem take_step {l : List Int} {i : Nat} (h : i < l.length) : l.take (i + 1) = l.take i ++ [l[i]] := by
  rw [List.take_succ_eq_append_getElem h]
theorem rdL_get {l : List (List Int)} {i : Nat} (h : i < l.length) : rd_L1 l (i : Int) = l[i] := by simp [rd_L1, List.getD_eq_getElem?_getD, h]
end Go.Proofs.Ytoonamloihbjnaa.PA
/- works -/
namespace Go.Proofs.Ytoonamloihbjnaa.PA
open Go.RowKit Go.Proofs.YtoonamloihbjnaaW.PrintWords Go.Proofs.YtoonamloihbjnaaW.PrintLast Go.Proofs.YtoonamloihbjnaaW.PrintMore
set_option linter.unusedVariables false
set_option linter.unusedSimpArgs false
structure WorkOk (r : List Int) : Prop where
  len : r.length = 2
  w1 : 1 ≤ rd r 0
  w2 : rd r 0 ≤ 100
  h1 : 0 ≤ rd r 1
  h2 : rd r 1 ≤ 1000
theorem badWork_false {r : List Int} : badWork r = false ↔ WorkOk r := by
  unfold badWork
  rw [Bool.not_eq_false', decide_eq_true_iff]
  exact ⟨fun ⟨a, b, c, d, e⟩ => ⟨a, b, c, d, e⟩, fun ⟨a, b, c, d, e⟩ => ⟨a, b, c, d, e⟩⟩
theorem worksOk_iff {l : List (List Int)} : worksOk l = true ↔ l.length ≤ 7 ∧ ∀ r ∈ l, WorkOk r := by
  unfold worksOk
  rw [Bool.and_eq_true, decide_eq_true_iff, Bool.not_eq_true', List.any_eq_false]
  constructor
  · rintro ⟨a, b⟩
    exact ⟨a, fun r hr => badWork_false.1 (by simpa using b r hr)⟩
  · rintro ⟨a, b⟩
    exact ⟨a, fun r hr => by simpa using badWork_false.2 (b r hr)⟩
theorem impl_WorksOk_ev (l : List (List Int)) : Ev (fun _ => impl_WorksOk.f l) (worksOk l) := ev_const rfl
theorem work_at {ws : List (List Int)} (h : worksOk ws = true) {i : Int} (h0 : 0 ≤ i) (h1 : i ≤ (ws.length : Int) - 1) : WorkOk (rd_L1 ws i) := by
  have hj : i.toNat < ws.length := by omega
  have : rd_L1 ws i = ws[i.toNat] := by simp [rd_L1, List.getD_eq_getElem?_getD, hj]
  rw [this]
  exact (worksOk_iff.1 h).2 _ (List.getElem_mem hj)
end Go.Proofs.Ytoonamloihbjnaa.PA
/- orders of works -/
namespace Go.Proofs.Ytoonamloihbjnaa.PA
open Go.RowKit Go.Proofs.YtoonamloihbjnaaW.PrintWords Go.Proofs.YtoonamloihbjnaaW.PrintLast Go.Proofs.YtoonamloihbjnaaW.PrintMore
set_option linter.unusedVariables false
set_option linter.unusedSimpArgs false
def upto (n : Nat) : List Int := (List.range n).map fun i : Nat => (i : Int)
theorem upto_len (n : Nat) : (upto n).length = n := by simp [upto]
theorem upto_succ (n : Nat) : upto (n + 1) = upto n ++ [(n : Int)] := by
  unfold upto
  rw [List.range_succ, List.map_append]
  rfl
theorem mem_upto {n : Nat} {x : Int} : x ∈ upto n ↔ 0 ≤ x ∧ x ≤ (n : Int) - 1 := by
  unfold upto
  rw [List.mem_map]
  constructor
  · rintro ⟨i, hi, rfl⟩
    have := List.mem_range.1 hi
    omega
  · rintro ⟨h1, h2⟩
    exact ⟨x.toNat, List.mem_range.2 (by omega), by omega⟩
theorem upto_nodup (n : Nat) : (upto n).Nodup := by
  have h : (List.range n).Pairwise fun (a b : Nat) => (a : Int) ≠ (b : Int) := List.pairwise_lt_range.imp (fun h => by omega)
  exact List.pairwise_map.2 h
theorem up_of_sorted : ∀ (s : List Int) (a : Int), s.Pairwise (· < ·) → (∀ x ∈ s, a ≤ x ∧ x < a + (s.length : Int)) → s = (List.range s.length).map fun i : Nat => a + (i : Int) := by
  intro s
  induction s with
  | nil => intro a _ _; rfl
  | cons x t ih =>
    intro a hp hb
    obtain ⟨h1, h2⟩ := List.pairwise_cons.1 hp
    have hx := hb x List.mem_cons_self
    simp only [List.length_cons] at hx hb
    have ht := ih (a + 1) h2 (fun y hy => by have h3 := h1 y hy; have h4 := hb y (List.mem_cons_of_mem _ hy); omega)
    have e : x = a := by
      by_cases h0 : t.length = 0
      · omega
      · have hm : a + 1 ∈ t := by
          rw [ht, List.mem_map]
          exact ⟨0, List.mem_range.2 (by omega), by simp⟩
        have := h1 _ hm
        omega
    rw [List.length_cons, List.range_succ_eq_map, List.map_cons, List.map_map, e]
    congr 1
    · simp
    · refine ht.trans (List.map_congr_left fun i _ => ?_)
      simp only [Function.comp]
      omega
theorem sorted_iff (o : List Int) (n : Nat) : (o.mergeSort fun x y => decide (x ≤ y)) = upto n ↔ (o.length = n ∧ (∀ x ∈ o, 0 ≤ x ∧ x ≤ (n : Int) - 1) ∧ o.Nodup) := by
  have hp := List.mergeSort_perm o fun x y => decide (x ≤ y)
  have hs : (o.mergeSort fun x y => decide (x ≤ y)).Pairwise fun a b => decide (a ≤ b) = true :=
    List.pairwise_mergeSort (le := fun x y : Int => decide (x ≤ y)) (fun a b c h1 h2 => decide_eq_true (by have := of_decide_eq_true h1; have := of_decide_eq_true h2; omega)) (fun a b => by
      by_cases h : a ≤ b
      · simp [h]
      · simp [show b ≤ a by omega]) o
  constructor
  · intro h
    rw [h] at hp
    refine ⟨by rw [← hp.length_eq, upto_len], fun x hx => mem_upto.1 (hp.mem_iff.2 hx), hp.nodup_iff.1 (upto_nodup n)⟩
  · rintro ⟨h1, h2, h3⟩
    have h4 : (o.mergeSort fun x y => decide (x ≤ y)).Pairwise (· < ·) := (hs.and (hp.nodup_iff.2 h3)).imp (fun {a b} h => by have h5 := of_decide_eq_true h.1; have h6 := h.2; omega)
    have hl : (o.mergeSort fun x y => decide (x ≤ y)).length = n := by rw [List.length_mergeSort, h1]
    have h5 := up_of_sorted _ 0 h4 (fun x hx => by rw [hl]; have := h2 x (hp.mem_iff.1 hx); omega)
    rw [h5, hl]
    unfold upto
    exact List.map_congr_left fun i _ => by omega
def workOrd (ws : List (List Int)) (o : List Int) : Bool := worksOk ws && decide ((o.mergeSort fun x y => decide (x ≤ y)) = upto ws.length)
theorem workOrd_iff {ws : List (List Int)} {o : List Int} : workOrd ws o = true ↔ worksOk ws = true ∧ o.length = ws.length ∧ (∀ x ∈ o, 0 ≤ x ∧ x ≤ (ws.length : Int) - 1) ∧ o.Nodup := by
  unfold workOrd
  rw [Bool.and_eq_true, decide_eq_true_iff, sorted_iff]
theorem orderOf_l (n : Nat) (hn : n ≤ 7) : ∀ (m i : Nat), i + m = n → Ev (fun k => impl_orderOf.l0 k (upto i) (n : Int) (i : Int)) (upto n) := by
  intro m
  induction m with
  | zero =>
    intro i hi
    obtain rfl : i = n := by omega
    refine Ev.step (f := fun _ => some (upto i)) (fun k => ?_) (Ev.now _)
    simp only [impl_orderOf.l0]
    rw [if_neg (by omega)]
  | succ m ih =>
    intro i hi
    have hl := upto_len i
    refine Ev.step (f := fun k => impl_orderOf.l0 k (upto (i + 1)) (n : Int) ((i + 1 : Nat) : Int)) (fun k => ?_) (ih (i + 1) (by omega))
    simp only [impl_orderOf.l0]
    rw [if_pos (by omega), if_pos (by omega), w64 (by omega) (by omega), upto_succ]
    simp
theorem orderOf_ev (n : Nat) (hn : n ≤ 7) : Ev (fun k => impl_orderOf.f k (n : Int)) (upto n) := orderOf_l n hn n 0 (by omega)
theorem equal_l (x0 x1 : List Int) (hx : x0.length < 9223372036854775807) (hl : x0.length = x1.length) : ∀ (d i : Nat), i + d = x0.length → x0.take i = x1.take i → Ev (fun k => slices_Equal_int_int.l0 k x0 x1 (x0.length : Int) (i : Int)) (decide (x0 = x1)) := by
  intro d
  induction d with
  | zero =>
    intro i hi ht
    have e : x0 = x1 := by
      have h1 : x0.take i = x0 := List.take_of_length_le (by omega)
      have h2 : x1.take i = x1 := List.take_of_length_le (by omega)
      rw [h1, h2] at ht
      exact ht
    refine Ev.step (f := fun _ => some (decide (x0 = x1))) (fun k => ?_) (Ev.now _)
    simp only [slices_Equal_int_int.l0]
    rw [if_neg (by omega), decide_eq_true e]
  | succ d ih =>
    intro i hi ht
    have hlt : i < x0.length := by omega
    have hlt1 : i < x1.length := by omega
    by_cases he : x0[i] = x1[i]
    · refine Ev.step (f := fun k => slices_Equal_int_int.l0 k x0 x1 (x0.length : Int) ((i + 1 : Nat) : Int)) (fun k => ?_) (ih (i + 1) (by omega) ?_)
      · simp only [slices_Equal_int_int.l0]
        rw [if_pos (by omega), if_pos (by omega), if_pos (by omega), if_pos (by omega), rd_get hlt, rd_get hlt1, if_pos he, w64 (by omega) (by omega)]
        simp
      · rw [take_step hlt, take_step hlt1, ht, he]
    · have hne : ¬ x0 = x1 := fun e => he (by subst e; rfl)
      refine Ev.step (f := fun _ => some (decide (x0 = x1))) (fun k => ?_) (Ev.now _)
      simp only [slices_Equal_int_int.l0]
      rw [if_pos (by omega), if_pos (by omega), if_pos (by omega), if_pos (by omega), rd_get hlt, rd_get hlt1, if_neg he, decide_eq_false hne]
theorem equal_ev (l m : List Int) (hl : l.length < 9223372036854775807) : Ev (fun k => slices_Equal_int_int.f k l m) (decide (l = m)) := by
  unfold slices_Equal_int_int.f
  by_cases h : l.length = m.length
  · exact Ev.congr (fun k => if_pos (by omega)) (equal_l l m hl h l.length 0 (by omega) (by simp))
  · refine ev_eq (Ev.congr (fun k => if_neg (by omega)) (Ev.now false)) (decide_eq_false (fun e => h (by rw [e]))).symm
theorem impl_WorkOrd_ev (ws : List (List Int)) (o : List Int) (ho : o.length ≤ 1048576) : Ev (fun k => impl_WorkOrderOk.f k ws o) (workOrd ws o) := by
  unfold impl_WorkOrderOk.f workOrd
  refine Ev.bind (ev_const (show slices_Clone_int_int.f o = some o from if_pos (by omega))) ?_
  refine Ev.bind (ev_const (show slices_Sort_int_int.f o = some (o.mergeSort fun x y => decide (x ≤ y)) from if_pos (by omega))) ?_
  refine Ev.bind (impl_WorksOk_ev ws) ?_
  by_cases c : worksOk ws = true
  · refine Ev.congr (fun k => if_pos c) ?_
    refine Ev.bind (orderOf_ev ws.length (worksOk_iff.1 c).1) ?_
    refine ev_eq (Ev.bind (equal_ev _ _ (by rw [List.length_mergeSort]; omega)) (Ev.now _)) ?_
    rw [c, Bool.true_and]
  · refine ev_eq (Ev.congr (fun k => if_neg c) (Ev.now _)) ?_
    simp only [Bool.not_eq_true] at c
    rw [c]
    rfl
end Go.Proofs.Ytoonamloihbjnaa.PA
/- ends, lateness -/
namespace Go.Proofs.Ytoonamloihbjnaa.PA
open Go.RowKit Go.Proofs.YtoonamloihbjnaaW.PrintWords Go.Proofs.YtoonamloihbjnaaW.PrintLast Go.Proofs.YtoonamloihbjnaaW.PrintMore
set_option linter.unusedVariables false
set_option linter.unusedSimpArgs false
def endsL (ws : List (List Int)) : Int → List Int → List Int → List Int
  | _, out, [] => out
  | at_, out, i :: o => endsL ws (at_ + rd (rd_L1 ws i) 0) (out.set i.toNat (at_ + rd (rd_L1 ws i) 0)) o
def endsOf (ws : List (List Int)) (o : List Int) : List Int := endsL ws 0 (List.replicate ws.length 0) o
theorem endsL_len (ws : List (List Int)) : ∀ (o : List Int) (a : Int) (out : List Int), (endsL ws a out o).length = out.length := by
  intro o
  induction o with
  | nil => intro a out; rfl
  | cons i o ih => intro a out; simp only [endsL]; rw [ih]; simp
theorem endsL_mem {ws : List (List Int)} (h : worksOk ws = true) : ∀ (o : List Int) (a : Int) (out : List Int), (∀ x ∈ o, 0 ≤ x ∧ x ≤ (ws.length : Int) - 1) → o.length ≤ 7 → 0 ≤ a → a + 100 * (o.length : Int) ≤ 700 → (∀ x ∈ out, 0 ≤ x ∧ x ≤ 700) → ∀ x ∈ endsL ws a out o, 0 ≤ x ∧ x ≤ 700 := by
  intro o
  induction o with
  | nil => intro a out _ _ _ _ hb; exact hb
  | cons i o ih =>
    intro a out ho hl h0 h1 hb
    have hi := ho i List.mem_cons_self
    have hw := work_at h hi.1 hi.2
    have w1 := hw.w1
    have w2 := hw.w2
    simp only [List.length_cons] at hl h1
    simp only [endsL]
    refine ih _ _ (fun x hx => ho x (List.mem_cons_of_mem _ hx)) (by omega) (by omega) (by omega) (fun x hx => ?_)
    rcases List.mem_or_eq_of_mem_set hx with hx | rfl
    · exact hb x hx
    · omega
theorem impl_ends_l {ws : List (List Int)} (h : worksOk ws = true) (o : List Int) (ho : ∀ x ∈ o, 0 ≤ x ∧ x ≤ (ws.length : Int) - 1) (hl : o.length ≤ 7) : ∀ (m i : Nat) (a : Int) (out : List Int), i + m = o.length → out.length = ws.length → 0 ≤ a → a ≤ 100 * (i : Int) →
    Ev (fun k => impl_EndsAt.l0 k ws out a o (o.length : Int) (i : Int)) (endsL ws a out (o.drop i)) := by
  intro m
  induction m with
  | zero =>
    intro i a out hi hout h0 h1
    refine Ev.step (f := fun _ => some (endsL ws a out (o.drop i))) (fun k => ?_) (Ev.now _)
    simp only [impl_EndsAt.l0]
    rw [if_neg (by omega), List.drop_of_length_le (by omega)]
    rfl
  | succ m ih =>
    intro i a out hi hout h0 h1
    have hlt : i < o.length := by omega
    have hx := ho o[i] (List.getElem_mem hlt)
    have hw := work_at h hx.1 hx.2
    have w0 := hw.len
    have w1 := hw.w1
    have w2 := hw.w2
    rw [List.drop_eq_getElem_cons hlt]
    simp only [endsL]
    refine Ev.step (f := fun k => impl_EndsAt.l0 k ws (out.set o[i].toNat (a + rd (rd_L1 ws o[i]) 0)) (a + rd (rd_L1 ws o[i]) 0) o (o.length : Int) ((i + 1 : Nat) : Int)) (fun k => ?_) (ih (i + 1) (a + rd (rd_L1 ws o[i]) 0) (out.set o[i].toNat (a + rd (rd_L1 ws o[i]) 0)) (by omega) (by simpa using hout) (by omega) (by omega))
    simp only [impl_EndsAt.l0]
    rw [if_pos (by omega), if_pos (by omega), if_pos (by omega), rd_get hlt, if_pos hx.1, if_pos (by omega), if_pos (by omega), if_pos (by omega), w64 (x := a + rd (rd_L1 ws o[i]) 0) (by omega) (by omega), w64 (x := (i : Int) + 1) (by omega) (by omega)]
    rfl
structure OrdOk (ws : List (List Int)) (o : List Int) : Prop where
  works : worksOk ws = true
  len : o.length = ws.length
  small : ws.length ≤ 7
  mem : ∀ x ∈ o, 0 ≤ x ∧ x ≤ (ws.length : Int) - 1
theorem ordOk_of {ws : List (List Int)} {o : List Int} (h : workOrd ws o = true) : OrdOk ws o := by
  obtain ⟨h1, h2, h3, _⟩ := workOrd_iff.1 h
  exact ⟨h1, h2, (worksOk_iff.1 h1).1, h3⟩
theorem ends_facts {ws : List (List Int)} {o : List Int} (h : OrdOk ws o) : (endsOf ws o).length = ws.length ∧ ∀ x ∈ endsOf ws o, 0 ≤ x ∧ x ≤ 700 := by
  have h1 := h.len
  have h2 := h.small
  refine ⟨by unfold endsOf; rw [endsL_len, List.length_replicate], endsL_mem h.works o 0 _ h.mem (by omega) (by omega) (by omega) (fun x hx => ?_)⟩
  rw [List.eq_of_mem_replicate hx]
  omega
theorem impl_EndsAt_ev (ws : List (List Int)) (o : List Int) (ho : o.length ≤ 1048576) : Ev (fun k => impl_EndsAt.f k ws o) (if workOrd ws o = true then endsOf ws o else []) := by
  unfold impl_EndsAt.f
  refine Ev.bind (impl_WorkOrd_ev ws o ho) ?_
  by_cases c : workOrd ws o = true
  · have h := ordOk_of c
    have h1 := h.len
    have h2 := h.small
    refine ev_eq (Ev.congr (fun k => (if_pos c).trans ((if_pos (by omega)).trans (if_pos (by omega)))) ?_) (if_pos c).symm
    have e := impl_ends_l h.works o h.mem (by omega) o.length 0 0 (List.replicate ws.length 0) (by omega) (by simp) (by omega) (by omega)
    rw [Int.toNat_natCast]
    exact e
  · exact ev_eq (Ev.congr (fun k => if_neg c) (Ev.now _)) (if_neg c).symm
def mostL (ws : List (List Int)) : List Int → Nat → Int → Int
  | [], _, m => m
  | e :: t, i, m => mostL ws t (i + 1) (mx m (e - rd (rd_L1 ws (i : Int)) 1))
def manyL (ws : List (List Int)) : List Int → Nat → Int → Int
  | [], _, n => n
  | e :: t, i, n => manyL ws t (i + 1) (if e > rd (rd_L1 ws (i : Int)) 1 then n + 1 else n)
theorem impl_late_l {ws : List (List Int)} (h : worksOk ws = true) (t : List Int) (ht : t.length = ws.length) (hb : ∀ x ∈ t, 0 ≤ x ∧ x ≤ 700) : ∀ (d i : Nat) (m n : Int), i + d = t.length → 0 ≤ n → n ≤ (i : Int) → 0 ≤ m →
    Ev (fun k => impl_lateness.l0 k ws m n t (t.length : Int) (i : Int)) (mostL ws (t.drop i) i m, manyL ws (t.drop i) i n) := by
  intro d
  have hs := (worksOk_iff.1 h).1
  induction d with
  | zero =>
    intro i m n hi h0 h1 h2
    refine Ev.step (f := fun _ => some (mostL ws (t.drop i) i m, manyL ws (t.drop i) i n)) (fun k => ?_) (Ev.now _)
    simp only [impl_lateness.l0]
    rw [if_neg (by omega), List.drop_of_length_le (by omega)]
    rfl
  | succ d ih =>
    intro i m n hi h0 h1 h2
    have hlt : i < t.length := by omega
    have hx := hb t[i] (List.getElem_mem hlt)
    have hw := work_at h (show (0 : Int) ≤ (i : Int) by omega) (by omega)
    have w0 := hw.len
    have w1 := hw.h1
    have w2 := hw.h2
    rw [List.drop_eq_getElem_cons hlt]
    simp only [manyL, mostL]
    by_cases c : t[i] > rd (rd_L1 ws (i : Int)) 1
    · rw [if_pos c]
      refine Ev.step (f := fun k => impl_lateness.l0 k ws (mx m (t[i] - rd (rd_L1 ws (i : Int)) 1)) (n + 1) t (t.length : Int) ((i + 1 : Nat) : Int)) (fun k => ?_) (ih (i + 1) (mx m (t[i] - rd (rd_L1 ws (i : Int)) 1)) (n + 1) (by omega) (by omega) (by omega) (by unfold mx; split <;> omega))
      simp only [impl_lateness.l0]
      rw [if_pos (by omega), if_pos (by omega), if_pos (by omega), if_pos (by omega), if_pos (by omega), rd_get hlt, w64 (x := t[i] - rd (rd_L1 ws (i : Int)) 1) (by omega) (by omega), if_pos (by omega), w64 (x := n + 1) (by omega) (by omega), w64 (x := (i : Int) + 1) (by omega) (by omega)]
      rfl
    · rw [if_neg c, show mx m (t[i] - rd (rd_L1 ws (i : Int)) 1) = m by unfold mx; rw [if_neg (by omega)]]
      refine Ev.step (f := fun k => impl_lateness.l0 k ws m n t (t.length : Int) ((i + 1 : Nat) : Int)) (fun k => ?_) (ih (i + 1) _ _ (by omega) (by omega) (by omega) h2)
      simp only [impl_lateness.l0]
      rw [if_pos (by omega), if_pos (by omega), if_pos (by omega), if_pos (by omega), if_pos (by omega), rd_get hlt, w64 (x := t[i] - rd (rd_L1 ws (i : Int)) 1) (by omega) (by omega), if_neg (by omega), w64 (x := (i : Int) + 1) (by omega) (by omega)]
      rfl
def latest (ws : List (List Int)) (o : List Int) : Int := if workOrd ws o = true then mostL ws (endsOf ws o) 0 0 else -1
def countLate (ws : List (List Int)) (o : List Int) : Int := if workOrd ws o = true then manyL ws (endsOf ws o) 0 0 else -1
theorem impl_lateness_ev {ws : List (List Int)} {o : List Int} (ho : o.length ≤ 1048576) (c : workOrd ws o = true) : Ev (fun k => impl_lateness.f k ws o) (mostL ws (endsOf ws o) 0 0, manyL ws (endsOf ws o) 0 0) := by
  have h := ordOk_of c
  obtain ⟨h1, h2⟩ := ends_facts h
  have e := impl_EndsAt_ev ws o ho
  rw [if_pos c] at e
  unfold impl_lateness.f
  exact Ev.bind e (impl_late_l h.works _ h1 h2 (endsOf ws o).length 0 0 0 (by omega) (by omega) (by omega) (by omega))
theorem impl_Latest_ev (ws : List (List Int)) (o : List Int) (ho : o.length ≤ 1048576) : Ev (fun k => impl_LatestBy.f k ws o) (latest ws o) := by
  unfold impl_LatestBy.f latest
  refine Ev.bind (impl_WorkOrd_ev ws o ho) ?_
  by_cases c : workOrd ws o = true
  · exact ev_eq (Ev.congr (fun k => if_pos c) (Ev.bind (impl_lateness_ev ho c) (Ev.now _))) (if_pos c).symm
  · exact ev_eq (Ev.congr (fun k => if_neg c) (Ev.now _)) (if_neg c).symm
theorem impl_Count_ev (ws : List (List Int)) (o : List Int) (ho : o.length ≤ 1048576) : Ev (fun k => impl_CountLate.f k ws o) (countLate ws o) := by
  unfold impl_CountLate.f countLate
  refine Ev.bind (impl_WorkOrd_ev ws o ho) ?_
  by_cases c : workOrd ws o = true
  · exact ev_eq (Ev.congr (fun k => if_pos c) (Ev.bind (impl_lateness_ev ho c) (Ev.now _))) (if_pos c).symm
  · exact ev_eq (Ev.congr (fun k => if_neg c) (Ev.now _)) (if_neg c).symm
end Go.Proofs.Ytoonamloihbjnaa.PA
/- order by a column -/
namespace Go.Proofs.Ytoonamloihbjnaa.PA
open Go.RowKit Go.Proofs.YtoonamloihbjnaaW.PrintWords Go.Proofs.YtoonamloihbjnaaW.PrintLast Go.Proofs.YtoonamloihbjnaaW.PrintMore
set_option linter.unusedVariables false
set_option linter.unusedSimpArgs false
def pos (K : Int → Int) (P : List Int) (x : Int) : Nat → Nat
  | 0 => 0
  | j + 1 => if K (rd P (j : Int)) > K x then pos K P x j else j + 1
def insAt (P : List Int) (j : Nat) (x : Int) : List Int := P.take j ++ x :: P.drop j
def sortL (K : Int → Int) : List Int → List Int → List Int
  | P, [] => P
  | P, x :: S => sortL K (insAt P (pos K P x P.length) x) S
theorem pos_le (K : Int → Int) (P : List Int) (x : Int) : ∀ j, pos K P x j ≤ j := by
  intro j
  induction j with
  | zero => exact Nat.le_refl _
  | succ j ih => simp only [pos]; split <;> omega
theorem insAt_len {P : List Int} {j : Nat} (x : Int) (h : j ≤ P.length) : (insAt P j x).length = P.length + 1 := by simp [insAt]; omega
theorem insAt_mem {P : List Int} {j : Nat} {x y : Int} (h : y ∈ insAt P j x) : y ∈ P ∨ y = x := by
  unfold insAt at h
  rcases List.mem_append.1 h with h | h
  · exact .inl (List.mem_of_mem_take h)
  · rcases List.mem_cons.1 h with h | h
    · exact .inr h
    · exact .inl (List.mem_of_mem_drop h)
def keyBy (ws : List (List Int)) (c x : Int) : Int := rd (rd_L1 ws x) c
theorem key_bd {ws : List (List Int)} (h : worksOk ws = true) {c x : Int} (hc : c = 0 ∨ c = 1) (h0 : 0 ≤ x) (h1 : x ≤ (ws.length : Int) - 1) : 0 ≤ keyBy ws c x ∧ keyBy ws c x ≤ 1000 ∧ (rd_L1 ws x).length = 2 := by
  have hw := work_at h h0 h1
  have w1 := hw.w1
  have w2 := hw.w2
  have w3 := hw.h1
  have w4 := hw.h2
  unfold keyBy
  rcases hc with rfl | rfl
  · exact ⟨by omega, by omega, hw.len⟩
  · exact ⟨by omega, by omega, hw.len⟩
theorem cfBy_eq {ws : List (List Int)} (h : worksOk ws = true) {c : Int} (hc : c = 0 ∨ c = 1) {x y : Int} (h0 : 0 ≤ x ∧ x ≤ (ws.length : Int) - 1) (h1 : 0 ≤ y ∧ y ≤ (ws.length : Int) - 1) : cfBy ws c x y = some (keyBy ws c x - keyBy ws c y) := by
  have k1 := key_bd h hc h0.1 h0.2
  have k2 := key_bd h hc h1.1 h1.2
  unfold cfBy
  rw [if_pos ⟨⟨h0.1, by omega⟩, h1.1, by omega⟩, if_pos ⟨⟨by omega, by omega⟩, by omega⟩]
  unfold keyBy at *
  rw [w64 (by omega) (by omega)]
theorem swap_eq (A B : List Int) (p x : Int) : ((A ++ p :: x :: B).set (A.length + 1) p).set A.length x = A ++ x :: p :: B := by
  simp [List.set_append]
theorem rd_at (A B : List Int) (p : Int) : rd (A ++ p :: B) (A.length : Int) = p := by
  rw [rd_nat]
  simp [List.getD_eq_getElem?_getD]
theorem rd_at1 (A B : List Int) (p x : Int) : rd (A ++ p :: x :: B) ((A.length + 1 : Nat) : Int) = x := by
  rw [rd_nat]
  simp [List.getD_eq_getElem?_getD]
theorem impl_ins_1 {ws : List (List Int)} (h : worksOk ws = true) {c : Int} (hc : c = 0 ∨ c = 1) (P S : List Int) (x : Int) (n : Int) (hP : P.length + S.length ≤ 7) (hx : 0 ≤ x ∧ x ≤ (ws.length : Int) - 1) (hb : ∀ y ∈ P, 0 ≤ y ∧ y ≤ (ws.length : Int) - 1) (R : List Int) : ∀ j, j ≤ P.length →
    Ev (fun k => slices_insertionSortCmpFunc_int.l0 (cfBy ws c) k (insAt P (pos (keyBy ws c) P x j) x ++ S) 0 n ((P.length + 1 : Nat) : Int)) R →
    Ev (fun k => slices_insertionSortCmpFunc_int.l1 (cfBy ws c) k (insAt P j x ++ S) 0 n (P.length : Int) (j : Int)) R := by
  intro j
  induction j with
  | zero =>
    intro hj hr
    simp only [pos] at hr
    refine Ev.step (f := fun k => slices_insertionSortCmpFunc_int.l0 (cfBy ws c) k (insAt P 0 x ++ S) 0 n ((P.length + 1 : Nat) : Int)) (fun k => ?_) hr
    simp only [slices_insertionSortCmpFunc_int.l1]
    rw [if_neg (by omega), w64 (x := (P.length : Int) + 1) (by omega) (by omega)]
    rfl
  | succ j ih =>
    intro hj hr
    simp only [pos] at hr
    have hlt : j < P.length := by omega
    have hy := hb P[j] (List.getElem_mem hlt)
    have eA : (P.take j).length = j := by rw [List.length_take]; omega
    have e1 : insAt P (j + 1) x ++ S = P.take j ++ P[j] :: x :: (P.drop (j + 1) ++ S) := by
      unfold insAt
      rw [List.take_succ_eq_append_getElem hlt]
      simp only [List.append_assoc, List.cons_append, List.nil_append]
    have e2 : insAt P j x ++ S = P.take j ++ x :: P[j] :: (P.drop (j + 1) ++ S) := by
      unfold insAt
      rw [List.drop_eq_getElem_cons hlt]
      simp only [List.append_assoc, List.cons_append, List.nil_append]
    have r1 : rd (P.take j ++ P[j] :: x :: (P.drop (j + 1) ++ S)) ((j + 1 : Nat) : Int) = x := by have := rd_at1 (P.take j) (P.drop (j + 1) ++ S) P[j] x; rwa [eA] at this
    have r2 : rd (P.take j ++ P[j] :: x :: (P.drop (j + 1) ++ S)) (j : Int) = P[j] := by have := rd_at (P.take j) (x :: (P.drop (j + 1) ++ S)) P[j]; rwa [eA] at this
    have sw : ((P.take j ++ P[j] :: x :: (P.drop (j + 1) ++ S)).set (j + 1) P[j]).set j x = insAt P j x ++ S := by rw [e2]; have := swap_eq (P.take j) (P.drop (j + 1) ++ S) P[j] x; rwa [eA] at this
    have hlen : (P.take j ++ P[j] :: x :: (P.drop (j + 1) ++ S)).length = P.length + 1 + S.length := by simp; omega
    rw [e1]
    rw [rd_get hlt] at hr
    by_cases c1 : keyBy ws c P[j] > keyBy ws c x
    · rw [if_pos c1] at hr
      refine Ev.step (f := fun k => slices_insertionSortCmpFunc_int.l1 (cfBy ws c) k (insAt P j x ++ S) 0 n (P.length : Int) (j : Int)) (fun k => ?_) (ih (by omega) hr)
      simp only [slices_insertionSortCmpFunc_int.l1]
      rw [show wrap64 (((j + 1 : Nat) : Int) - 1) = (j : Int) by rw [w64 (by omega) (by omega)]; omega]
      rw [if_pos (by omega), if_pos (by omega), if_pos (by omega), if_pos (by omega), if_pos (by omega), r1, r2, cfBy_eq h hc hx hy, Option.bind_some, if_pos (by omega), Int.toNat_natCast, Int.toNat_natCast, sw]
    · rw [if_neg c1, e1] at hr
      refine Ev.step (f := fun k => slices_insertionSortCmpFunc_int.l0 (cfBy ws c) k (P.take j ++ P[j] :: x :: (P.drop (j + 1) ++ S)) 0 n ((P.length + 1 : Nat) : Int)) (fun k => ?_) hr
      simp only [slices_insertionSortCmpFunc_int.l1]
      rw [show wrap64 (((j + 1 : Nat) : Int) - 1) = (j : Int) by rw [w64 (by omega) (by omega)]; omega]
      rw [if_pos (by omega), if_pos (by omega), if_pos (by omega), if_pos (by omega), if_pos (by omega), r1, r2, cfBy_eq h hc hx hy, Option.bind_some, if_neg (by omega), w64 (x := (P.length : Int) + 1) (by omega) (by omega)]
      rfl
theorem impl_ins_0 {ws : List (List Int)} (h : worksOk ws = true) {c : Int} (hc : c = 0 ∨ c = 1) : ∀ (S P : List Int), P.length + S.length ≤ 7 → (∀ y ∈ P, 0 ≤ y ∧ y ≤ (ws.length : Int) - 1) → (∀ y ∈ S, 0 ≤ y ∧ y ≤ (ws.length : Int) - 1) →
    Ev (fun k => slices_insertionSortCmpFunc_int.l0 (cfBy ws c) k (P ++ S) 0 ((P.length + S.length : Nat) : Int) (P.length : Int)) (sortL (keyBy ws c) P S) := by
  intro S
  induction S with
  | nil =>
    intro P hl hb _
    refine Ev.step (f := fun _ => some (P ++ [])) (fun k => ?_) (ev_eq (Ev.now _) (by simp [sortL]))
    simp only [slices_insertionSortCmpFunc_int.l0]
    rw [if_neg (by simp)]
  | cons x S ih =>
    intro P hl hb hs
    simp only [List.length_cons] at hl
    have hx := hs x List.mem_cons_self
    have hlen := insAt_len (P := P) x (pos_le (keyBy ws c) P x P.length)
    have hn := ih (insAt P (pos (keyBy ws c) P x P.length) x) (by omega) (fun y hy => by
      rcases insAt_mem hy with hy | rfl
      · exact hb y hy
      · exact hx) (fun y hy => hs y (List.mem_cons_of_mem _ hy))
    rw [hlen] at hn
    have e : P ++ x :: S = insAt P P.length x ++ S := by simp [insAt]
    have h1 := impl_ins_1 h hc P S x ((P.length + 1 + S.length : Nat) : Int) (by omega) hx hb _ P.length (Nat.le_refl _) hn
    simp only [sortL]
    rw [e]
    refine Ev.step (f := fun k => slices_insertionSortCmpFunc_int.l1 (cfBy ws c) k (insAt P P.length x ++ S) 0 ((P.length + 1 + S.length : Nat) : Int) (P.length : Int) (P.length : Int)) (fun k => ?_) h1
    simp only [slices_insertionSortCmpFunc_int.l0, List.length_cons]
    rw [if_pos (by omega), show P.length + (S.length + 1) = P.length + 1 + S.length by omega]
def orderBy (ws : List (List Int)) (c : Int) : List Int := sortL (keyBy ws c) [] (upto ws.length)
theorem impl_by_ev {ws : List (List Int)} (h : worksOk ws = true) {c : Int} (hc : c = 0 ∨ c = 1) : Ev (fun k => impl_orderBy.f k ws c) (orderBy ws c) := by
  have hs := (worksOk_iff.1 h).1
  unfold impl_orderBy.f
  refine Ev.bind (orderOf_ev ws.length hs) ?_
  refine Ev.congr (fun k => if_pos (by rw [upto_len]; omega)) ?_
  unfold slices_insertionSortCmpFunc_int.f orderBy
  rw [upto_len]
  have hm : ∀ y ∈ upto ws.length, 0 ≤ y ∧ y ≤ (ws.length : Int) - 1 := fun y hy => mem_upto.1 hy
  have hl := upto_len ws.length
  generalize upto ws.length = S at *
  cases S with
  | nil =>
    simp only [List.length_nil] at hl
    refine Ev.step (f := fun _ => some []) (fun k => ?_) (Ev.now _)
    simp only [slices_insertionSortCmpFunc_int.l0]
    rw [if_neg (by rw [w64 (by omega) (by omega)]; omega)]
  | cons x S =>
    simp only [List.length_cons] at hl
    have e := impl_ins_0 h hc S [x] (by simp; omega) (fun y hy => hm y (by simp at hy; simp [hy])) (fun y hy => hm y (List.mem_cons_of_mem _ hy))
    simp only [List.length_cons, List.length_nil] at e
    rw [show wrap64 (0 + 1) = ((0 + 1 : Nat) : Int) by rw [w64 (by omega) (by omega)]; rfl, ← hl, show S.length + 1 = 0 + 1 + S.length by omega]
    exact e
end Go.Proofs.Ytoonamloihbjnaa.PA
/- due order, short order -/
namespace Go.Proofs.Ytoonamloihbjnaa.PA
open Go.RowKit Go.Proofs.YtoonamloihbjnaaW.PrintWords Go.Proofs.YtoonamloihbjnaaW.PrintLast Go.Proofs.YtoonamloihbjnaaW.PrintMore
set_option linter.unusedVariables false
set_option linter.unusedSimpArgs false
theorem sortL_len (K : Int → Int) : ∀ (S P : List Int), (sortL K P S).length = P.length + S.length := by
  intro S
  induction S with
  | nil => intro P; rfl
  | cons x S ih =>
    intro P
    simp only [sortL]
    rw [ih, insAt_len x (pos_le K P x P.length), List.length_cons]
    omega
def ordBy (ws : List (List Int)) (c : Int) : List Int := if worksOk ws = true then orderBy ws c else []
theorem impl_Due_ev (ws : List (List Int)) : Ev (fun k => impl_DueOrder.f k ws) (ordBy ws 1) := by
  unfold impl_DueOrder.f ordBy
  refine Ev.bind (impl_WorksOk_ev ws) ?_
  by_cases c : worksOk ws = true
  · exact ev_eq (Ev.congr (fun k => if_pos c) (Ev.bind (impl_by_ev c (.inr rfl)) (Ev.now _))) (if_pos c).symm
  · exact ev_eq (Ev.congr (fun k => if_neg c) (Ev.now _)) (if_neg c).symm
theorem impl_Short_ev (ws : List (List Int)) : Ev (fun k => impl_ShortOrder.f k ws) (ordBy ws 0) := by
  unfold impl_ShortOrder.f ordBy
  refine Ev.bind (impl_WorksOk_ev ws) ?_
  by_cases c : worksOk ws = true
  · exact ev_eq (Ev.congr (fun k => if_pos c) (Ev.bind (impl_by_ev c (.inl rfl)) (Ev.now _))) (if_pos c).symm
  · exact ev_eq (Ev.congr (fun k => if_neg c) (Ev.now _)) (if_neg c).symm
end Go.Proofs.Ytoonamloihbjnaa.PA
/- slack -/
namespace Go.Proofs.Ytoonamloihbjnaa.PA
open Go.RowKit Go.Proofs.YtoonamloihbjnaaW.PrintWords Go.Proofs.YtoonamloihbjnaaW.PrintLast Go.Proofs.YtoonamloihbjnaaW.PrintMore
set_option linter.unusedVariables false
set_option linter.unusedSimpArgs false
theorem insAt_perm (P : List Int) (j : Nat) (x : Int) : (insAt P j x).Perm (P ++ [x]) := by
  unfold insAt
  refine List.perm_middle.trans ?_
  rw [List.take_append_drop]
  exact (List.perm_append_singleton x P).symm
theorem sortL_perm (K : Int → Int) : ∀ (S P : List Int), (sortL K P S).Perm (P ++ S) := by
  intro S
  induction S with
  | nil => intro P; simp [sortL]
  | cons x S ih =>
    intro P
    simp only [sortL]
    refine (ih _).trans ?_
    have h := (insAt_perm P (pos K P x P.length) x).append_right S
    rw [List.append_assoc] at h
    exact h
theorem workOrd_by {ws : List (List Int)} (h : worksOk ws = true) (c : Int) : workOrd ws (orderBy ws c) = true := by
  have hp : (orderBy ws c).Perm (upto ws.length) := by
    have := sortL_perm (keyBy ws c) (upto ws.length) []
    simpa [orderBy] using this
  refine workOrd_iff.2 ⟨h, ?_, fun x hx => mem_upto.1 (hp.mem_iff.1 hx), hp.nodup_iff.2 (upto_nodup _)⟩
  rw [hp.length_eq, upto_len]
def slackL (ws : List (List Int)) : List Int → Nat → Int → Int
  | [], _, m => m
  | e :: t, i, m => slackL ws t (i + 1) (mn m (rd (rd_L1 ws (i : Int)) 1 - e))
theorem mx_both (s : Int) : mx (-1) s = mx s (-1) := by
  unfold mx
  split <;> split <;> omega
theorem impl_slack_l {ws : List (List Int)} (h : worksOk ws = true) (t : List Int) (ht : t.length = ws.length) (hb : ∀ x ∈ t, 0 ≤ x ∧ x ≤ 700) : ∀ (d i : Nat) (m : Int), i + d = t.length →
    Ev (fun k => impl_SlackOf.l0 k ws m t (t.length : Int) (i : Int)) (mx (-1) (slackL ws (t.drop i) i m)) := by
  intro d
  have hs := (worksOk_iff.1 h).1
  induction d with
  | zero =>
    intro i m hi
    refine Ev.step (f := fun _ => some (mx (-1) (slackL ws (t.drop i) i m))) (fun k => ?_) (Ev.now _)
    simp only [impl_SlackOf.l0]
    rw [if_neg (by omega), List.drop_of_length_le (by omega), mx_both]
    rfl
  | succ d ih =>
    intro i m hi
    have hlt : i < t.length := by omega
    have hx := hb t[i] (List.getElem_mem hlt)
    have hw := work_at h (show (0 : Int) ≤ (i : Int) by omega) (by omega)
    have w0 := hw.len
    have w1 := hw.h1
    have w2 := hw.h2
    rw [List.drop_eq_getElem_cons hlt]
    simp only [slackL]
    refine Ev.step (f := fun k => impl_SlackOf.l0 k ws (mn m (rd (rd_L1 ws (i : Int)) 1 - t[i])) t (t.length : Int) ((i + 1 : Nat) : Int)) (fun k => ?_) (ih (i + 1) _ (by omega))
    simp only [impl_SlackOf.l0]
    rw [if_pos (by omega), if_pos (by omega), if_pos (by omega), if_pos (by omega), if_pos (by omega), rd_get hlt, w64 (x := rd (rd_L1 ws (i : Int)) 1 - t[i]) (by omega) (by omega), w64 (x := (i : Int) + 1) (by omega) (by omega)]
    rfl
def slack (ws : List (List Int)) : Int := if worksOk ws = true then mx (-1) (slackL ws (endsOf ws (orderBy ws 1)) 0 1000) else -1
theorem impl_Slack_ev (ws : List (List Int)) : Ev (fun k => impl_SlackOf.f k ws) (slack ws) := by
  unfold impl_SlackOf.f slack
  refine Ev.bind (impl_WorksOk_ev ws) ?_
  by_cases c : worksOk ws = true
  · have h := ordOk_of (workOrd_by c 1)
    obtain ⟨h1, h2⟩ := ends_facts h
    have hl : (orderBy ws 1).length ≤ 1048576 := by have := h.len; have := h.small; omega
    have e := impl_EndsAt_ev ws (orderBy ws 1) hl
    rw [if_pos (workOrd_by c 1)] at e
    exact ev_eq (Ev.congr (fun k => if_pos c) (Ev.bind (impl_by_ev c (.inr rfl)) (Ev.bind e (impl_slack_l c _ h1 h2 (endsOf ws (orderBy ws 1)).length 0 1000 (by omega))))) (if_pos c).symm
  · exact ev_eq (Ev.congr (fun k => if_neg c) (Ev.now _)) (if_neg c).symm
end Go.Proofs.Ytoonamloihbjnaa.PA
/- on-time orders -/
namespace Go.Proofs.Ytoonamloihbjnaa.PA
open Go.RowKit Go.Proofs.YtoonamloihbjnaaW.PrintWords Go.Proofs.YtoonamloihbjnaaW.PrintLast Go.Proofs.YtoonamloihbjnaaW.PrintMore
set_option linter.unusedVariables false
set_option linter.unusedSimpArgs false
def longAt (K : Int → Int) (T : List Int) : Nat → Nat → Nat → Nat
  | 0, _, b => b
  | d + 1, i, b => longAt K T d (i + 1) (if K (rd T (i : Int)) > K (rd T (b : Int)) then i else b)
def onT (K D : Int → Int) : List Int → List Int → List Int → Int → List Int
  | [], T, O, _ => T ++ O
  | i :: S, T, O, h => if h + K i ≤ D i then onT K D S (T ++ [i]) O (h + K i) else
      onT K D S ((T ++ [i]).eraseIdx (longAt K (T ++ [i]) (T ++ [i]).length 0 0)) (O ++ [rd (T ++ [i]) (longAt K (T ++ [i]) (T ++ [i]).length 0 0 : Nat)]) (h + K i - K (rd (T ++ [i]) (longAt K (T ++ [i]) (T ++ [i]).length 0 0 : Nat)))
theorem longAt_lt (K : Int → Int) (T : List Int) : ∀ (d i b : Nat), i + d = T.length → b < T.length → longAt K T d i b < T.length := by
  intro d
  induction d with
  | zero => intro i b _ hb; exact hb
  | succ d ih =>
    intro i b hi hb
    simp only [longAt]
    refine ih (i + 1) _ (by omega) ?_
    split
    · omega
    · exact hb
theorem rd_range {ws : List (List Int)} {T : List Int} (hb : ∀ y ∈ T, 0 ≤ y ∧ y ≤ (ws.length : Int) - 1) {j : Nat} (h : j < T.length) : 0 ≤ rd T (j : Int) ∧ rd T (j : Int) ≤ (ws.length : Int) - 1 := by
  rw [rd_get h]
  exact hb _ (List.getElem_mem h)
set_option maxHeartbeats 1000000 in
theorem impl_on_1 {ws : List (List Int)} (h : worksOk ws = true) (T O S : List Int) (hh n : Int) (idx : Nat) (R : List Int) (hT : T.length ≤ 8) (hO : O.length ≤ 8) (hidx : idx ≤ 8) (hh1 : -10000 ≤ hh) (hh2 : hh ≤ 10000) (hb : ∀ y ∈ T, 0 ≤ y ∧ y ≤ (ws.length : Int) - 1) : ∀ (d i b : Nat), i + d = T.length → b < T.length →
    Ev (fun k => impl_OnTimeOrder.l0 k ws (T.eraseIdx (longAt (keyBy ws 0) T d i b)) (O ++ [rd T (longAt (keyBy ws 0) T d i b : Nat)]) (hh - keyBy ws 0 (rd T (longAt (keyBy ws 0) T d i b : Nat))) S n ((idx + 1 : Nat) : Int)) R →
    Ev (fun k => impl_OnTimeOrder.l1 k ws T O hh (b : Int) S n (idx : Int) T (T.length : Int) (i : Int)) R := by
  intro d
  induction d with
  | zero =>
    intro i b hi hbl hr
    simp only [longAt] at hr
    have hy := rd_range hb hbl
    have hk := key_bd h (.inl rfl) hy.1 hy.2
    unfold keyBy at hk hr
    refine Ev.step (f := fun k => impl_OnTimeOrder.l0 k ws (T.eraseIdx b) (O ++ [rd T (b : Int)]) (hh - rd (rd_L1 ws (rd T (b : Int))) 0) S n ((idx + 1 : Nat) : Int)) (fun k => ?_) hr
    rw [impl_OnTimeOrder.l1]
    have HW1 : Aside0 (wrap64 ((b : Int) + 1) = ((b + 1 : Nat) : Int)) := ⟨by rw [w64 (by omega) (by omega)]; omega⟩
    rw [if_neg (by omega), if_pos (by omega), if_pos (by omega), if_pos hy.1, if_pos (by omega), if_pos (by omega), if_pos (by omega), HW1.out, show slices_Delete_int_int.f T (b : Int) ((b + 1 : Nat) : Int) = some (T.take ((b : Int)).toNat ++ T.drop (((b + 1 : Nat) : Int)).toNat) from if_pos (by omega), Option.bind_some, Int.toNat_natCast, Int.toNat_natCast, w64 (x := hh - rd (rd_L1 ws (rd T (b : Int))) 0) (by omega) (by omega), w64 (x := (idx : Int) + 1) (by omega) (by omega), ← List.eraseIdx_eq_take_drop_succ]
    rfl
  | succ d ih =>
    intro i b hi hbl hr
    simp only [longAt] at hr
    have hlt : i < T.length := by omega
    have hy := rd_range hb hbl
    have hk := key_bd h (.inl rfl) hy.1 hy.2
    have hy2 := rd_range hb hlt
    have hk2 := key_bd h (.inl rfl) hy2.1 hy2.2
    by_cases c : keyBy ws 0 (rd T (i : Int)) > keyBy ws 0 (rd T (b : Int))
    · rw [if_pos c] at hr
      refine Ev.step (f := fun k => impl_OnTimeOrder.l1 k ws T O hh (i : Int) S n (idx : Int) T (T.length : Int) ((i + 1 : Nat) : Int)) (fun k => ?_) (ih (i + 1) i (by omega) hlt hr)
      unfold keyBy at c
      rw [impl_OnTimeOrder.l1]
      rw [if_pos (by omega), if_pos (by omega), if_pos (by omega), if_pos hy2.1, if_pos (by omega), if_pos (by omega), if_pos (by omega), if_pos (by omega), if_pos hy.1, if_pos (by omega), if_pos (by omega), if_pos c, w64 (by omega) (by omega)]
      rfl
    · rw [if_neg c] at hr
      refine Ev.step (f := fun k => impl_OnTimeOrder.l1 k ws T O hh (b : Int) S n (idx : Int) T (T.length : Int) ((i + 1 : Nat) : Int)) (fun k => ?_) (ih (i + 1) b (by omega) hbl hr)
      unfold keyBy at c
      rw [impl_OnTimeOrder.l1]
      rw [if_pos (by omega), if_pos (by omega), if_pos (by omega), if_pos hy2.1, if_pos (by omega), if_pos (by omega), if_pos (by omega), if_pos (by omega), if_pos hy.1, if_pos (by omega), if_pos (by omega), if_neg c, w64 (by omega) (by omega)]
      rfl
set_option maxHeartbeats 1000000 in
theorem impl_on_0 {ws : List (List Int)} (h : worksOk ws = true) (S : List Int) (hS : ∀ y ∈ S, 0 ≤ y ∧ y ≤ (ws.length : Int) - 1) (hl : S.length ≤ 7) : ∀ (d idx : Nat) (T O : List Int) (hh : Int), idx + d = S.length → T.length + O.length = idx → (∀ y ∈ T, 0 ≤ y ∧ y ≤ (ws.length : Int) - 1) → -(1000 * (idx : Int)) ≤ hh → hh ≤ 1000 * (idx : Int) →
    Ev (fun k => impl_OnTimeOrder.l0 k ws T O hh S (S.length : Int) (idx : Int)) (onT (keyBy ws 0) (keyBy ws 1) (S.drop idx) T O hh) := by
  intro d
  induction d with
  | zero =>
    intro idx T O hh hi hTO hb h1 h2
    rw [List.drop_of_length_le (by omega)]
    refine Ev.step (f := fun _ => some (T ++ O)) (fun k => ?_) (Ev.now _)
    rw [impl_OnTimeOrder.l0, if_neg (by omega), if_pos (by omega)]
  | succ d ih =>
    intro idx T O hh hi hTO hb h1 h2
    have hlt : idx < S.length := by omega
    have hx := hS S[idx] (List.getElem_mem hlt)
    have hk := key_bd h (.inl rfl) hx.1 hx.2
    have hk1 := key_bd h (.inr rfl) hx.1 hx.2
    rw [List.drop_eq_getElem_cons hlt]
    simp only [onT]
    have hb' : ∀ y ∈ T ++ [S[idx]], 0 ≤ y ∧ y ≤ (ws.length : Int) - 1 := fun y hy => by
      rcases List.mem_append.1 hy with hy | hy
      · exact hb y hy
      · have : y = S[idx] := by simpa using hy
        rw [this]
        exact hx
    by_cases c : hh + keyBy ws 0 S[idx] ≤ keyBy ws 1 S[idx]
    · rw [if_pos c]
      refine Ev.step (f := fun k => impl_OnTimeOrder.l0 k ws (T ++ [S[idx]]) O (hh + keyBy ws 0 S[idx]) S (S.length : Int) ((idx + 1 : Nat) : Int)) (fun k => ?_) (ih (idx + 1) (T ++ [S[idx]]) O (hh + keyBy ws 0 S[idx]) (by omega) (by simp; omega) hb' (by omega) (by omega))
      unfold keyBy at c hk hk1 ⊢
      rw [impl_OnTimeOrder.l0, if_pos (by omega), if_pos (by omega), if_pos (by omega), if_pos (by omega), Option.bind_some, rd_get hlt, if_pos hx.1, if_pos (by omega), if_pos (by omega), if_pos (by omega), w64 (x := hh + rd (rd_L1 ws S[idx]) 0) (by omega) (by omega), if_pos c, w64 (by omega) (by omega)]
      rfl
    · rw [if_neg c]
      have hln := longAt_lt (keyBy ws 0) (T ++ [S[idx]]) (T ++ [S[idx]]).length 0 0 (by omega) (by simp)
      have hz := rd_range hb' hln
      have hkz := key_bd h (.inl rfl) hz.1 hz.2
      have hlen : (T ++ [S[idx]]).length = T.length + 1 := by simp
      have hn := ih (idx + 1) ((T ++ [S[idx]]).eraseIdx (longAt (keyBy ws 0) (T ++ [S[idx]]) (T ++ [S[idx]]).length 0 0)) (O ++ [rd (T ++ [S[idx]]) (longAt (keyBy ws 0) (T ++ [S[idx]]) (T ++ [S[idx]]).length 0 0 : Nat)]) (hh + keyBy ws 0 S[idx] - keyBy ws 0 (rd (T ++ [S[idx]]) (longAt (keyBy ws 0) (T ++ [S[idx]]) (T ++ [S[idx]]).length 0 0 : Nat))) (by omega) (by
        rw [List.length_eraseIdx_of_lt hln]
        simp
        omega) (fun y hy => hb' y (List.mem_of_mem_eraseIdx hy)) (by omega) (by omega)
      have hs := impl_on_1 h (T ++ [S[idx]]) O S (hh + keyBy ws 0 S[idx]) (S.length : Int) idx _ (by omega) (by omega) (by omega) (by omega) (by omega) hb' (T ++ [S[idx]]).length 0 0 (by omega) (by omega) hn
      refine Ev.step (f := fun k => impl_OnTimeOrder.l1 k ws (T ++ [S[idx]]) O (hh + keyBy ws 0 S[idx]) 0 S (S.length : Int) (idx : Int) (T ++ [S[idx]]) ((T ++ [S[idx]]).length : Int) 0) (fun k => ?_) hs
      unfold keyBy at c hk hk1 ⊢
      rw [impl_OnTimeOrder.l0, if_pos (by omega), if_pos (by omega), if_pos (by omega), if_pos (by omega), Option.bind_some, rd_get hlt, if_pos hx.1, if_pos (by omega), if_pos (by omega), if_pos (by omega), w64 (x := hh + rd (rd_L1 ws S[idx]) 0) (by omega) (by omega), if_neg c]
theorem mem_sortL (K : Int → Int) : ∀ (S P : List Int) (y : Int), y ∈ sortL K P S → y ∈ P ∨ y ∈ S := by
  intro S
  induction S with
  | nil => intro P y h; exact .inl h
  | cons x S ih =>
    intro P y h
    simp only [sortL] at h
    rcases ih _ y h with h | h
    · rcases insAt_mem h with h | rfl
      · exact .inl h
      · exact .inr List.mem_cons_self
    · exact .inr (List.mem_cons_of_mem _ h)
theorem orderBy_mem {ws : List (List Int)} {c y : Int} (h : y ∈ orderBy ws c) : 0 ≤ y ∧ y ≤ (ws.length : Int) - 1 := by
  unfold orderBy at h
  rcases mem_sortL _ _ _ _ h with h | h
  · simp at h
  · exact mem_upto.1 h
theorem orderBy_len (ws : List (List Int)) (c : Int) : (orderBy ws c).length = ws.length := by
  unfold orderBy
  rw [sortL_len, upto_len]
  simp
def onTime (ws : List (List Int)) : List Int := if worksOk ws = true then onT (keyBy ws 0) (keyBy ws 1) (orderBy ws 1) [] [] 0 else []
theorem onT_len (K D : Int → Int) : ∀ (S T O : List Int) (h : Int), (onT K D S T O h).length = S.length + T.length + O.length := by
  intro S
  induction S with
  | nil => intro T O h; simp [onT]
  | cons x S ih =>
    intro T O h
    simp only [onT]
    split
    · rw [ih]
      simp
      omega
    · rw [ih, List.length_eraseIdx_of_lt (longAt_lt K (T ++ [x]) _ 0 0 (by omega) (by simp))]
      simp
      omega
theorem onTime_bd (ws : List (List Int)) : (onTime ws).length ≤ 7 := by
  unfold onTime
  split
  · rename_i h
    rw [onT_len, orderBy_len]
    have := (worksOk_iff.1 h).1
    simpa using this
  · simp
theorem impl_OnTime_ev (ws : List (List Int)) : Ev (fun k => impl_OnTimeOrder.f k ws) (onTime ws) := by
  unfold impl_OnTimeOrder.f onTime
  refine Ev.bind (impl_WorksOk_ev ws) ?_
  by_cases c : worksOk ws = true
  · have hs := (worksOk_iff.1 c).1
    have hl := orderBy_len ws 1
    refine ev_eq (Ev.congr (fun k => if_pos c) (Ev.bind (impl_by_ev c (.inr rfl)) ?_)) (if_pos c).symm
    exact impl_on_0 c (orderBy ws 1) (fun y hy => orderBy_mem hy) (by omega) (orderBy ws 1).length 0 [] [] 0 (by omega) rfl (by simp) (by omega) (by omega)
  · exact ev_eq (Ev.congr (fun k => if_neg c) (Ev.now _)) (if_neg c).symm
theorem impl_Fewest_ev (ws : List (List Int)) : Ev (fun k => impl_FewestLate.f k ws) (if worksOk ws = true then countLate ws (onTime ws) else -1) := by
  unfold impl_FewestLate.f
  refine Ev.bind (impl_WorksOk_ev ws) ?_
  by_cases c : worksOk ws = true
  · have hb := onTime_bd ws
    refine ev_eq (Ev.congr (fun k => if_pos c) (Ev.bind (impl_OnTime_ev ws) (Ev.bind (impl_Count_ev ws (onTime ws) (by omega)) (Ev.now _)))) (if_pos c).symm
  · exact ev_eq (Ev.congr (fun k => if_neg c) (Ev.now _)) (if_neg c).symm
end Go.Proofs.Ytoonamloihbjnaa.PA
/- FnDays: the plain law. -/
namespace Go.Proofs.Ytoonamloihbjnaa.PA
open Go.RowKit Go.Proofs.YtoonamloihbjnaaW.PrintWords Go.Proofs.YtoonamloihbjnaaW.PrintLast Go.Proofs.YtoonamloihbjnaaW.PrintMore
set_option linter.unusedVariables false
set_option linter.unusedSimpArgs false
def totK (K : Int → Int) : List Int → Int
  | [] => 0
  | x :: l => K x + totK K l
def feas (K D : Int → Int) : Int → List Int → Prop
  | _, [] => True
  | a, x :: l => a + K x ≤ D x ∧ feas K D (a + K x) l
def endAt (K : Int → Int) : Int → List Int → Int → Int
  | a, [], _ => a
  | a, x :: o, i => if x = i then a + K x else endAt K (a + K x) o i
theorem totK_append (K : Int → Int) : ∀ l m : List Int, totK K (l ++ m) = totK K l + totK K m := by
  intro l m
  induction l with
  | nil => simp [totK]
  | cons x l ih => simp only [List.cons_append, totK, ih]; omega
theorem feas_append (K D : Int → Int) : ∀ (l m : List Int) (a : Int), feas K D a (l ++ m) ↔ feas K D a l ∧ feas K D (a + totK K l) m := by
  intro l m
  induction l with
  | nil => intro a; simp [feas, totK]
  | cons x l ih =>
    intro a
    simp only [List.cons_append, feas, ih, totK, and_assoc, Int.add_assoc]
theorem feas_le {K D : Int → Int} {B : Int} : ∀ {l : List Int} {a : Int}, feas K D a l → (∀ x ∈ l, D x ≤ B) → a ≤ B → a + totK K l ≤ B := by
  intro l
  induction l with
  | nil => intro a _ _ h; simp [totK]; exact h
  | cons x l ih =>
    intro a h hb _
    simp only [feas] at h
    have := ih h.2 (fun y hy => hb y (List.mem_cons_of_mem _ hy)) (Int.le_trans h.1 (hb x List.mem_cons_self))
    simp only [totK]
    omega
theorem feas_sub {K D : Int → Int} {T G : List Int} (h : G.Sublist T) : ∀ {a b : Int}, (∀ x ∈ T, 0 ≤ K x) → feas K D a T → b ≤ a → feas K D b G := by
  induction h with
  | slnil => intro a b _ _ _; trivial
  | cons x _ ih =>
    intro a b hK hf hb
    simp only [feas] at hf
    have h0 := hK x List.mem_cons_self
    exact ih (fun y hy => hK y (List.mem_cons_of_mem _ hy)) hf.2 (by omega)
  | cons_cons x _ ih =>
    intro a b hK hf hb
    simp only [feas] at hf ⊢
    exact ⟨by omega, ih (fun y hy => hK y (List.mem_cons_of_mem _ hy)) hf.2 (by omega)⟩
theorem totK_erase {K : Int → Int} : ∀ {l : List Int} {x : Int}, x ∈ l → totK K (l.erase x) = totK K l - K x := by
  intro l
  induction l with
  | nil => intro x h; cases h
  | cons y l ih =>
    intro x h
    by_cases e : y = x
    · subst e
      rw [List.erase_cons_head]
      simp only [totK]
      omega
    · have hm : x ∈ l := by
        rcases List.mem_cons.1 h with h | h
        · exact absurd h.symm e
        · exact h
      rw [List.erase_cons_tail (by simpa using e)]
      simp only [totK]
      rw [ih hm]
      omega
theorem totK_eraseIdx {K : Int → Int} : ∀ {l : List Int} {j : Nat} (h : j < l.length), totK K (l.eraseIdx j) = totK K l - K l[j] := by
  intro l
  induction l with
  | nil => intro j h; simp at h
  | cons y l ih =>
    intro j h
    cases j with
    | zero => simp [totK]; omega
    | succ j =>
      have h' : j < l.length := by simpa using h
      simp only [List.eraseIdx_cons_succ, totK, List.getElem_cons_succ]
      rw [ih h']
      omega
/-- One more element can be taken in. -/
theorem sub_grow {K : Int → Int} {M : Int} {l g : List Int} (h : g.Sublist l) : g.length < l.length → (∀ y ∈ l, K y ≤ M) → ∃ g' : List Int, g'.Sublist l ∧ g'.length = g.length + 1 ∧ totK K g' ≤ totK K g + M := by
  induction h with
  | slnil => intro h _; simp at h
  | @cons g l y hs _ =>
    intro _ hM
    exact ⟨y :: g, hs.cons_cons y, by simp, by have := hM y List.mem_cons_self; simp only [totK]; omega⟩
  | @cons_cons g l y hs ih =>
    intro hl hM
    obtain ⟨g', h1, h2, h3⟩ := ih (by simpa using hl) (fun z hz => hM z (List.mem_cons_of_mem _ hz))
    exact ⟨y :: g', h1.cons_cons y, by simp [h2], by simp only [totK]; omega⟩
/-- A part without the greatest one that is as large and needs no more. -/
theorem sub_erase {K : Int → Int} : ∀ (L : List Int) (j : Nat) (hj : j < L.length) (G : List Int), (∀ y ∈ L, K y ≤ K L[j]) → G.Sublist L → G.length < L.length → ∃ G' : List Int, G'.Sublist (L.eraseIdx j) ∧ G'.length = G.length ∧ totK K G' ≤ totK K G := by
  intro L
  induction L with
  | nil => intro j hj; simp at hj
  | cons x l ih =>
    intro j hj G hM hs hl
    simp only [List.length_cons] at hl
    cases j with
    | zero =>
      simp only [List.eraseIdx_cons_zero]
      simp only [List.getElem_cons_zero] at hM
      cases hs with
      | cons _ h => exact ⟨G, h, rfl, Int.le_refl _⟩
      | @cons_cons g _ _ h =>
        obtain ⟨g', h1, h2, h3⟩ := sub_grow (M := K x) h (by simpa using hl) (fun y hy => hM y (List.mem_cons_of_mem _ hy))
        exact ⟨g', h1, by simp [h2], by simp only [totK]; omega⟩
    | succ j =>
      have hj' : j < l.length := by simpa using hj
      simp only [List.eraseIdx_cons_succ]
      simp only [List.getElem_cons_succ] at hM
      have hM' : ∀ y ∈ l, K y ≤ K l[j] := fun y hy => hM y (List.mem_cons_of_mem _ hy)
      cases hs with
      | cons _ h =>
        by_cases e : G.length < l.length
        · obtain ⟨G', h1, h2, h3⟩ := ih j hj' G hM' h e
          exact ⟨G', h1.cons x, h2, h3⟩
        · have hG : G = l := h.eq_of_length (by have := h.length_le; omega)
          subst hG
          refine ⟨x :: G.eraseIdx j, List.Sublist.refl _, ?_, ?_⟩
          · simp only [List.length_cons, List.length_eraseIdx_of_lt hj']
            omega
          · have := hM x List.mem_cons_self
            simp only [totK]
            rw [totK_eraseIdx hj']
            omega
      | @cons_cons g _ _ h =>
        obtain ⟨G', h1, h2, h3⟩ := ih j hj' g hM' h (by simpa using hl)
        exact ⟨x :: G', h1.cons_cons x, by simp [h2], by simp only [totK]; omega⟩
theorem erase_perm : ∀ (l : List Int) (j : Nat) (h : j < l.length), (l[j] :: l.eraseIdx j).Perm l := by
  intro l
  induction l with
  | nil => intro j h; simp at h
  | cons x l ih =>
    intro j h
    cases j with
    | zero => exact List.Perm.refl _
    | succ j => exact (List.Perm.swap x _ _).trans ((ih j (by simpa using h)).cons x)
/-- What stands of the taken works T behind the works J, in due order. -/
structure Moore (K D : Int → Int) (J T O : List Int) : Prop where
  sub : T.Sublist J
  ok : feas K D 0 T
  best : ∀ F : List Int, F.Sublist J → feas K D 0 F → ∃ G : List Int, G.Sublist T ∧ G.length = F.length ∧ totK K G ≤ totK K F
  perm : (T ++ O).Perm J
theorem Moore.start (K D : Int → Int) : Moore K D [] [] [] :=
  ⟨List.Sublist.refl _, trivial, fun F hF _ => ⟨[], List.Sublist.refl _, by rw [List.sublist_nil.1 hF], by rw [List.sublist_nil.1 hF]; exact Int.le_refl _⟩, List.Perm.refl _⟩
theorem Moore.keep {K D : Int → Int} {J T O : List Int} {i : Int} (h : Moore K D J T O) (hi : totK K T + K i ≤ D i) : Moore K D (J ++ [i]) (T ++ [i]) O := by
  refine ⟨h.sub.append (List.Sublist.refl _), (feas_append K D T [i] 0).2 ⟨h.ok, by simp only [feas]; exact ⟨by omega, trivial⟩⟩, fun F hF hf => ?_, ?_⟩
  · obtain ⟨F0, F1, rfl, h0, h1⟩ := List.sublist_append_iff.1 hF
    obtain ⟨f0, f1⟩ := (feas_append K D F0 F1 0).1 hf
    obtain ⟨G, g1, g2, g3⟩ := h.best F0 h0 f0
    refine ⟨G ++ F1, g1.append h1, by simp [g2], by rw [totK_append, totK_append]; omega⟩
  · refine List.Perm.trans ?_ (h.perm.append_right [i])
    rw [List.append_assoc, List.append_assoc]
    exact List.Perm.append_left T (List.perm_append_comm)
theorem Moore.drop {K D : Int → Int} {J T O : List Int} {i : Int} (h : Moore K D J T O) (hK : ∀ x ∈ J, 0 ≤ K x) (hKi : 0 ≤ K i) (hD : ∀ x ∈ J, D x ≤ D i) (h0 : 0 ≤ D i) (hi : ¬ totK K T + K i ≤ D i)
    (j : Nat) (hj : j < (T ++ [i]).length) (hM : ∀ y ∈ T ++ [i], K y ≤ K (T ++ [i])[j]) : Moore K D (J ++ [i]) ((T ++ [i]).eraseIdx j) (O ++ [(T ++ [i])[j]]) := by
  have hT : ∀ x ∈ T, 0 ≤ K x := fun x hx => hK x (h.sub.subset hx)
  refine ⟨(List.eraseIdx_sublist _ _).trans (h.sub.append (List.Sublist.refl _)), ?_, fun F hF hf => ?_, ?_⟩
  · by_cases e : j < T.length
    · rw [List.eraseIdx_append_of_lt_length e]
      have hg : (T ++ [i])[j] = T[j] := List.getElem_append_left e
      have hm := hM i (by simp)
      rw [hg] at hm
      refine (feas_append K D _ _ 0).2 ⟨feas_sub (List.eraseIdx_sublist _ _) hT h.ok (Int.le_refl _), ?_⟩
      have ht := feas_le (B := D i) h.ok (fun x hx => hD x (h.sub.subset hx)) h0
      simp only [feas]
      rw [totK_eraseIdx e]
      exact ⟨by omega, trivial⟩
    · have hj' : j = T.length := by simp at hj; omega
      subst hj'
      rw [List.eraseIdx_append_of_length_le (Nat.le_refl _)]
      simpa using h.ok
  · obtain ⟨F0, F1, rfl, s0, s1⟩ := List.sublist_append_iff.1 hF
    obtain ⟨f0, f1⟩ := (feas_append K D F0 F1 0).1 hf
    obtain ⟨G, g1, g2, g3⟩ := h.best F0 s0 f0
    have hlt : (G ++ F1).length < (T ++ [i]).length := by
      by_cases e : G.length < T.length
      · have := s1.length_le
        simp only [List.length_append]
        simp only [List.length_singleton] at this ⊢
        omega
      · have hG : G = T := g1.eq_of_length (by have := g1.length_le; omega)
        subst hG
        cases F1 with
        | nil => simp
        | cons y F1 =>
          exfalso
          have hy : y = i := by have := s1.subset (List.mem_cons_self); simpa using this
          subst hy
          simp only [feas] at f1
          omega
    obtain ⟨G', q1, q2, q3⟩ := sub_erase (T ++ [i]) j hj (G ++ F1) hM (g1.append s1) hlt
    exact ⟨G', q1, by rw [q2]; simp [g2], by rw [totK_append] at q3 ⊢; omega⟩
  · have hp : ((T ++ [i])[j] :: (T ++ [i]).eraseIdx j).Perm (T ++ [i]) := erase_perm _ j hj
    have h1 : ((T ++ [i]).eraseIdx j ++ (O ++ [(T ++ [i])[j]])).Perm (((T ++ [i])[j] :: (T ++ [i]).eraseIdx j) ++ O) := by
      have a : ((T ++ [i]).eraseIdx j ++ (O ++ [(T ++ [i])[j]])).Perm ((T ++ [i]).eraseIdx j ++ ([(T ++ [i])[j]] ++ O)) := List.Perm.append_left _ List.perm_append_comm
      refine a.trans ?_
      rw [← List.append_assoc]
      exact List.Perm.append_right O List.perm_append_comm
    refine h1.trans ((hp.append_right O).trans ?_)
    rw [List.append_assoc]
    refine (List.Perm.append_left T (List.perm_append_comm (l₁ := [i]) (l₂ := O))).trans ?_
    rw [← List.append_assoc]
    exact h.perm.append_right [i]
/-- The last one of a set, in any order, ends no sooner than the set's sum. -/
theorem end_max {K : Int → Int} : ∀ (o A : List Int) (a : Int), (∀ x ∈ o, 0 ≤ K x) → A ≠ [] → A.Nodup → (∀ x ∈ A, x ∈ o) → ∃ i ∈ A, a + totK K A ≤ endAt K a o i := by
  intro o
  induction o with
  | nil =>
    intro A a _ hne _ hm
    cases A with
    | nil => exact absurd rfl hne
    | cons x A => have := hm x List.mem_cons_self; simp at this
  | cons x o ih =>
    intro A a hK hne hn hm
    have hx := hK x List.mem_cons_self
    by_cases e : x ∈ A
    · by_cases e2 : A.erase x = []
      · refine ⟨x, e, ?_⟩
        have := totK_erase (K := K) e
        rw [e2] at this
        simp only [totK] at this
        simp only [endAt, if_pos]
        omega
      · have hn2 := hn.erase x
        obtain ⟨i, hi, hle⟩ := ih (A.erase x) (a + K x) (fun y hy => hK y (List.mem_cons_of_mem _ hy)) e2 hn2 (fun y hy => by
          have h1 := List.mem_of_mem_erase hy
          have h2 : y ≠ x := fun z => by subst z; exact (hn.not_mem_erase) hy
          rcases List.mem_cons.1 (hm y h1) with h | h
          · exact absurd h h2
          · exact h)
        have h2 : x ≠ i := fun z => by subst z; exact (hn.not_mem_erase) hi
        refine ⟨i, List.mem_of_mem_erase hi, ?_⟩
        have := totK_erase (K := K) e
        simp only [endAt, if_neg h2]
        omega
    · obtain ⟨i, hi, hle⟩ := ih A (a + K x) (fun y hy => hK y (List.mem_cons_of_mem _ hy)) hne hn (fun y hy => by
        have h2 : y ≠ x := fun z => by subst z; exact e hy
        rcases List.mem_cons.1 (hm y hy) with h | h
        · exact absurd h h2
        · exact h)
      have h2 : x ≠ i := fun z => by subst z; exact e hi
      refine ⟨i, hi, ?_⟩
      simp only [endAt, if_neg h2]
      omega
/-- Works that are on time in any order are so in due order alone. -/
theorem feas_of_ends {K D : Int → Int} (o : List Int) (hK : ∀ x ∈ o, 0 ≤ K x) : ∀ (S P : List Int), (P ++ S).Nodup → (P ++ S).Pairwise (fun x y => D x ≤ D y) → (∀ x ∈ P ++ S, x ∈ o ∧ endAt K 0 o x ≤ D x) → feas K D (totK K P) S := by
  intro S
  induction S with
  | nil => intro P _ _ _; trivial
  | cons x S ih =>
    intro P hn hp hm
    have e : P ++ x :: S = (P ++ [x]) ++ S := by simp
    rw [e] at hn hp hm
    have h := ih (P ++ [x]) hn hp hm
    rw [totK_append] at h
    simp only [totK, Int.add_zero] at h
    simp only [feas]
    refine ⟨?_, h⟩
    have hn1 : (P ++ [x]).Nodup := (List.nodup_append.1 hn).1
    have hp1 : (P ++ [x]).Pairwise (fun x y => D x ≤ D y) := (List.pairwise_append.1 hp).1
    obtain ⟨i, hi, hle⟩ := end_max (K := K) o (P ++ [x]) 0 hK (by simp) hn1 (fun y hy => (hm y (List.mem_append_left _ hy)).1)
    have h1 := (hm i (List.mem_append_left _ hi)).2
    rw [totK_append] at hle
    simp only [totK] at hle
    have h2 : D i ≤ D x := by
      rcases List.mem_append.1 hi with hi | hi
      · exact (List.pairwise_append.1 hp1).2.2 i hi x (by simp)
      · have : i = x := by simpa using hi
        rw [this]
        exact Int.le_refl _
    omega
theorem end_feas {K D : Int → Int} : ∀ (T O : List Int) (a : Int), T.Nodup → feas K D a T → ∀ i ∈ T, endAt K a (T ++ O) i ≤ D i := by
  intro T
  induction T with
  | nil => intro O a _ _ i hi; cases hi
  | cons x T ih =>
    intro O a hn hf i hi
    simp only [feas] at hf
    simp only [List.cons_append, endAt]
    by_cases e : x = i
    · subst e
      rw [if_pos rfl]
      exact hf.1
    · rw [if_neg e]
      refine ih O (a + K x) (List.nodup_cons.1 hn).2 hf.2 i ?_
      rcases List.mem_cons.1 hi with h | h
      · exact absurd h.symm e
      · exact h
theorem end_prefix {K : Int → Int} : ∀ (A B : List Int) (x a : Int), x ∉ A → endAt K a (A ++ x :: B) x = a + totK K A + K x := by
  intro A
  induction A with
  | nil => intro B x a _; simp [endAt, totK]
  | cons y A ih =>
    intro B x a h
    have h1 : y ≠ x := fun z => h (by rw [z]; exact List.mem_cons_self)
    simp only [List.cons_append, endAt, if_neg h1, totK]
    rw [ih B x (a + K y) (fun z => h (List.mem_cons_of_mem _ z))]
    omega
/-- Due order: the greatest lateness is least. -/
theorem late_least {K D : Int → Int} (E o : List Int) (hK : ∀ x ∈ o, 0 ≤ K x) (hE : E.Nodup) (hp : E.Pairwise (fun x y => D x ≤ D y)) (hm : ∀ x ∈ E, x ∈ o) {i : Int} (hi : i ∈ E) : ∃ j ∈ E, endAt K 0 E i - D i ≤ endAt K 0 o j - D j := by
  obtain ⟨A, B, rfl⟩ := List.append_of_mem hi
  have hn : i ∉ A := fun z => by
    have := (List.nodup_append.1 hE).2.2 i z i List.mem_cons_self
    exact this rfl
  have e := end_prefix (K := K) A B i 0 hn
  have e2 : A ++ i :: B = (A ++ [i]) ++ B := by simp
  have hn1 : (A ++ [i]).Nodup := by rw [e2] at hE; exact (List.nodup_append.1 hE).1
  obtain ⟨j, hj, hle⟩ := end_max (K := K) o (A ++ [i]) 0 hK (by simp) hn1 (fun y hy => hm y (by rw [e2]; exact List.mem_append_left _ hy))
  rw [totK_append] at hle
  simp only [totK] at hle
  refine ⟨j, by rw [e2]; exact List.mem_append_left _ hj, ?_⟩
  have h2 : D j ≤ D i := by
    rcases List.mem_append.1 hj with hj | hj
    · exact (List.pairwise_append.1 hp).2.2 j hj i List.mem_cons_self
    · have : j = i := by simpa using hj
      rw [this]
      exact Int.le_refl _
  omega
def sumEnds (K : Int → Int) : Int → List Int → Int
  | _, [] => 0
  | a, x :: o => (a + K x) + sumEnds K (a + K x) o
def minsOf (K : Int → Int) (x : Int) : List Int → Int
  | [] => 0
  | y :: l => (if K x ≤ K y then K x else K y) + minsOf K x l
def pairMins (K : Int → Int) : List Int → Int
  | [] => 0
  | x :: l => K x + minsOf K x l + pairMins K l
theorem minsOf_perm {K : Int → Int} {x : Int} {l m : List Int} (h : l.Perm m) : minsOf K x l = minsOf K x m := by
  induction h with
  | nil => rfl
  | cons y _ ih => simp only [minsOf, ih]
  | swap y z l => simp only [minsOf]; omega
  | trans _ _ h1 h2 => rw [h1, h2]
theorem pairMins_perm {K : Int → Int} {l m : List Int} (h : l.Perm m) : pairMins K l = pairMins K m := by
  induction h with
  | nil => rfl
  | cons y h ih => simp only [pairMins, ih, minsOf_perm h]
  | swap y z l =>
    simp only [pairMins, minsOf]
    by_cases h1 : K y ≤ K z
    · by_cases h2 : K z ≤ K y
      · rw [if_pos h1, if_pos h2]; omega
      · rw [if_pos h1, if_neg h2]; omega
    · rw [if_neg h1, if_pos (by omega)]; omega
  | trans _ _ h1 h2 => rw [h1, h2]
theorem minsOf_le {K : Int → Int} {x : Int} : ∀ l : List Int, minsOf K x l ≤ (l.length : Int) * K x := by
  intro l
  induction l with
  | nil => simp [minsOf]
  | cons y l ih =>
    have e : ((y :: l).length : Int) * K x = (l.length : Int) * K x + K x := by
      rw [List.length_cons, Int.natCast_add, Int.add_mul]
      simp
    simp only [minsOf]
    rw [e]
    split <;> omega
theorem minsOf_eq {K : Int → Int} {x : Int} : ∀ l : List Int, (∀ y ∈ l, K x ≤ K y) → minsOf K x l = (l.length : Int) * K x := by
  intro l
  induction l with
  | nil => intro _; simp [minsOf]
  | cons y l ih =>
    intro h
    have e : ((y :: l).length : Int) * K x = (l.length : Int) * K x + K x := by
      rw [List.length_cons, Int.natCast_add, Int.add_mul]
      simp
    simp only [minsOf]
    rw [e, if_pos (h y List.mem_cons_self), ih (fun z hz => h z (List.mem_cons_of_mem _ hz))]
    omega
theorem sumEnds_ge {K : Int → Int} : ∀ (o : List Int) (a : Int), (o.length : Int) * a + pairMins K o ≤ sumEnds K a o := by
  intro o
  induction o with
  | nil => intro a; simp [sumEnds, pairMins]
  | cons x o ih =>
    intro a
    have h := ih (a + K x)
    have h2 := minsOf_le (K := K) (x := x) o
    have e : ((x :: o).length : Int) * a = (o.length : Int) * a + a := by
      rw [List.length_cons, Int.natCast_add, Int.add_mul]
      simp
    rw [Int.mul_add] at h
    simp only [sumEnds, pairMins]
    rw [e]
    omega
theorem sumEnds_sorted {K : Int → Int} : ∀ (o : List Int) (a : Int), o.Pairwise (fun x y => K x ≤ K y) → sumEnds K a o = (o.length : Int) * a + pairMins K o := by
  intro o
  induction o with
  | nil => intro a _; simp [sumEnds, pairMins]
  | cons x o ih =>
    intro a hp
    rw [List.pairwise_cons] at hp
    have h := ih (a + K x) hp.2
    have h2 := minsOf_eq (K := K) (x := x) o hp.1
    have e : ((x :: o).length : Int) * a = (o.length : Int) * a + a := by
      rw [List.length_cons, Int.natCast_add, Int.add_mul]
      simp
    rw [Int.mul_add] at h
    simp only [sumEnds, pairMins]
    rw [e]
    omega
/-- Short ones first: the sum of the ends is least. -/
theorem sum_least {K : Int → Int} {S o : List Int} (hp : S.Pairwise (fun x y => K x ≤ K y)) (h : o.Perm S) : sumEnds K 0 S ≤ sumEnds K 0 o := by
  have h1 := sumEnds_sorted S 0 hp
  have h2 := sumEnds_ge (K := K) o 0
  rw [pairMins_perm h] at h2
  simp at h1 h2
  omega
theorem pos_spec (K : Int → Int) (P : List Int) (x : Int) : ∀ j, (∀ i : Nat, pos K P x j ≤ i → i < j → K x < K (rd P (i : Int))) ∧ (0 < pos K P x j → K (rd P ((pos K P x j - 1 : Nat) : Int)) ≤ K x) := by
  intro j
  induction j with
  | zero => exact ⟨fun i _ h => by omega, fun h => by simp [pos] at h⟩
  | succ j ih =>
    obtain ⟨h1, h2⟩ := ih
    simp only [pos]
    by_cases c : K (rd P (j : Int)) > K x
    · rw [if_pos c]
      refine ⟨fun i a b => ?_, h2⟩
      by_cases e : i = j
      · subst e; exact c
      · exact h1 i a (by omega)
    · rw [if_neg c]
      refine ⟨fun i a b => by omega, fun _ => ?_⟩
      have e : j + 1 - 1 = j := by omega
      rw [e]
      omega
theorem insAt_sorted {K : Int → Int} {P : List Int} {x : Int} (h : P.Pairwise (fun a b => K a ≤ K b)) : (insAt P (pos K P x P.length) x).Pairwise (fun a b => K a ≤ K b) := by
  have hle := pos_le K P x P.length
  obtain ⟨h1, h2⟩ := pos_spec K P x P.length
  generalize pos K P x P.length = p at *
  unfold insAt
  rw [List.pairwise_append, List.pairwise_cons]
  have hd : ∀ b ∈ P.drop p, K x ≤ K b := by
    intro b hb
    obtain ⟨i, hi, rfl⟩ := List.getElem_of_mem hb
    rw [List.getElem_drop]
    rw [List.length_drop] at hi
    have := h1 (p + i) (by omega) (by omega)
    rw [rd_get (by omega : p + i < P.length)] at this
    omega
  have ht : ∀ a ∈ P.take p, K a ≤ K x := by
    intro a ha
    obtain ⟨i, hi, rfl⟩ := List.getElem_of_mem ha
    rw [List.getElem_take]
    rw [List.length_take] at hi
    have h3 := h2 (by omega)
    rw [rd_get (by omega : p - 1 < P.length)] at h3
    by_cases e : i = p - 1
    · subst e; exact h3
    · have := (List.pairwise_iff_getElem.1 h) i (p - 1) (by omega) (by omega) (by omega)
      omega
  refine ⟨h.sublist (List.take_sublist _ _), ⟨hd, h.sublist (List.drop_sublist _ _)⟩, fun a ha b hb => ?_⟩
  have h3 := ht a ha
  rcases List.mem_cons.1 hb with rfl | hb
  · exact h3
  · have := hd b hb; omega
theorem sortL_sorted {K : Int → Int} : ∀ (S P : List Int), P.Pairwise (fun a b => K a ≤ K b) → (sortL K P S).Pairwise (fun a b => K a ≤ K b) := by
  intro S
  induction S with
  | nil => intro P h; exact h
  | cons x S ih => intro P h; exact ih _ (insAt_sorted h)
theorem pos_congr {K K' : Int → Int} (P : List Int) (x : Int) (h : ∀ y ∈ P, (K y > K x ↔ K' y > K' x)) : ∀ j, j ≤ P.length → pos K P x j = pos K' P x j := by
  intro j
  induction j with
  | zero => intro _; rfl
  | succ j ih =>
    intro hj
    simp only [pos]
    rw [rd_get (by omega : j < P.length), ih (by omega)]
    have := h P[j] (List.getElem_mem (by omega))
    by_cases c : K P[j] > K x
    · rw [if_pos c, if_pos (this.1 c)]
    · rw [if_neg c, if_neg (fun z => c (this.2 z))]
theorem sortL_congr {K K' : Int → Int} (A : Int → Prop) (h : ∀ x y, A x → A y → (K y > K x ↔ K' y > K' x)) : ∀ (S P : List Int), (∀ x ∈ P, A x) → (∀ x ∈ S, A x) → sortL K P S = sortL K' P S := by
  intro S
  induction S with
  | nil => intro P _ _; rfl
  | cons x S ih =>
    intro P hP hS
    have hx := hS x List.mem_cons_self
    simp only [sortL]
    rw [pos_congr P x (fun y hy => h x y hx (hP y hy)) P.length (Nat.le_refl _)]
    refine ih _ (fun y hy => ?_) (fun y hy => hS y (List.mem_cons_of_mem _ hy))
    rcases insAt_mem hy with hy | rfl
    · exact hP y hy
    · exact hx
/-- The whole numbers from i on. -/
def upf : Nat → Nat → List Int
  | _, 0 => []
  | i, d + 1 => (i : Int) :: upf (i + 1) d
theorem upf_range : ∀ (d i : Nat), upf i d = (List.range' i d).map fun j : Nat => (j : Int) := by
  intro d
  induction d with
  | zero => intro i; rfl
  | succ d ih => intro i; simp only [upf, List.range'_succ, List.map_cons, ih]
theorem upto_upf (n : Nat) : upto n = upf 0 n := by
  rw [upf_range]
  unfold upto
  rw [List.range_eq_range']
theorem endsL_get (ws : List (List Int)) : ∀ (o : List Int) (a : Int) (out : List Int), o.Nodup → (∀ x ∈ o, 0 ≤ x ∧ x.toNat < out.length) → ∀ j : Nat, (endsL ws a out o)[j]? = if (j : Int) ∈ o then some (endAt (keyBy ws 0) a o (j : Int)) else out[j]? := by
  intro o
  induction o with
  | nil => intro a out _ _ j; rw [if_neg (by simp)]; rfl
  | cons i o ih =>
    intro a out hn hm j
    obtain ⟨hni, hno⟩ := List.nodup_cons.1 hn
    have hi := hm i List.mem_cons_self
    have e := ih (a + rd (rd_L1 ws i) 0) (out.set i.toNat (a + rd (rd_L1 ws i) 0)) hno (fun x hx => by rw [List.length_set]; exact hm x (List.mem_cons_of_mem _ hx)) j
    simp only [endsL, endAt]
    rw [e]
    by_cases ci : i = (j : Int)
    · rw [if_neg (by rw [← ci]; exact hni), if_pos (by rw [ci]; exact List.mem_cons_self), if_pos ci]
      have ej : i.toNat = j := by omega
      rw [ej, List.getElem?_set_self (by omega)]
      rfl
    · rw [if_neg ci]
      by_cases cm : (j : Int) ∈ o
      · rw [if_pos cm, if_pos (List.mem_cons_of_mem _ cm)]
        rfl
      · rw [if_neg cm, if_neg (fun z => (List.mem_cons.1 z).elim (fun y => ci y.symm) cm), List.getElem?_set_ne (by omega)]
/-- An order of the works. -/
structure Ord (ws : List (List Int)) (o : List Int) : Prop where
  ok : worksOk ws = true
  perm : o.Perm (upto ws.length)
theorem Ord.order {ws : List (List Int)} {o : List Int} (h : Ord ws o) : workOrd ws o = true :=
  workOrd_iff.2 ⟨h.ok, by rw [h.perm.length_eq, upto_len], fun x hx => mem_upto.1 (h.perm.mem_iff.1 hx), h.perm.nodup_iff.2 (upto_nodup _)⟩
theorem Ord.ends {ws : List (List Int)} {o : List Int} (h : Ord ws o) : endsOf ws o = (upto ws.length).map (endAt (keyBy ws 0) 0 o) := by
  obtain ⟨_, h2, h3, h4⟩ := workOrd_iff.1 h.order
  apply List.ext_getElem?
  intro j
  unfold endsOf
  rw [endsL_get ws o 0 _ h4 (fun x hx => by have := h3 x hx; rw [List.length_replicate]; omega) j]
  by_cases c : j < ws.length
  · have hm : (j : Int) ∈ o := h.perm.mem_iff.2 (mem_upto.2 (by omega))
    rw [if_pos hm]
    unfold upto
    rw [List.map_map, List.getElem?_map, List.getElem?_range c]
    rfl
  · have hm : ¬ (j : Int) ∈ o := fun z => by have := h3 _ z; omega
    rw [if_neg hm, List.getElem?_eq_none (by rw [List.length_replicate]; omega), List.getElem?_eq_none (by rw [List.length_map, upto_len]; omega)]
theorem mostL_map (ws : List (List Int)) (f : Int → Int) : ∀ (d i : Nat) (m : Int), m ≤ mostL ws ((upf i d).map f) i m ∧ (∀ x ∈ upf i d, f x - keyBy ws 1 x ≤ mostL ws ((upf i d).map f) i m) ∧ (mostL ws ((upf i d).map f) i m = m ∨ ∃ x ∈ upf i d, mostL ws ((upf i d).map f) i m = f x - keyBy ws 1 x) := by
  intro d
  induction d with
  | zero => intro i m; exact ⟨Int.le_refl _, by simp [upf], .inl rfl⟩
  | succ d ih =>
    intro i m
    simp only [upf, List.map_cons, mostL]
    obtain ⟨h1, h2, h3⟩ := ih (i + 1) (mx m (f i - rd (rd_L1 ws (i : Int)) 1))
    have e1 : m ≤ mx m (f i - rd (rd_L1 ws (i : Int)) 1) ∧ f i - rd (rd_L1 ws (i : Int)) 1 ≤ mx m (f i - rd (rd_L1 ws (i : Int)) 1) ∧ (mx m (f i - rd (rd_L1 ws (i : Int)) 1) = m ∨ mx m (f i - rd (rd_L1 ws (i : Int)) 1) = f i - rd (rd_L1 ws (i : Int)) 1) := by
      unfold mx
      split <;> omega
    refine ⟨by omega, fun x hx => ?_, ?_⟩
    · rcases List.mem_cons.1 hx with rfl | hx
      · have : keyBy ws 1 (i : Int) = rd (rd_L1 ws (i : Int)) 1 := rfl
        omega
      · exact h2 x hx
    · rcases h3 with h3 | ⟨x, hx, h3⟩
      · rcases e1.2.2 with e | e
        · exact .inl (h3.trans e)
        · exact .inr ⟨i, List.mem_cons_self, h3.trans e⟩
      · exact .inr ⟨x, List.mem_cons_of_mem _ hx, h3⟩
theorem manyL_map (ws : List (List Int)) (f : Int → Int) : ∀ (d i : Nat) (n : Int), manyL ws ((upf i d).map f) i n = n + ((upf i d).countP (fun x => decide (keyBy ws 1 x < f x)) : Nat) := by
  intro d
  induction d with
  | zero => intro i n; simp [upf, manyL]
  | succ d ih =>
    intro i n
    simp only [upf, List.map_cons, manyL]
    rw [ih, List.countP_cons]
    have e : keyBy ws 1 (i : Int) = rd (rd_L1 ws (i : Int)) 1 := rfl
    rw [e]
    by_cases c : f i > rd (rd_L1 ws (i : Int)) 1
    · rw [if_pos c, if_pos (decide_eq_true c)]
      omega
    · rw [if_neg c, if_neg (by simpa using c)]
      omega
theorem slackL_map (ws : List (List Int)) (f : Int → Int) : ∀ (d i : Nat) (m : Int), slackL ws ((upf i d).map f) i m ≤ m ∧ (∀ x ∈ upf i d, slackL ws ((upf i d).map f) i m ≤ keyBy ws 1 x - f x) ∧ (slackL ws ((upf i d).map f) i m = m ∨ ∃ x ∈ upf i d, slackL ws ((upf i d).map f) i m = keyBy ws 1 x - f x) := by
  intro d
  induction d with
  | zero => intro i m; exact ⟨Int.le_refl _, by simp [upf], .inl rfl⟩
  | succ d ih =>
    intro i m
    simp only [upf, List.map_cons, slackL]
    obtain ⟨h1, h2, h3⟩ := ih (i + 1) (mn m (rd (rd_L1 ws (i : Int)) 1 - f i))
    have e1 : mn m (rd (rd_L1 ws (i : Int)) 1 - f i) ≤ m ∧ mn m (rd (rd_L1 ws (i : Int)) 1 - f i) ≤ rd (rd_L1 ws (i : Int)) 1 - f i ∧ (mn m (rd (rd_L1 ws (i : Int)) 1 - f i) = m ∨ mn m (rd (rd_L1 ws (i : Int)) 1 - f i) = rd (rd_L1 ws (i : Int)) 1 - f i) := by
      unfold mn
      split <;> omega
    refine ⟨by omega, fun x hx => ?_, ?_⟩
    · rcases List.mem_cons.1 hx with rfl | hx
      · have : keyBy ws 1 (i : Int) = rd (rd_L1 ws (i : Int)) 1 := rfl
        omega
      · exact h2 x hx
    · rcases h3 with h3 | ⟨x, hx, h3⟩
      · rcases e1.2.2 with e | e
        · exact .inl (h3.trans e)
        · exact .inr ⟨i, List.mem_cons_self, h3.trans e⟩
      · exact .inr ⟨x, List.mem_cons_of_mem _ hx, h3⟩
/-- The late works of an order. -/
def lateN (ws : List (List Int)) (o : List Int) : Nat := (upto ws.length).countP (fun x => decide (keyBy ws 1 x < endAt (keyBy ws 0) 0 o x))
theorem Ord.count {ws : List (List Int)} {o : List Int} (h : Ord ws o) : countLate ws o = (lateN ws o : Int) := by
  unfold countLate lateN
  rw [if_pos h.order, h.ends, upto_upf, manyL_map]
  omega
theorem Ord.mem {ws : List (List Int)} {o : List Int} (h : Ord ws o) {x : Int} : x ∈ o ↔ 0 ≤ x ∧ x ≤ (ws.length : Int) - 1 := h.perm.mem_iff.trans mem_upto
theorem Ord.nodup {ws : List (List Int)} {o : List Int} (h : Ord ws o) : o.Nodup := h.perm.nodup_iff.2 (upto_nodup _)
theorem Ord.key {ws : List (List Int)} {o : List Int} (h : Ord ws o) {c x : Int} (hc : c = 0 ∨ c = 1) (hx : x ∈ o) : 0 ≤ keyBy ws c x ∧ keyBy ws c x ≤ 1000 := by
  have := h.mem.1 hx
  have := key_bd h.ok hc this.1 this.2
  omega
theorem Ord.by {ws : List (List Int)} (h : worksOk ws = true) (c : Int) : Ord ws (orderBy ws c) := ⟨h, by
  have := sortL_perm (keyBy ws c) (upto ws.length) []
  simpa [orderBy] using this⟩
theorem by_sorted (ws : List (List Int)) (c : Int) : (orderBy ws c).Pairwise (fun x y => keyBy ws c x ≤ keyBy ws c y) := sortL_sorted _ _ List.Pairwise.nil
/-- The most that an order is late. -/
theorem Ord.late_ {ws : List (List Int)} {o : List Int} (h : Ord ws o) : 0 ≤ latest ws o ∧ (∀ x ∈ o, endAt (keyBy ws 0) 0 o x - keyBy ws 1 x ≤ latest ws o) ∧ (latest ws o = 0 ∨ ∃ x ∈ o, latest ws o = endAt (keyBy ws 0) 0 o x - keyBy ws 1 x) := by
  unfold latest
  rw [if_pos h.order, h.ends, upto_upf]
  obtain ⟨h1, h2, h3⟩ := mostL_map ws (endAt (keyBy ws 0) 0 o) ws.length 0 0
  rw [← upto_upf] at h1 h2 h3 ⊢
  exact ⟨h1, fun x hx => h2 x (h.perm.mem_iff.1 hx), h3.imp id fun ⟨x, hx, e⟩ => ⟨x, h.perm.mem_iff.2 hx, e⟩⟩
theorem due_least {ws : List (List Int)} {o : List Int} (h : Ord ws o) : latest ws (orderBy ws 1) ≤ latest ws o := by
  have hE := Ord.by h.ok 1
  obtain ⟨h1, h2, h3⟩ := h.late_
  obtain ⟨_, _, g3⟩ := hE.late_
  rcases g3 with e | ⟨x, hx, e⟩
  · rw [e]; exact h1
  · obtain ⟨j, hj, hle⟩ := late_least (K := keyBy ws 0) (D := keyBy ws 1) (orderBy ws 1) o (fun y hy => (h.key (.inl rfl) hy).1) hE.nodup (by_sorted ws 1) (fun y hy => h.mem.2 (hE.mem.1 hy)) hx
    have := h2 j (h.mem.2 (hE.mem.1 hj))
    omega
theorem late_zero {ws : List (List Int)} {o : List Int} (h : Ord ws o) : latest ws o = 0 ↔ lateN ws o = 0 := by
  obtain ⟨h1, h2, h3⟩ := h.late_
  unfold lateN
  rw [List.countP_eq_zero]
  constructor
  · intro e x hx
    have := h2 x (h.perm.mem_iff.2 hx)
    simp only [decide_eq_true_iff]
    omega
  · intro hz
    rcases h3 with e | ⟨x, hx, e⟩
    · exact e
    · have := hz x (h.perm.mem_iff.1 hx)
      simp only [decide_eq_true_iff] at this
      omega
theorem longAt_best (K : Int → Int) (T : List Int) : ∀ (d i b : Nat), i + d = T.length → (∀ j : Nat, j < i → K (rd T (j : Int)) ≤ K (rd T (b : Int))) → ∀ j : Nat, j < T.length → K (rd T (j : Int)) ≤ K (rd T (longAt K T d i b : Nat)) := by
  intro d
  induction d with
  | zero => intro i b hi h j hj; exact h j (by omega)
  | succ d ih =>
    intro i b hi h j hj
    simp only [longAt]
    refine ih (i + 1) _ (by omega) (fun m hm => ?_) j hj
    by_cases c : K (rd T (i : Int)) > K (rd T (b : Int))
    · rw [if_pos c]
      by_cases e : m = i
      · subst e; exact Int.le_refl _
      · have := h m (by omega); omega
    · rw [if_neg c]
      by_cases e : m = i
      · subst e; omega
      · exact h m (by omega)
theorem onT_moore (K D : Int → Int) : ∀ (S T O J : List Int), Moore K D J T O → (∀ x ∈ J ++ S, 0 ≤ K x ∧ 0 ≤ D x) → (J ++ S).Pairwise (fun x y => D x ≤ D y) → ∃ T' O', onT K D S T O (totK K T) = T' ++ O' ∧ Moore K D (J ++ S) T' O' := by
  intro S
  induction S with
  | nil => intro T O J h _ _; exact ⟨T, O, rfl, by rw [List.append_nil]; exact h⟩
  | cons i S ih =>
    intro T O J h hp hs
    have e : J ++ i :: S = (J ++ [i]) ++ S := by simp
    rw [e] at hp hs ⊢
    have hs2 := List.pairwise_append.1 (hs.sublist (List.sublist_append_left _ _))
    have hi := hp i (by simp)
    have hJ : ∀ x ∈ J, 0 ≤ K x := fun x hx => (hp x (by simp [hx])).1
    have hD : ∀ x ∈ J, D x ≤ D i := fun x hx => hs2.2.2 x hx i (by simp)
    simp only [onT]
    by_cases c : totK K T + K i ≤ D i
    · rw [if_pos c]
      have := ih (T ++ [i]) O (J ++ [i]) (h.keep c) hp hs
      rw [totK_append] at this
      simpa [totK] using this
    · rw [if_neg c]
      have hlt : longAt K (T ++ [i]) (T ++ [i]).length 0 0 < (T ++ [i]).length := longAt_lt K (T ++ [i]) _ 0 0 (by omega) (by simp)
      have hb := longAt_best K (T ++ [i]) (T ++ [i]).length 0 0 (by omega) (fun j hj => by omega)
      generalize longAt K (T ++ [i]) (T ++ [i]).length 0 0 = b at *
      rw [rd_get hlt] at hb ⊢
      have hm := h.drop hJ hi.1 hD hi.2 c b hlt (fun y hy => by
        obtain ⟨j, hj, rfl⟩ := List.getElem_of_mem hy
        have := hb j hj
        rw [rd_get hj] at this
        exact this)
      have := ih _ _ _ hm hp hs
      rw [totK_eraseIdx hlt, totK_append] at this
      simpa [totK] using this
theorem on_least {ws : List (List Int)} {o : List Int} (h : Ord ws o) : Ord ws (onTime ws) ∧ lateN ws (onTime ws) ≤ lateN ws o := by
  have hE := Ord.by h.ok 1
  obtain ⟨T, O, e, hM⟩ := onT_moore (keyBy ws 0) (keyBy ws 1) (orderBy ws 1) [] [] [] (Moore.start _ _) (fun x hx => ⟨(hE.key (.inl rfl) (by simpa using hx)).1, (hE.key (.inr rfl) (by simpa using hx)).1⟩) (by_sorted ws 1)
  have eon : onTime ws = T ++ O := by
    unfold onTime
    rw [if_pos h.ok]
    exact e
  rw [List.nil_append] at hM
  have hO : Ord ws (onTime ws) := ⟨h.ok, by rw [eon]; exact hM.perm.trans hE.perm⟩
  refine ⟨hO, ?_⟩
  have hTn : T.Nodup := hE.nodup.sublist hM.sub
  have hT := end_feas T O 0 hTn hM.ok
  have hlen : T.length + O.length = ws.length := by
    have := hM.perm.length_eq
    rw [List.length_append, orderBy_len] at this
    exact this
  -- the on-time works of o, in due order
  have hF : ((orderBy ws 1).filter fun x => decide (endAt (keyBy ws 0) 0 o x ≤ keyBy ws 1 x)).Sublist (orderBy ws 1) := List.filter_sublist
  have hf := feas_of_ends (K := keyBy ws 0) (D := keyBy ws 1) o (fun y hy => (h.key (.inl rfl) hy).1) ((orderBy ws 1).filter fun x => decide (endAt (keyBy ws 0) 0 o x ≤ keyBy ws 1 x)) [] (hE.nodup.sublist hF) ((by_sorted ws 1).sublist hF) (fun x hx => by
    rw [List.nil_append] at hx
    obtain ⟨a, b⟩ := List.mem_filter.1 hx
    exact ⟨h.mem.2 (hE.mem.1 a), of_decide_eq_true b⟩)
  obtain ⟨G, g1, g2, _⟩ := hM.best _ hF hf
  have g3 := g1.length_le
  rw [g2, ← List.countP_eq_length_filter, hE.perm.countP_eq] at g3
  have e1 : lateN ws (onTime ws) = (T ++ O).countP (fun x => decide (keyBy ws 1 x < endAt (keyBy ws 0) 0 (onTime ws) x)) := by
    unfold lateN
    rw [← hO.perm.countP_eq, eon]
  have e2 : T.countP (fun x => decide (keyBy ws 1 x < endAt (keyBy ws 0) 0 (onTime ws) x)) = 0 := by
    rw [List.countP_eq_zero]
    intro x hx
    have := hT x hx
    rw [← eon] at this
    simp only [decide_eq_true_iff]
    omega
  have e3 : O.countP (fun x => decide (keyBy ws 1 x < endAt (keyBy ws 0) 0 (onTime ws) x)) ≤ O.length := List.countP_le_length
  rw [List.countP_append, e2] at e1
  have e4 := List.length_eq_countP_add_countP (fun x => decide (endAt (keyBy ws 0) 0 o x ≤ keyBy ws 1 x)) (l := upto ws.length)
  have e5 : (upto ws.length).countP (fun x => decide ¬decide (endAt (keyBy ws 0) 0 o x ≤ keyBy ws 1 x) = true) = lateN ws o := by
    unfold lateN
    apply List.countP_congr
    intro x _
    simp
  rw [upto_len] at e4
  omega
def isum : List Int → Int
  | [] => 0
  | x :: l => x + isum l
theorem isum_perm {l m : List Int} (h : l.Perm m) : isum l = isum m := by
  induction h with
  | nil => rfl
  | cons x _ ih => simp only [isum, ih]
  | swap x y l => simp only [isum]; omega
  | trans _ _ h1 h2 => exact h1.trans h2
theorem isum_ends (K : Int → Int) : ∀ (o : List Int) (a : Int), o.Nodup → isum (o.map (endAt K a o)) = sumEnds K a o := by
  intro o
  induction o with
  | nil => intro a _; rfl
  | cons x o ih =>
    intro a h
    obtain ⟨h1, h2⟩ := List.nodup_cons.1 h
    have e : o.map (endAt K a (x :: o)) = o.map (endAt K (a + K x) o) := by
      apply List.map_congr_left
      intro y hy
      simp only [endAt]
      rw [if_neg (fun z => h1 (by rw [z]; exact hy))]
    simp only [List.map_cons, isum, sumEnds]
    rw [e, ih _ h2]
    simp only [endAt, if_true]
theorem short_least {ws : List (List Int)} {o : List Int} (h : Ord ws o) : isum (endsOf ws (orderBy ws 0)) ≤ isum (endsOf ws o) := by
  have hS := Ord.by h.ok 0
  rw [hS.ends, h.ends, isum_perm ((hS.perm.map _).symm), isum_perm ((h.perm.map _).symm), isum_ends _ _ _ hS.nodup, isum_ends _ _ _ h.nodup]
  exact sum_least (by_sorted ws 0) (h.perm.trans hS.perm.symm)
theorem slack_val {ws : List (List Int)} (h : worksOk ws = true) : ∃ S, slack ws = mx (-1) S ∧ S ≤ 1000 ∧ (∀ x ∈ orderBy ws 1, S ≤ keyBy ws 1 x - endAt (keyBy ws 0) 0 (orderBy ws 1) x) ∧ (S = 1000 ∨ ∃ x ∈ orderBy ws 1, S = keyBy ws 1 x - endAt (keyBy ws 0) 0 (orderBy ws 1) x) := by
  have hE := Ord.by h 1
  refine ⟨slackL ws (endsOf ws (orderBy ws 1)) 0 1000, by unfold slack; rw [if_pos h], ?_⟩
  rw [hE.ends, upto_upf]
  obtain ⟨h1, h2, h3⟩ := slackL_map ws (endAt (keyBy ws 0) 0 (orderBy ws 1)) ws.length 0 1000
  rw [← upto_upf] at h1 h2 h3 ⊢
  exact ⟨h1, fun x hx => h2 x (hE.perm.mem_iff.1 hx), h3.imp id fun ⟨x, hx, e⟩ => ⟨x, hE.perm.mem_iff.2 hx, e⟩⟩
theorem slack_late {ws : List (List Int)} (h : worksOk ws = true) : (0 ≤ slack ws ↔ latest ws (orderBy ws 1) = 0) ∧ -1 ≤ slack ws ∧ slack ws ≤ 1000 ∧ (ws.length = 0 → slack ws = 1000) := by
  obtain ⟨S, e, h1, h2, h3⟩ := slack_val h
  obtain ⟨g1, g2, g3⟩ := (Ord.by h 1).late_
  have em : (0 ≤ slack ws ↔ 0 ≤ S) ∧ -1 ≤ slack ws ∧ slack ws ≤ 1000 ∧ (S = 1000 → slack ws = 1000) := by
    rw [e]
    unfold mx
    split <;> omega
  refine ⟨em.1.trans ⟨fun hS => ?_, fun hl => ?_⟩, em.2.1, em.2.2.1, fun hn => em.2.2.2 ?_⟩
  · rcases g3 with e | ⟨x, hx, e⟩
    · exact e
    · have := h2 x hx; omega
  · rcases h3 with e | ⟨x, hx, e⟩
    · omega
    · have := g2 x hx; omega
  · rcases h3 with e | ⟨x, hx, e⟩
    · exact e
    · have := (Ord.by h 1).mem.1 hx; omega
theorem endAt_congr {K K' : Int → Int} : ∀ (o : List Int) (a i : Int), (∀ x ∈ o, K x = K' x) → endAt K a o i = endAt K' a o i := by
  intro o
  induction o with
  | nil => intro a i _; rfl
  | cons x o ih =>
    intro a i h
    simp only [endAt]
    rw [h x List.mem_cons_self, ih _ _ (fun y hy => h y (List.mem_cons_of_mem _ hy))]
theorem endAt_ge {K : Int → Int} : ∀ (o : List Int) (a i : Int), (∀ x ∈ o, 0 ≤ K x) → a ≤ endAt K a o i := by
  intro o
  induction o with
  | nil => intro a i _; exact Int.le_refl _
  | cons x o ih =>
    intro a i h
    have hx := h x List.mem_cons_self
    simp only [endAt]
    split
    · omega
    · have := ih (a + K x) i (fun y hy => h y (List.mem_cons_of_mem _ hy)); omega
/-- The works with the slack taken off their due days. -/
def laterOf (s : Int) (ws : List (List Int)) : List (List Int) := ws.map fun w => [rd w 0, rd w 1 - s]
theorem later_law {ws : List (List Int)} (h : worksOk ws = true) (hs : 0 ≤ slack ws) (hn : 0 < ws.length) : latest (laterOf (slack ws) ws) (orderBy ws 1) = 0 ∧ slack (laterOf (slack ws) ws) = 0 := by
  obtain ⟨S, e, h1, h2, h3⟩ := slack_val h
  have eS : slack ws = S := by
    rw [e] at hs ⊢
    unfold mx at hs ⊢
    split at hs <;> rename_i c
    · rw [if_pos c]
    · omega
  rw [eS] at hs ⊢
  have hE := Ord.by h 1
  have hlen : (laterOf S ws).length = ws.length := by unfold laterOf; rw [List.length_map]
  have hend : ∀ x, 0 ≤ endAt (keyBy ws 0) 0 (orderBy ws 1) x := fun x => endAt_ge _ _ _ (fun y hy => (hE.key (.inl rfl) hy).1)
  have hrow : ∀ x : Int, 0 ≤ x ∧ x ≤ (ws.length : Int) - 1 → keyBy (laterOf S ws) 0 x = keyBy ws 0 x ∧ keyBy (laterOf S ws) 1 x = keyBy ws 1 x - S := by
    intro x hx
    obtain ⟨j, rfl⟩ := Int.eq_ofNat_of_zero_le hx.1
    have hj : j < ws.length := by omega
    unfold keyBy
    have e1 : rd_L1 (laterOf S ws) (j : Int) = [rd (rd_L1 ws (j : Int)) 0, rd (rd_L1 ws (j : Int)) 1 - S] := by
      rw [rdL_get (by rw [hlen]; exact hj), rdL_get hj]
      unfold laterOf
      rw [List.getElem_map]
    rw [e1]
    exact ⟨rfl, rfl⟩
  have hok : worksOk (laterOf S ws) = true := by
    refine worksOk_iff.2 ⟨by rw [hlen]; exact (worksOk_iff.1 h).1, fun r hr => ?_⟩
    obtain ⟨w, hw, rfl⟩ := List.mem_map.1 hr
    have w1 := (worksOk_iff.1 h).2 w hw
    obtain ⟨j, hj, ej⟩ := List.getElem_of_mem hw
    have hm : (j : Int) ∈ orderBy ws 1 := hE.mem.2 (by omega)
    have h4 := h2 _ hm
    have h5 := hend (j : Int)
    have e6 : keyBy ws 1 (j : Int) = rd w 1 := by unfold keyBy; rw [rdL_get hj, ej]
    rw [e6] at h4
    have w3 := w1.w1
    have w4 := w1.w2
    have w5 := w1.h1
    have w6 := w1.h2
    exact ⟨rfl, by show 1 ≤ rd w 0; omega, by show rd w 0 ≤ 100; omega, by show 0 ≤ rd w 1 - S; omega, by show rd w 1 - S ≤ 1000; omega⟩
  have hO : Ord (laterOf S ws) (orderBy ws 1) := ⟨hok, by rw [hlen]; exact hE.perm⟩
  have heo : orderBy (laterOf S ws) 1 = orderBy ws 1 := by
    unfold orderBy
    rw [hlen]
    refine (sortL_congr (fun x => 0 ≤ x ∧ x ≤ (ws.length : Int) - 1) (fun x y hx hy => ?_) (upto ws.length) [] (by simp) (fun x hx => mem_upto.1 hx)).symm
    rw [(hrow x hx).2, (hrow y hy).2]
    omega
  have hee : ∀ x, endAt (keyBy (laterOf S ws) 0) 0 (orderBy ws 1) x = endAt (keyBy ws 0) 0 (orderBy ws 1) x := fun x => endAt_congr _ _ _ (fun y hy => (hrow y (hE.mem.1 hy)).1)
  constructor
  · obtain ⟨g1, g2, g3⟩ := hO.late_
    rcases g3 with e | ⟨x, hx, e⟩
    · exact e
    · rw [hee, (hrow x (hE.mem.1 hx)).2] at e
      have := h2 x hx
      omega
  · obtain ⟨S', e', q1, q2, q3⟩ := slack_val hok
    rw [heo] at q2 q3
    have z1 : 0 ≤ S' := by
      rcases q3 with e | ⟨x, hx, e⟩
      · omega
      · rw [hee, (hrow x (hE.mem.1 hx)).2] at e
        have := h2 x hx
        omega
    have z2 : S' ≤ 0 := by
      rcases h3 with e | ⟨x, hx, e⟩
      · have hm : ((0 : Nat) : Int) ∈ orderBy ws 1 := hE.mem.2 (by omega)
        have p1 := q2 _ hm
        rw [hee, (hrow _ (hE.mem.1 hm)).2] at p1
        have p2 := h2 _ hm
        have p3 := (hE.key (c := 1) (.inr rfl) hm).2
        have p4 := hend ((0 : Nat) : Int)
        omega
      · have p1 := q2 x hx
        rw [hee, (hrow x (hE.mem.1 hx)).2] at p1
        omega
    rw [e']
    unfold mx
    split <;> omega
end Go.Proofs.Ytoonamloihbjnaa.PA
/- the reader of draws -/
namespace Go.Proofs.Ytoonamloihbjnaa.PA
open Go.RowKit Go.Proofs.YtoonamloihbjnaaW.PrintWords Go.Proofs.YtoonamloihbjnaaW.PrintLast Go.Proofs.YtoonamloihbjnaaW.PrintMore
set_option linter.unusedVariables false
set_option linter.unusedSimpArgs false
theorem and255 (x : Int) : 0 ≤ Go.bits .and .i64 x 255 ∧ Go.bits .and .i64 x 255 ≤ 255 := by
  unfold Go.bits
  have h : (BitVec.ofInt IntKind.i64.bits x &&& BitVec.ofInt IntKind.i64.bits 255).toNat ≤ 255 := by
    rw [BitVec.toNat_and]
    exact Nat.le_trans Nat.and_le_right (by decide)
  show 0 ≤ IntKind.i64.wrap ((BitVec.ofInt IntKind.i64.bits x &&& BitVec.ofInt IntKind.i64.bits 255).toNat : Int) ∧ IntKind.i64.wrap ((BitVec.ofInt IntKind.i64.bits x &&& BitVec.ofInt IntKind.i64.bits 255).toNat : Int) ≤ 255
  generalize (BitVec.ofInt IntKind.i64.bits x &&& BitVec.ofInt IntKind.i64.bits 255).toNat = n at *
  rw [IntKind.wrap_i64]
  omega
theorem byte_some (x : List Int) (i h : Int) (hx : x.length ≤ 1048576) (h0 : 0 ≤ i) (h1 : i ≤ (x.length : Int)) : ∃ b i' h', spec_l01Byte.f x i h = some (b, i', h') ∧ (0 ≤ b ∧ b ≤ 255) ∧ (0 ≤ i' ∧ i' ≤ (x.length : Int)) := by
  unfold spec_l01Byte.f
  by_cases c : i < (x.length : Int)
  · rw [if_pos c, if_pos h0]
    exact ⟨_, _, _, rfl, and255 _, by rw [w64 (by omega) (by omega)]; omega⟩
  · rw [if_neg c]
    exact ⟨_, _, _, rfl, and255 _, h0, h1⟩
theorem below_some (x : List Int) (i h n : Int) (hx : x.length ≤ 1048576) (h0 : 0 ≤ i) (h1 : i ≤ (x.length : Int)) (n0 : 1 ≤ n) (n1 : n ≤ 256) : ∃ v i' h', spec_l01Below.f x i h n = some (v, i', h') ∧ (0 ≤ v ∧ v < n) ∧ (0 ≤ i' ∧ i' ≤ (x.length : Int)) := by
  obtain ⟨b, i', h', e, hb, hi⟩ := byte_some x i h hx h0 h1
  refine ⟨Int.tmod b n, i', h', ?_, ?_, hi⟩
  · unfold spec_l01Below.f
    rw [if_neg (by omega), if_pos n1, e]
    simp only [Option.bind_some]
    rw [if_neg (by omega)]
  · rw [Int.tmod_eq_emod_of_nonneg hb.1]
    exact ⟨Int.emod_nonneg _ (by omega), Int.emod_lt_of_pos _ (by omega)⟩
theorem new_ev (x : List Int) (hx : x.length ≤ 1048576) : ∃ h, Ev (fun k => spec_l01New.f k x) (x, 0, h) := by
  have go : ∀ (m i : Nat) (a : Int), i + m = 4000 → ∃ h, Ev (fun k => spec_l01New.l0 k x a (i : Int)) (x, 0, h) := by
    intro m
    induction m with
    | zero =>
      intro i a hi
      refine ⟨a, Ev.step (f := fun _ => some (x, 0, a)) (fun k => ?_) (Ev.now _)⟩
      simp only [spec_l01New.l0]
      by_cases c : (i : Int) < (x.length : Int)
      · rw [if_pos c, if_neg (by omega)]
      · rw [if_neg c]
    | succ m ih =>
      intro i a hi
      by_cases c : (i : Int) < (x.length : Int)
      · obtain ⟨h, hh⟩ := ih (i + 1) (Go.bits .and .i64 (wrap64 ((wrap64 ((wrap64 (a * 179)) + (wrap64 (rd x (i : Int))))) + 7)) 1073741823) (by omega)
        refine ⟨h, Ev.step (f := fun k => spec_l01New.l0 k x (Go.bits .and .i64 (wrap64 ((wrap64 ((wrap64 (a * 179)) + (wrap64 (rd x (i : Int))))) + 7)) 1073741823) ((i + 1 : Nat) : Int)) (fun k => ?_) hh⟩
        simp only [spec_l01New.l0]
        rw [if_pos c, if_pos (by omega), if_pos (by omega), w64 (x := (i : Int) + 1) (by omega) (by omega)]
        rfl
      · refine ⟨a, Ev.step (f := fun _ => some (x, 0, a)) (fun k => ?_) (Ev.now _)⟩
        simp only [spec_l01New.l0]
        rw [if_neg c]
  obtain ⟨h, hh⟩ := go 4000 0 (wrap64 (2173 + (x.length : Int))) (by omega)
  exact ⟨h, hh⟩
theorem l31_ev (x : List Int) (hx : x.length ≤ 1048576) (n : Nat) (hn : n ≤ 1000) : ∃ i h, Ev (fun k => spec_l31New.f k x (n : Int)) (x, i, h) ∧ 0 ≤ i ∧ i ≤ (x.length : Int) := by
  obtain ⟨h0, e0⟩ := new_ev x hx
  have go : ∀ (m j : Nat) (i h : Int), j + m = n → 0 ≤ i → i ≤ (x.length : Int) → ∃ i' h', Ev (fun k => spec_l31New.l0 k x i h (n : Int) (j : Int)) (x, i', h') ∧ 0 ≤ i' ∧ i' ≤ (x.length : Int) := by
    intro m
    induction m with
    | zero =>
      intro j i h hj a b
      refine ⟨i, h, Ev.step (f := fun _ => some (x, i, h)) (fun k => ?_) (Ev.now _), a, b⟩
      simp only [spec_l31New.l0]
      rw [if_neg (by omega)]
    | succ m ih =>
      intro j i h hj a b
      obtain ⟨bb, i', h', e, _, hi⟩ := byte_some x i h hx a b
      obtain ⟨i2, h2, e2, g2⟩ := ih (j + 1) i' h' (by omega) hi.1 hi.2
      refine ⟨i2, h2, Ev.step (f := fun k => spec_l31New.l0 k x i' h' (n : Int) ((j + 1 : Nat) : Int)) (fun k => ?_) e2, g2⟩
      simp only [spec_l31New.l0]
      rw [if_pos (by omega), e]
      simp only [Option.bind_some]
      rw [w64 (by omega) (by omega)]
      rfl
  obtain ⟨i, h, e, g⟩ := go n 0 0 h0 (by omega) (by omega) (by omega)
  refine ⟨i, h, ?_, g⟩
  unfold spec_l31New.f
  exact Ev.bind e0 e
end Go.Proofs.Ytoonamloihbjnaa.PA
/- FnDays: what is drawn. -/
namespace Go.Proofs.Ytoonamloihbjnaa.PA
open Go.RowKit Go.Proofs.YtoonamloihbjnaaW.PrintWords Go.Proofs.YtoonamloihbjnaaW.PrintLast Go.Proofs.YtoonamloihbjnaaW.PrintMore
set_option linter.unusedVariables false
set_option linter.unusedSimpArgs false
theorem draw_l (x : List Int) (hx : x.length ≤ 1048576) : ∀ (m : Nat) (L : List (List Int)) (i h : Int), (∀ r ∈ L, WorkOk r) → L.length + m ≤ 100 → 0 ≤ i → i ≤ (x.length : Int) →
    ∃ L' i' h', Ev (fun k => spec_l24Draw.l0 k L (m : Int) x i h) (L', i', h') ∧ ∀ r ∈ L', WorkOk r := by
  intro m
  induction m with
  | zero =>
    intro L i h hL _ _ _
    refine ⟨L, i, h, Ev.step (f := fun _ => some (L, i, h)) (fun k => ?_) (Ev.now _), hL⟩
    simp only [spec_l24Draw.l0]
    rw [if_neg (by omega)]
  | succ m ih =>
    intro L i h hL hl a b
    obtain ⟨v1, i1, h1, e1, hv1, a1, b1⟩ := below_some x i h 9 hx a b (by omega) (by omega)
    obtain ⟨v2, i2, h2, e2, hv2, a2, b2⟩ := below_some x i1 h1 30 hx a1 b1 (by omega) (by omega)
    obtain ⟨L', i', h', e, hL'⟩ := ih (L ++ [[1 + v1, v2]]) i2 h2 (fun r hr => by
      rcases List.mem_append.1 hr with hr | hr
      · exact hL r hr
      · rw [List.mem_singleton.1 hr]
        exact ⟨rfl, by show 1 ≤ 1 + v1; omega, by show 1 + v1 ≤ 100; omega, by show 0 ≤ v2; omega, by show v2 ≤ 1000; omega⟩) (by simp; omega) a2 b2
    refine ⟨L', i', h', Ev.step (f := fun k => spec_l24Draw.l0 k (L ++ [[1 + v1, v2]]) (m : Int) x i2 h2) (fun k => ?_) e, hL'⟩
    simp only [spec_l24Draw.l0]
    rw [if_pos (by omega), e1]
    simp only [Option.bind_some]
    rw [e2]
    simp only [Option.bind_some]
    rw [if_pos (by omega), w64 (x := 1 + v1) (by omega) (by omega), w64 (by omega) (by omega)]
    congr 1
    omega
theorem makeWorks_ev (x : List Int) (hx : x.length ≤ 1048576) : ∃ ws, Ev (fun k => spec_MakeWorks.f k x 0) ws ∧ worksOk ws = true ∧ ws.length ≤ 5 := by
  obtain ⟨i0, h0, e0, a0, b0⟩ := l31_ev x hx 0 (by omega)
  obtain ⟨v1, i1, h1, e1, hv1, a1, b1⟩ := below_some x i0 h0 7 hx a0 b0 (by omega) (by omega)
  obtain ⟨n, rfl⟩ := Int.eq_ofNat_of_zero_le hv1.1
  obtain ⟨L, i2, h2, e2, hL⟩ := draw_l x hx n [] i1 h1 (by simp) (by simp; omega) a1 b1
  have e3 : Ev (fun k => spec_l24Draw.f k x i0 h0) (L, i2, h2) := by
    unfold spec_l24Draw.f
    exact Ev.bind (ev_const e1) e2
  have em : 0 ≤ mn (L.length : Int) 5 ∧ mn (L.length : Int) 5 ≤ (L.length : Int) ∧ mn (L.length : Int) 5 ≤ 5 := by
    unfold mn
    split <;> omega
  refine ⟨L.take (mn (L.length : Int) 5).toNat, ?_, worksOk_iff.2 ⟨?_, fun r hr => hL r (List.mem_of_mem_take hr)⟩, ?_⟩
  · unfold spec_MakeWorks.f
    refine Ev.bind e0 ?_
    refine Ev.bind e3 ?_
    refine Ev.congr (fun k => if_pos em.1) ?_
    refine Ev.congr (fun k => if_pos em.2.1) ?_
    exact Ev.now _
  · have := List.length_take_le (mn (L.length : Int) 5).toNat L
    omega
  · have := List.length_take_le (mn (L.length : Int) 5).toNat L
    omega
theorem has_l (x : Int) (l : List Int) (hl : l.length ≤ 1000) (hx : x ∉ l) : ∀ (d i : Nat), i + d = l.length → Ev (fun k => laws_has.l0 k x l (l.length : Int) (i : Int)) false := by
  intro d
  induction d with
  | zero =>
    intro i hi
    refine Ev.step (f := fun _ => some false) (fun k => ?_) (Ev.now _)
    simp only [laws_has.l0]
    rw [if_neg (by omega)]
  | succ d ih =>
    intro i hi
    have hlt : i < l.length := by omega
    refine Ev.step (f := fun k => laws_has.l0 k x l (l.length : Int) ((i + 1 : Nat) : Int)) (fun k => ?_) (ih (i + 1) (by omega))
    simp only [laws_has.l0]
    rw [if_pos (by omega), if_pos (by omega), if_pos (by omega), rd_get hlt, if_neg (fun z => hx (by rw [← z]; exact List.getElem_mem hlt)), w64 (by omega) (by omega)]
    rfl
theorem perm_l (l : List Int) (n : Nat) (hn : n ≤ 1000) (hl : l.length = n) (hm : ∀ x ∈ l, 0 ≤ x ∧ x ≤ (n : Int) - 1) (hd : l.Nodup) : ∀ (d i : Nat), i + d = l.length → Ev (fun k => laws_perm.l0 k l (n : Int) l (l.length : Int) (i : Int)) true := by
  intro d
  induction d with
  | zero =>
    intro i hi
    refine Ev.step (f := fun _ => some true) (fun k => ?_) (Ev.now _)
    simp only [laws_perm.l0]
    rw [if_neg (by omega)]
    have : ((l.length : Int) == (n : Int)) = true := by rw [hl]; exact beq_self_eq_true _
    rw [this]
  | succ d ih =>
    intro i hi
    have hlt : i < l.length := by omega
    have hb := hm l[i] (List.getElem_mem hlt)
    have hnot : l[i] ∉ l.take i := by
      intro z
      obtain ⟨j, hj, e⟩ := List.getElem_of_mem z
      rw [List.getElem_take] at e
      rw [List.length_take] at hj
      exact (List.pairwise_iff_getElem.1 hd) j i (by omega) hlt (by omega) e
    have hlen : (l.take i).length ≤ 1000 := by rw [List.length_take]; omega
    have e1 : Ev (fun k => laws_has.f k (l.take i) l[i]) false := has_l l[i] (l.take i) hlen hnot (l.take i).length 0 (by omega)
    refine Ev.step (f := fun k => (laws_has.f k (l.take i) l[i]).bind fun t => (if t = true then some false else laws_perm.l0 k l (n : Int) l (l.length : Int) ((i + 1 : Nat) : Int))) (fun k => ?_) ?_
    · simp only [laws_perm.l0]
      rw [if_pos (by omega), if_pos (by omega), if_pos (by omega), rd_get hlt, if_neg (by omega), if_neg (by omega), if_pos (by omega), w64 (by omega) (by omega), Int.toNat_natCast]
      rfl
    · exact Ev.bind e1 (Ev.congr (fun k => if_neg (by simp)) (ih (i + 1) (by omega)))
theorem perm_ev {ws : List (List Int)} {o : List Int} (h : Ord ws o) (hs : ws.length ≤ 5) : Ev (fun k => laws_perm.f k o (ws.length : Int)) true := by
  have hl : o.length = ws.length := by rw [h.perm.length_eq, upto_len]
  exact perm_l o ws.length (by omega) hl (fun x hx => h.mem.1 hx) h.nodup o.length 0 (by omega)
theorem sum_l (l : List Int) (hl : l.length ≤ 7) (hb : ∀ x ∈ l, 0 ≤ x ∧ x ≤ 700) : ∀ (d i : Nat) (a : Int), i + d = l.length → 0 ≤ a → a ≤ 700 * (i : Int) → Ev (fun k => laws_sum.l0 k a l (l.length : Int) (i : Int)) (a + isum (l.drop i)) := by
  intro d
  induction d with
  | zero =>
    intro i a hi _ _
    rw [List.drop_of_length_le (by omega)]
    refine Ev.step (f := fun _ => some (a + isum [])) (fun k => ?_) (Ev.now _)
    simp only [laws_sum.l0, isum]
    rw [if_neg (by omega), Int.add_zero]
  | succ d ih =>
    intro i a hi ha hb2
    have hlt : i < l.length := by omega
    have hx := hb l[i] (List.getElem_mem hlt)
    have e := ih (i + 1) (a + l[i]) (by omega) (by omega) (by omega)
    rw [List.drop_eq_getElem_cons hlt]
    simp only [isum]
    refine Ev.step (f := fun k => laws_sum.l0 k (a + l[i]) l (l.length : Int) ((i + 1 : Nat) : Int)) (fun k => ?_) (ev_eq e (by omega))
    simp only [laws_sum.l0]
    rw [if_pos (by omega), if_pos (by omega), if_pos (by omega), rd_get hlt, w64 (by omega) (by omega), w64 (by omega) (by omega)]
    rfl
theorem sum_ev {ws : List (List Int)} {o : List Int} (h : Ord ws o) : Ev (fun k => laws_sum.f k (endsOf ws o)) (isum (endsOf ws o)) := by
  have ho := ordOk_of h.order
  obtain ⟨h1, h2⟩ := ends_facts ho
  have hs := ho.small
  have e := sum_l (endsOf ws o) (by omega) h2 (endsOf ws o).length 0 0 (by omega) (by omega) (by omega)
  exact ev_eq e (by simp)
theorem perm_ins {l : List Int} {i : Nat} (h : l.Perm (upto i)) (p : Nat) : ((l.take p ++ [(i : Int)]) ++ l.drop p).Perm (upto (i + 1)) := by
  have e : l.take p ++ [(i : Int)] ++ l.drop p = insAt l p (i : Int) := by simp [insAt]
  rw [e, upto_succ]
  exact (insAt_perm l p _).trans (h.append_right _)
theorem ord_l2 (n i : Nat) (hi : i < 5) (out : List (List Int)) (idx : Nat) (row : List Int) (hr : row.Perm (upto i)) (hidx : idx < 5000) : ∀ (c p : Nat) (next : List (List Int)), p + c = i + 1 → next.length + c ≤ 100000 → (∀ r ∈ next, r.Perm (upto (i + 1))) →
    ∃ next', (∀ r ∈ next', r.Perm (upto (i + 1))) ∧ next'.length = next.length + c ∧ ∀ R, Ev (fun k => spec_MakeOrders.l1 k (n : Int) (i : Int) next' out (out.length : Int) ((idx + 1 : Nat) : Int)) R → Ev (fun k => spec_MakeOrders.l2 k (n : Int) (i : Int) next row (p : Int) out (out.length : Int) (idx : Int)) R := by
  have hrl : row.length = i := by rw [hr.length_eq, upto_len]
  intro c
  induction c with
  | zero =>
    intro p next hp _ hn
    refine ⟨next, hn, rfl, fun R hR => Ev.step (fun k => ?_) hR⟩
    simp only [spec_MakeOrders.l2]
    rw [if_neg (by omega), w64 (by omega) (by omega)]
    rfl
  | succ c ih =>
    intro p next hp hl hn
    have h1 : ([] : List Int).length + (row.take p).length < 17592186044416 := by
      have := List.length_take_le p row
      have e : ([] : List Int).length = 0 := rfl
      omega
    have h2 : ([] ++ row.take p : List Int).length < 17592186044416 := by
      have := List.length_take_le p row
      rw [List.nil_append]
      omega
    have h3 : (([] ++ row.take p) ++ [(i : Int)] : List Int).length + (row.drop p).length < 17592186044416 := by
      have := List.length_take_le p row
      have e : (row.drop p).length = row.length - p := List.length_drop
      rw [List.nil_append, List.length_append, List.length_singleton]
      omega
    have h4 : next.length < 5864062014805 := by omega
    obtain ⟨next', a1, a2, a3⟩ := ih (p + 1) (next ++ [((row.take p ++ [(i : Int)]) ++ row.drop p)]) (by omega) (by rw [List.length_append, List.length_singleton]; omega) (fun r hr' => by
      rcases List.mem_append.1 hr' with hr' | hr'
      · exact hn r hr'
      · rw [List.mem_singleton.1 hr']; exact perm_ins hr p)
    refine ⟨next', a1, by rw [a2, List.length_append, List.length_singleton]; omega, fun R hR => Ev.step (fun k => ?_) (a3 R hR)⟩
    simp only [spec_MakeOrders.l2, Option.bind_some]
    rw [if_pos (by omega), if_pos (by omega), Int.toNat_natCast, if_pos h1, if_pos h2, if_pos h3, if_pos h4, w64 (by omega) (by omega), List.nil_append]
    rfl
theorem ord_l1 (n i : Nat) (hi : i < 5) (out : List (List Int)) (ho : ∀ r ∈ out, r.Perm (upto i)) (hol : out.length ≤ 3125) : ∀ (d idx : Nat) (next : List (List Int)), idx + d = out.length → next.length ≤ 5 * idx → (∀ r ∈ next, r.Perm (upto (i + 1))) →
    ∃ next', (∀ r ∈ next', r.Perm (upto (i + 1))) ∧ next'.length ≤ 5 * out.length ∧ ∀ R, Ev (fun k => spec_MakeOrders.l0 k (n : Int) next' ((i + 1 : Nat) : Int)) R → Ev (fun k => spec_MakeOrders.l1 k (n : Int) (i : Int) next out (out.length : Int) (idx : Int)) R := by
  intro d
  induction d with
  | zero =>
    intro idx next hd hl hn
    refine ⟨next, hn, by omega, fun R hR => Ev.step (fun k => ?_) hR⟩
    simp only [spec_MakeOrders.l1]
    rw [if_neg (by omega), w64 (by omega) (by omega)]
    rfl
  | succ d ih =>
    intro idx next hd hl hn
    have hlt : idx < out.length := by omega
    obtain ⟨n1, a1, a2, a3⟩ := ord_l2 n i hi out idx out[idx] (ho _ (List.getElem_mem hlt)) (by omega) (i + 1) 0 next (by omega) (by omega) hn
    obtain ⟨n2, b1, b2, b3⟩ := ih (idx + 1) n1 (by omega) (by omega) a1
    refine ⟨n2, b1, b2, fun R hR => Ev.step (fun k => ?_) (a3 R (b3 R hR))⟩
    simp only [spec_MakeOrders.l1]
    rw [if_pos (by omega), if_pos (by omega), if_pos (by omega), rdL_get hlt]
    rfl
theorem ord_l0 (n : Nat) (hn : n ≤ 5) : ∀ (m i : Nat) (out : List (List Int)), i + m = n → (∀ r ∈ out, r.Perm (upto i)) → out.length ≤ 5 ^ i →
    ∃ res, Ev (fun k => spec_MakeOrders.l0 k (n : Int) out (i : Int)) res ∧ (∀ r ∈ res, r.Perm (upto n)) ∧ res.length ≤ 5 ^ n := by
  intro m
  induction m with
  | zero =>
    intro i out hi ho hl
    obtain rfl : i = n := by omega
    refine ⟨out, Ev.step (f := fun _ => some out) (fun k => ?_) (Ev.now _), ho, hl⟩
    simp only [spec_MakeOrders.l0]
    rw [if_neg (by omega)]
  | succ m ih =>
    intro i out hi ho hl
    have h5 : 5 ^ i ≤ 5 ^ 4 := Nat.pow_le_pow_right (by omega) (by omega)
    obtain ⟨n1, a1, a2, a3⟩ := ord_l1 n i (by omega) out ho (by omega) out.length 0 [] (by omega) (by simp) (by simp)
    obtain ⟨res, b1, b2, b3⟩ := ih (i + 1) n1 (by omega) a1 (by rw [Nat.pow_succ]; omega)
    refine ⟨res, Ev.step (fun k => ?_) (a3 _ b1), b2, b3⟩
    simp only [spec_MakeOrders.l0]
    rw [if_pos (by omega)]
    rfl
theorem orders_ev (n : Nat) (hn : n ≤ 5) : ∃ res, Ev (fun k => spec_MakeOrders.f k (n : Int)) res ∧ (∀ r ∈ res, r.Perm (upto n)) ∧ res.length ≤ 3125 := by
  obtain ⟨res, a, b, c⟩ := ord_l0 n hn n 0 [[]] (by omega) (fun r hr => by rw [List.mem_singleton.1 hr]; exact List.Perm.refl _) (by simp)
  have h5 : 5 ^ n ≤ 5 ^ 5 := Nat.pow_le_pow_right (by omega) hn
  exact ⟨res, a, b, by omega⟩
end Go.Proofs.Ytoonamloihbjnaa.PA
/- FnDays: the law. -/
namespace Go.Proofs.Ytoonamloihbjnaa.PA
open Go.RowKit Go.Proofs.YtoonamloihbjnaaW.PrintWords Go.Proofs.YtoonamloihbjnaaW.PrintLast Go.Proofs.YtoonamloihbjnaaW.PrintMore
set_option linter.unusedVariables false
set_option linter.unusedSimpArgs false
theorem later_l {ws : List (List Int)} (h : worksOk ws = true) (hs5 : ws.length ≤ 5) (hs : 0 ≤ slack ws) (hn : 0 < ws.length) : ∀ (d i : Nat), i + d = ws.length →
    Ev (fun k => laws_FnDays.l2 k (orderBy ws 1) (slack ws) (laterOf (slack ws) (ws.take i)) ws (ws.length : Int) (i : Int)) true := by
  have hup := (slack_late h).2.2.1
  have hlaw := later_law h hs hn
  have hol : (orderBy ws 1).length ≤ 1048576 := by rw [orderBy_len]; omega
  intro d
  induction d with
  | zero =>
    intro i hi
    rw [List.take_of_length_le (by omega)]
    have e1 : Ev (fun k => impl_LatestBy.f k (laterOf (slack ws) ws) (orderBy ws 1)) 0 := ev_eq (impl_Latest_ev _ _ hol) hlaw.1
    have e2 : Ev (fun k => impl_SlackOf.f k (laterOf (slack ws) ws)) 0 := ev_eq (impl_Slack_ev _) hlaw.2
    refine Ev.step (f := fun k => (impl_LatestBy.f k (laterOf (slack ws) ws) (orderBy ws 1)).bind fun t => (if t = 0 then ((impl_SlackOf.f k (laterOf (slack ws) ws)).bind fun t2 => some (t2 == 0)) else none)) (fun k => ?_) ?_
    · simp only [laws_FnDays.l2]
      rw [if_neg (by omega)]
    · exact Ev.bind e1 (Ev.congr (fun k => if_pos rfl) (Ev.bind e2 (Ev.now _)))
  | succ d ih =>
    intro i hi
    have hlt : i < ws.length := by omega
    have hw := (worksOk_iff.1 h).2 ws[i] (List.getElem_mem hlt)
    have w1 := hw.len
    have w2 := hw.h1
    have w3 := hw.h2
    have e := ih (i + 1) (by omega)
    have et : laterOf (slack ws) (ws.take (i + 1)) = laterOf (slack ws) (ws.take i) ++ [[rd ws[i] 0, rd ws[i] 1 - slack ws]] := by
      rw [List.take_succ_eq_append_getElem hlt]
      unfold laterOf
      rw [List.map_append]
      rfl
    rw [et] at e
    have hlen : (laterOf (slack ws) (ws.take i)).length < 5864062014805 := by
      unfold laterOf
      rw [List.length_map, List.length_take]
      omega
    refine Ev.step (fun k => ?_) e
    simp only [laws_FnDays.l2]
    rw [if_pos (by omega), if_pos (by omega), if_pos (by omega), rdL_get hlt, if_pos (by omega), if_pos (by omega), if_pos hlen, w64 (x := rd ws[i] 1 - slack ws) (by omega) (by omega), w64 (by omega) (by omega)]
    rfl
theorem at_order {ws : List (List Int)} {o : List Int} (h : Ord ws o) {j : Nat} (hj : j < ws.length) : (j : Int) < (o.length : Int) ∧ 0 ≤ rd o (j : Int) ∧ rd o (j : Int) < (ws.length : Int) ∧ ((rd_L1 ws (rd o (j : Int))).length : Int) = 2 ∧ ∃ (hl : j < o.length), rd o (j : Int) = o[j] := by
  have hl : o.length = ws.length := by rw [h.perm.length_eq, upto_len]
  have hjo : j < o.length := by omega
  have e := rd_get hjo
  have hm := h.mem.1 (List.getElem_mem hjo)
  rw [← e] at hm
  have := (key_bd h.ok (c := 0) (.inl rfl) hm.1 hm.2).2.2
  exact ⟨by omega, hm.1, by omega, by omega, hjo, e⟩
theorem sorted_l {ws : List (List Int)} (h : worksOk ws = true) (hs5 : ws.length ≤ 5) : ∀ (d i : Nat), i + d = ws.length + 1 → 1 ≤ i →
    Ev (fun k => laws_FnDays.l1 k ws (ws.length : Int) (orderBy ws 1) (orderBy ws 0) (slack ws) ((i : Nat) : Int)) true := by
  have hD := Ord.by h 1
  have hS := Ord.by h 0
  have hj : ∀ b : Bool, (b = false → 0 ≤ slack ws ∧ 0 < ws.length) → Ev (fun k => laws_FnDays.j3 k ws (orderBy ws 1) (slack ws) b) true := by
    intro b hb
    cases b with
    | true =>
      refine Ev.step (f := fun _ => some true) (fun k => ?_) (Ev.now _)
      simp only [laws_FnDays.j3]
      rw [if_pos trivial]
    | false =>
      have e := later_l h hs5 (hb rfl).1 (hb rfl).2 ws.length 0 (by omega)
      refine Ev.step (fun k => ?_) e
      simp only [laws_FnDays.j3]
      rw [if_neg (by simp)]
      rfl
  have last : ∀ i : Nat, ws.length ≤ i → i ≤ 10 → Ev (fun k => laws_FnDays.l1 k ws (ws.length : Int) (orderBy ws 1) (orderBy ws 0) (slack ws) (i : Int)) true := by
    intro i hi hi2
    by_cases hs : slack ws < 0
    · refine Ev.step (fun k => ?_) (hj true (by simp))
      simp only [laws_FnDays.l1]
      rw [if_neg (by omega), if_pos hs]
    · refine Ev.step (fun k => ?_) (hj ((ws.length : Int) == 0) (fun z => ?_))
      · simp only [laws_FnDays.l1]
        rw [if_neg (by omega), if_neg hs]
      · have : ¬ ((ws.length : Int) = 0) := by simpa using z
        omega
  intro d
  induction d with
  | zero => intro i hi _; exact last i (by omega) (by omega)
  | succ d ih =>
    intro i hi h1
    by_cases c : i < ws.length
    · obtain ⟨j, rfl⟩ : ∃ j, i = j + 1 := ⟨i - 1, by omega⟩
      obtain ⟨a1, a2, a3, a4, a5, a6⟩ := at_order hD (j := j) (by omega)
      obtain ⟨b1, b2, b3, b4, b5, b6⟩ := at_order hD (j := j + 1) c
      obtain ⟨p1, p2, p3, p4, p5, p6⟩ := at_order hS (j := j) (by omega)
      obtain ⟨q1, q2, q3, q4, q5, q6⟩ := at_order hS (j := j + 1) c
      have k1 := (List.pairwise_iff_getElem.1 (by_sorted ws 1)) j (j + 1) a5 b5 (by omega)
      have k2 := (List.pairwise_iff_getElem.1 (by_sorted ws 0)) j (j + 1) p5 q5 (by omega)
      rw [← a6, ← b6] at k1
      rw [← p6, ← q6] at k2
      unfold keyBy at k1 k2
      have e1 : wrap64 (((j + 1 : Nat) : Int) - 1) = (j : Int) := by rw [w64 (by omega) (by omega)]; omega
      refine Ev.step (fun k => ?_) (ih (j + 1 + 1) (by omega) (by omega))
      simp only [laws_FnDays.l1]
      rw [e1, w64 (x := ((j + 1 : Nat) : Int) + 1) (by omega) (by omega)]
      generalize hx1 : rd (orderBy ws 1) (j : Int) = x1 at *
      generalize hx2 : rd (orderBy ws 1) ((j + 1 : Nat) : Int) = x2 at *
      generalize hx3 : rd (orderBy ws 0) (j : Int) = x3 at *
      generalize hx4 : rd (orderBy ws 0) ((j + 1 : Nat) : Int) = x4 at *
      rw [if_pos (by omega), if_pos (by omega), if_pos a1, if_pos a2, if_pos a3, if_pos (by omega), if_pos (by omega), if_pos b1, if_pos b2, if_pos b3, if_pos (by omega), if_neg (by omega), if_pos p1, if_pos p2, if_pos p3, if_pos (by omega), if_pos q1, if_pos q2, if_pos q3, if_pos (by omega), if_neg (by omega)]
      rfl
    · exact last i (by omega) (by omega)
theorem orders_l {ws : List (List Int)} (h : worksOk ws = true) (hs5 : ws.length ≤ 5) (few : Int) (hfew : ∀ o, Ord ws o → few ≤ countLate ws o) (res : List (List Int)) (hres : ∀ r ∈ res, r.Perm (upto ws.length)) (hl : res.length ≤ 3125) : ∀ (d i : Nat), i + d = res.length →
    Ev (fun k => laws_FnDays.l0 k ws (ws.length : Int) (orderBy ws 1) (orderBy ws 0) (latest ws (orderBy ws 1)) few (isum (endsOf ws (orderBy ws 0))) (slack ws) res (res.length : Int) (i : Int)) true := by
  intro d
  induction d with
  | zero =>
    intro i hi
    have e := sorted_l h hs5 ws.length 1 (by omega) (by omega)
    refine Ev.step (fun k => ?_) e
    simp only [laws_FnDays.l0]
    rw [if_neg (by omega)]
    rfl
  | succ d ih =>
    intro i hi
    have hlt : i < res.length := by omega
    have hO : Ord ws res[i] := ⟨h, hres _ (List.getElem_mem hlt)⟩
    have hol : (res[i]).length ≤ 1048576 := by rw [hO.perm.length_eq, upto_len]; omega
    have e1 := impl_EndsAt_ev ws res[i] hol
    rw [if_pos hO.order] at e1
    have e2 := impl_Latest_ev ws res[i] hol
    have e3 := impl_Count_ev ws res[i] hol
    have e4 := sum_ev hO
    have f2 := due_least hO
    have f3 := hfew _ hO
    have f4 := short_least hO
    have f5 := (ends_facts (ordOk_of hO.order)).1
    have e5 := ih (i + 1) (by omega)
    have er : rd_L1 res (i : Int) = res[i] := rdL_get hlt
    refine Ev.step (f := fun k => (impl_EndsAt.f k ws res[i]).bind fun t691 => ((impl_LatestBy.f k ws res[i]).bind fun t694 => (if t694 < latest ws (orderBy ws 1) then (none) else ((impl_CountLate.f k ws res[i]).bind fun t695 => (if t695 < few then (none) else ((laws_sum.f k t691).bind fun t696 => (if t696 < isum (endsOf ws (orderBy ws 0)) then (none) else (if (t691.length : Int) = (ws.length : Int) then (laws_FnDays.l0 k ws (ws.length : Int) (orderBy ws 1) (orderBy ws 0) (latest ws (orderBy ws 1)) few (isum (endsOf ws (orderBy ws 0))) (slack ws) res (res.length : Int) ((i + 1 : Nat) : Int)) else (none))))))))) (fun k => ?_) ?_
    · simp only [laws_FnDays.l0]
      rw [if_pos (by omega), if_pos (by omega), if_pos (by omega), er, w64 (x := (i : Int) + 1) (by omega) (by omega)]
      rfl
    · refine Ev.bind e1 ?_
      refine Ev.bind e2 ?_
      refine Ev.congr (fun k => if_neg (by omega)) ?_
      refine Ev.bind e3 ?_
      refine Ev.congr (fun k => if_neg (by omega)) ?_
      refine Ev.bind e4 ?_
      refine Ev.congr (fun k => if_neg (by omega)) ?_
      refine Ev.congr (fun k => if_pos (by omega)) ?_
      exact e5
theorem laws_FnDays_ev (code : List Int) (hx : code.length ≤ 1048576) : Ev (fun k => laws_FnDays.f k code) true := by
  obtain ⟨ws, em, h, hs5⟩ := makeWorks_ev code hx
  have hD := Ord.by h 1
  have hS := Ord.by h 0
  obtain ⟨hOn, hon1⟩ := on_least hD
  have hfew : ∀ o, Ord ws o → countLate ws (onTime ws) ≤ countLate ws o := fun o ho => by
    have := (on_least ho).2
    rw [hOn.count, ho.count]
    omega
  have f0 := hOn.count
  have f1 := hfew _ hD
  have z1 := late_zero hD
  have z2 := late_zero hOn
  have z3 := due_least hOn
  have z4 := hD.late_.1
  have z5 := hD.count
  have z6 := hOn.late_.1
  obtain ⟨s1, s2, s3, s4⟩ := slack_late h
  have eD : Ev (fun k => impl_DueOrder.f k ws) (orderBy ws 1) := ev_eq (impl_Due_ev ws) (by unfold ordBy; rw [if_pos h])
  have eS : Ev (fun k => impl_ShortOrder.f k ws) (orderBy ws 0) := ev_eq (impl_Short_ev ws) (by unfold ordBy; rw [if_pos h])
  have hlD : (orderBy ws 1).length ≤ 1048576 := by rw [orderBy_len]; omega
  have hlS : (orderBy ws 0).length ≤ 1048576 := by rw [orderBy_len]; omega
  have hlO : (onTime ws).length ≤ 1048576 := by have := onTime_bd ws; omega
  have eF : Ev (fun k => impl_FewestLate.f k ws) (countLate ws (onTime ws)) := ev_eq (impl_Fewest_ev ws) (if_pos h)
  have eE : Ev (fun k => impl_EndsAt.f k ws (orderBy ws 0)) (endsOf ws (orderBy ws 0)) := ev_eq (impl_EndsAt_ev ws _ hlS) (if_pos hS.order)
  have eM := sum_ev hS
  have p1 := perm_ev hD hs5
  have p2 := perm_ev hS hs5
  have eLen := (ends_facts (ordOk_of hS.order)).1
  obtain ⟨res, r1, r2, r3⟩ := orders_ev ws.length hs5
  have e6 := orders_l h hs5 (countLate ws (onTime ws)) hfew res r2 r3 res.length 0 (by omega)
  have ej : Ev (fun k => laws_FnDays.j0 k ws (ws.length : Int) (orderBy ws 1) (orderBy ws 0) (latest ws (orderBy ws 1)) (countLate ws (onTime ws)) (isum (endsOf ws (orderBy ws 0))) (slack ws) (((endsOf ws (orderBy ws 0)).length : Int) != (ws.length : Int))) true := by
    refine Ev.step (f := fun k => (spec_MakeOrders.f k (ws.length : Int)).bind fun t687 => (laws_FnDays.l0 k ws (ws.length : Int) (orderBy ws 1) (orderBy ws 0) (latest ws (orderBy ws 1)) (countLate ws (onTime ws)) (isum (endsOf ws (orderBy ws 0))) (slack ws) t687 (t687.length : Int) 0)) (fun k => ?_) (Ev.bind r1 e6)
    simp only [laws_FnDays.j0]
    rw [eLen, if_neg (by simp)]
  have q1 : ((latest ws (orderBy ws 1) == 0) != (countLate ws (onTime ws) == 0)) = false := by
    rw [bne_eq_false_iff_eq, Bool.eq_iff_iff, beq_iff_eq, beq_iff_eq]
    constructor
    · intro z
      have := z1.1 z
      omega
    · intro z
      have := z2.2 (by omega)
      omega
  have q2 : ((decide (slack ws ≥ 0)) != (latest ws (orderBy ws 1) == 0)) = false := by
    rw [bne_eq_false_iff_eq, Bool.eq_iff_iff, beq_iff_eq, decide_eq_true_iff]
    exact s1
  have nx : ¬ (code.length : Int) > 1048576 := by omega
  have nl : ¬ latest ws (orderBy ws 1) < 0 := by omega
  have nf : ¬ countLate ws (onTime ws) < 0 := by omega
  have nf2 : ¬ countLate ws (onTime ws) > countLate ws (orderBy ws 1) := by omega
  unfold laws_FnDays.f
  refine Ev.congr (fun k => if_neg nx) ?_
  refine Ev.bind em ?_
  refine Ev.bind eD ?_
  refine Ev.bind eS ?_
  refine Ev.bind (impl_OnTime_ev ws) ?_
  refine Ev.bind (impl_Latest_ev ws _ hlD) ?_
  refine Ev.bind eF ?_
  refine Ev.bind eE ?_
  refine Ev.bind eM ?_
  refine Ev.bind (impl_Slack_ev ws) ?_
  refine Ev.bind p1 ?_
  refine Ev.congr (fun k => if_pos rfl) ?_
  refine Ev.bind p2 ?_
  refine Ev.congr (fun k => if_pos rfl) ?_
  refine Ev.bind (impl_WorksOk_ev ws) ?_
  refine Ev.congr (fun k => if_pos h) ?_
  refine Ev.bind (impl_WorkOrd_ev ws _ hlD) ?_
  refine Ev.congr (fun k => if_pos hD.order) ?_
  refine Ev.bind (impl_WorkOrd_ev ws _ hlS) ?_
  refine Ev.congr (fun k => if_pos hS.order) ?_
  refine Ev.bind (impl_WorkOrd_ev ws _ hlO) ?_
  refine Ev.congr (fun k => if_pos hOn.order) ?_
  refine Ev.congr (fun k => if_neg nl) ?_
  refine Ev.congr (fun k => if_neg nf) ?_
  refine Ev.bind (impl_Count_ev ws _ hlD) ?_
  refine Ev.congr (fun k => if_neg nf2) ?_
  refine Ev.bind (impl_Count_ev ws _ hlO) ?_
  refine Ev.congr (fun k => if_pos rfl) ?_
  refine Ev.congr (fun k => if_neg (by rw [q1]; simp)) ?_
  refine Ev.congr (fun k => if_neg (by rw [q2]; simp)) ?_
  by_cases c : (ws.length : Int) = 0
  · refine Ev.congr (fun k => if_pos c) ?_
    refine Ev.congr (fun k => if_pos (s4 (by omega))) ?_
    refine Ev.bind eE ?_
    exact ej
  · refine Ev.congr (fun k => if_neg c) ?_
    refine Ev.bind eE ?_
    exact ej
end Go.Proofs.Ytoonamloihbjnaa.PA
/- The law FnDays holds of the program, for every input; no condition. -/
namespace Go.Proofs.Ytoonamloihbjnaa.Pure
open Go.RowKit Go.Proofs.Ytoonamloihbjnaa.PA Go.Proofs.YtoonamloihbjnaaW.PrintWords Go.Proofs.YtoonamloihbjnaaW.PrintLast Go.Proofs.YtoonamloihbjnaaW.PrintMore
set_option linter.unusedVariables false
set_option linter.unusedSimpArgs false
theorem FnDays : laws_FnDays.Pure := by
  intro l0 _ _ _
  by_cases c : (l0.length : Int) > 1048576
  · exact ⟨0, by unfold laws_FnDays.f; rw [if_pos c]⟩
  · exact Ev.rounds (g := fun k => laws_FnDays.f k l0) (laws_FnDays_ev l0 (by omega))
end Go.Proofs.Ytoonamloihbjnaa.Pure

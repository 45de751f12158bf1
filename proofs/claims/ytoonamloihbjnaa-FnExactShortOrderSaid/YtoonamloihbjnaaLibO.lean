/- orders of works -/
import Derived.Test.YtoonamloihbjnaaLibW
import Derived.Test.YtoonamloihbjnaaPAx10
import Derived.Test.YtoonamloihbjnaaPAx19
import Derived.Test.YtoonamloihbjnaaPAx20
import Derived.Test.YtoonamloihbjnaaPAx21
import Derived.Test.YtoonamloihbjnaaPAx5
namespace Go.Proofs.Ytoonamloihbjnaa.PA
open Go.RowKit Go.Proofs.YtoonamloihbjnaaW.PrintWords Go.Proofs.YtoonamloihbjnaaW.PrintLast Go.Proofs.YtoonamloihbjnaaW.PrintMore
set_option linter.unusedVariables false
set_option linter.unusedSimpArgs false

/-! masks -/
theorem wraps_i64n (n : Int) (h0 : 0 ≤ n) (h1 : n < 2 ^ 63) : IntKind.i64.wrap n = n := by
  rw [IntKind.wrap_i64]
  omega
theorem or_nat (a b : Nat) (ha : a < 2 ^ 63) (hb : b < 2 ^ 63) : Go.bits .or .i64 (a : Int) (b : Int) = ((a ||| b : Nat) : Int) :=
  (bits_nat .i64 63 (by decide) wraps_i64n a b ha hb).2
theorem and_nat (a b : Nat) (ha : a < 2 ^ 63) (hb : b < 2 ^ 63) : Go.bits .and .i64 (a : Int) (b : Int) = ((a &&& b : Nat) : Int) :=
  (bits_nat .i64 63 (by decide) wraps_i64n a b ha hb).1
theorem shl_one (e : Nat) (he : e < 62) : shl .i64 1 (e : Int) = ((2 ^ e : Nat) : Int) := by
  unfold shl
  rw [Int.toNat_natCast, Nat.min_eq_left (by simp [IntKind.bits]; omega)]
  have hp : (2 : Nat) ^ e < 2 ^ 62 := Nat.pow_lt_pow_right (by omega) he
  rw [wraps_i64n]
  · simp
  · simp
    exact_mod_cast Nat.zero_le _
  · simp
    have : ((2 ^ e : Nat) : Int) < ((2 ^ 62 : Nat) : Int) := Int.ofNat_lt.2 hp
    simp at this
    omega
theorem shr_nat (m e : Nat) (he : e < 64) : shr .i64 (m : Int) (e : Int) = ((m >>> e : Nat) : Int) := by
  unfold shr
  rw [Int.toNat_natCast, Nat.min_eq_left (by simp [IntKind.bits]; omega), Nat.shiftRight_eq_div_pow]
  simp
theorem bit_nat (m e : Nat) (hm : m < 2 ^ 63) (he : e < 64) : Go.bits .and .i64 (shr .i64 (m : Int) (e : Int)) 1 = if m.testBit e then 1 else 0 := by
  rw [shr_nat m e he]
  have h1 : m >>> e < 2 ^ 63 := by
    rw [Nat.shiftRight_eq_div_pow]
    exact Nat.lt_of_le_of_lt (Nat.div_le_self _ _) hm
  have := and_nat (m >>> e) 1 h1 (by decide)
  rw [show ((1 : Nat) : Int) = 1 from rfl] at this
  rw [this, Nat.testBit]
  rw [Nat.and_one_is_mod, Nat.one_and_eq_mod_two]
  rcases Nat.mod_two_eq_zero_or_one (m >>> e) with h | h <;> simp [h]
theorem or_add (m e : Nat) (h : m.testBit e = false) : m ||| 2 ^ e = m + 2 ^ e := by
  have hb : m % 2 ^ (e + 1) < 2 ^ e := by
    rw [Nat.mod_pow_succ]
    have h1 : m / 2 ^ e % 2 = 0 := by
      rw [Nat.testBit, Nat.shiftRight_eq_div_pow, Nat.one_and_eq_mod_two] at h
      simpa using h
    rw [h1]
    simpa using Nat.mod_lt m (Nat.two_pow_pos e)
  have hm := Nat.div_add_mod m (2 ^ (e + 1))
  have hp : (2 : Nat) ^ (e + 1) = 2 ^ e + 2 ^ e := by rw [Nat.pow_succ]; omega
  have e1 := Nat.two_pow_add_eq_or_of_lt (i := e + 1) (b := m % 2 ^ (e + 1)) (by omega) (m / 2 ^ (e + 1))
  have e2 := Nat.two_pow_add_eq_or_of_lt (i := e + 1) (b := m % 2 ^ (e + 1) + 2 ^ e) (by omega) (m / 2 ^ (e + 1))
  have e3 := Nat.or_two_pow_eq_add_of_lt hb
  rw [← e3] at e2
  calc m ||| 2 ^ e = (2 ^ (e + 1) * (m / 2 ^ (e + 1)) ||| m % 2 ^ (e + 1)) ||| 2 ^ e := by rw [← e1, hm]
    _ = 2 ^ (e + 1) * (m / 2 ^ (e + 1)) ||| (m % 2 ^ (e + 1) ||| 2 ^ e) := by rw [Nat.or_assoc]
    _ = m + 2 ^ e := by rw [← e2, e3]; omega
theorem test_lt (m e n : Nat) (hm : m < 2 ^ n) (he : n ≤ e) : m.testBit e = false := Nat.testBit_lt_two_pow (Nat.lt_of_lt_of_le hm (Nat.pow_le_pow_right (by omega) he))

/-! WorkOrderOk -/
def upto (n : Nat) : List Int := (List.range n).map fun i : Nat => (i : Int)
theorem upto_len (n : Nat) : (upto n).length = n := by simp [upto]
theorem upto_succ (n : Nat) : upto (n + 1) = upto n ++ [(n : Int)] := by
  unfold upto
  rw [List.range_succ, List.map_append]
  rfl
theorem mem_upto {n : Nat} {x : Int} : x ∈ upto n ↔ 0 ≤ x ∧ x ≤ (n : Int) - 1 := by
  unfold upto
  rw [List.mem_map]
  constructor
  · rintro ⟨i, hi, rfl⟩
    have := List.mem_range.1 hi
    omega
  · rintro ⟨h1, h2⟩
    exact ⟨x.toNat, List.mem_range.2 (by omega), by omega⟩
theorem upto_nodup (n : Nat) : (upto n).Nodup := by
  have h : (List.range n).Pairwise fun (a b : Nat) => (a : Int) ≠ (b : Int) := List.pairwise_lt_range.imp (fun h => by omega)
  exact List.pairwise_map.2 h
theorem up_of_sorted : ∀ (s : List Int) (a : Int), s.Pairwise (· < ·) → (∀ x ∈ s, a ≤ x ∧ x < a + (s.length : Int)) → s = (List.range s.length).map fun i : Nat => a + (i : Int) := by
  intro s
  induction s with
  | nil => intro a _ _; rfl
  | cons x t ih =>
    intro a hp hb
    obtain ⟨h1, h2⟩ := List.pairwise_cons.1 hp
    have hx := hb x List.mem_cons_self
    simp only [List.length_cons] at hx hb
    have ht := ih (a + 1) h2 (fun y hy => by have h3 := h1 y hy; have h4 := hb y (List.mem_cons_of_mem _ hy); omega)
    have e : x = a := by
      by_cases h0 : t.length = 0
      · omega
      · have hm : a + 1 ∈ t := by
          rw [ht, List.mem_map]
          exact ⟨0, List.mem_range.2 (by omega), by simp⟩
        have := h1 _ hm
        omega
    rw [List.length_cons, List.range_succ_eq_map, List.map_cons, List.map_map, e]
    congr 1
    · simp
    · refine ht.trans (List.map_congr_left fun i _ => ?_)
      simp only [Function.comp]
      omega
def le_ (x y : Int) : Bool := decide (x ≤ y)
theorem sorted_iff (o : List Int) (n : Nat) : (o.mergeSort fun x y => decide (x ≤ y)) = upto n ↔ (o.length = n ∧ (∀ x ∈ o, 0 ≤ x ∧ x ≤ (n : Int) - 1) ∧ o.Nodup) := by
  have hp := List.mergeSort_perm o fun x y => decide (x ≤ y)
  have hs : (o.mergeSort fun x y => decide (x ≤ y)).Pairwise fun a b => decide (a ≤ b) = true :=
    List.pairwise_mergeSort (le := fun x y : Int => decide (x ≤ y)) (fun a b c h1 h2 => decide_eq_true (by have := of_decide_eq_true h1; have := of_decide_eq_true h2; omega)) (fun a b => by
      by_cases h : a ≤ b
      · simp [h]
      · simp [show b ≤ a by omega]) o
  constructor
  · intro h
    rw [h] at hp
    refine ⟨by rw [← hp.length_eq, upto_len], fun x hx => mem_upto.1 (hp.mem_iff.2 hx), hp.nodup_iff.1 (upto_nodup n)⟩
  · rintro ⟨h1, h2, h3⟩
    have h4 : (o.mergeSort fun x y => decide (x ≤ y)).Pairwise (· < ·) := (hs.and (hp.nodup_iff.2 h3)).imp (fun {a b} h => by have h5 := of_decide_eq_true h.1; have h6 := h.2; omega)
    have hl : (o.mergeSort fun x y => decide (x ≤ y)).length = n := by rw [List.length_mergeSort, h1]
    have h5 := up_of_sorted _ 0 h4 (fun x hx => by rw [hl]; have := h2 x (hp.mem_iff.1 hx); omega)
    rw [h5, hl]
    unfold upto
    exact List.map_congr_left fun i _ => by omega
def ordL (n : Nat) : Nat → List Int → Bool
  | _, [] => true
  | used, i :: s => if 0 ≤ i ∧ i ≤ (n : Int) - 1 ∧ used.testBit i.toNat = false then ordL n (used + 2 ^ i.toNat) s else false
theorem used_lt {used i : Nat} (h : used < 4096) (hi : i < 12) (ht : used.testBit i = false) : used + 2 ^ i < 4096 ∧ used ||| 2 ^ i = used + 2 ^ i := by
  have h1 := or_add used i ht
  have h2 : used ||| 2 ^ i < 2 ^ 12 := Nat.or_lt_two_pow h (Nat.pow_lt_pow_right (by omega) hi)
  exact ⟨by omega, h1⟩
theorem ordL_iff (n : Nat) (hn : n ≤ 12) : ∀ (s : List Int) (used : Nat), used < 4096 → (ordL n used s = true ↔ (∀ x ∈ s, (0 ≤ x ∧ x ≤ (n : Int) - 1) ∧ used.testBit x.toNat = false) ∧ s.Nodup) := by
  intro s
  induction s with
  | nil => intro used _; simp [ordL]
  | cons i s ih =>
    intro used hu
    simp only [ordL]
    by_cases c : 0 ≤ i ∧ i ≤ (n : Int) - 1 ∧ used.testBit i.toNat = false
    · rw [if_pos c]
      obtain ⟨h1, h2⟩ := used_lt hu (show i.toNat < 12 by omega) c.2.2
      rw [ih _ h1, ← h2, List.nodup_cons]
      constructor
      · rintro ⟨h3, h4⟩
        refine ⟨fun x hx => ?_, fun hm => ?_, h4⟩
        · rcases List.mem_cons.1 hx with rfl | hx
          · exact ⟨⟨c.1, c.2.1⟩, c.2.2⟩
          · obtain ⟨h5, h6⟩ := h3 x hx
            rw [Nat.testBit_or, Bool.or_eq_false_iff] at h6
            exact ⟨h5, h6.1⟩
        · have h6 := (h3 i hm).2
          rw [Nat.testBit_or, Bool.or_eq_false_iff, Nat.testBit_two_pow] at h6
          simp at h6
      · rintro ⟨h3, h4, h5⟩
        refine ⟨fun x hx => ?_, h5⟩
        obtain ⟨h6, h7⟩ := h3 x (List.mem_cons_of_mem _ hx)
        refine ⟨h6, ?_⟩
        rw [Nat.testBit_or, Bool.or_eq_false_iff, Nat.testBit_two_pow]
        refine ⟨h7, decide_eq_false fun e => h4 ?_⟩
        have : x = i := by omega
        rwa [← this]
    · rw [if_neg c]
      constructor
      · intro h; cases h
      · rintro ⟨h3, _⟩
        obtain ⟨h4, h5⟩ := h3 i List.mem_cons_self
        exact absurd ⟨h4.1, h4.2, h5⟩ c
def workOrd (ws : List (List Int)) (o : List Int) : Bool := worksOk ws && decide ((o.mergeSort fun x y => decide (x ≤ y)) = upto ws.length)
theorem workOrd_iff {ws : List (List Int)} {o : List Int} : workOrd ws o = true ↔ worksOk ws = true ∧ o.length = ws.length ∧ (∀ x ∈ o, 0 ≤ x ∧ x ≤ (ws.length : Int) - 1) ∧ o.Nodup := by
  unfold workOrd
  rw [Bool.and_eq_true, decide_eq_true_iff, sorted_iff]
theorem pow12 {i : Nat} (h : i < 12) : (0 : Int) ≤ ((2 ^ i : Nat) : Int) ∧ ((2 ^ i : Nat) : Int) ≤ 2048 ∧ 2 ^ i ≤ 2048 := by
  have h1 : (2 : Nat) ^ i ≤ 2 ^ 11 := Nat.pow_le_pow_right (by omega) (by omega)
  have h2 : (2 : Nat) ^ 11 = 2048 := rfl
  rw [h2] at h1
  exact ⟨Int.natCast_nonneg _, by omega, h1⟩
theorem spec_ord_l (ws : List (List Int)) (o : List Int) (hw : ws.length ≤ 7) (ho : o.length ≤ 1048577) : ∀ (d i used : Nat), i + d = o.length → used < 4096 →
    Ev (fun k => spec_WorkOrderOk.l0 k ws (used : Int) o (o.length : Int) (i : Int)) (ordL ws.length used (o.drop i)) := by
  intro d
  induction d with
  | zero =>
    intro i used hi hu
    refine Ev.step (f := fun _ => some (ordL ws.length used (o.drop i))) (fun k => ?_) (Ev.now _)
    simp only [spec_WorkOrderOk.l0]
    rw [if_neg (by omega), List.drop_of_length_le (by omega)]
    rfl
  | succ d ih =>
    intro i used hi hu
    have hlt : i < o.length := by omega
    rw [List.drop_eq_getElem_cons hlt]
    simp only [ordL]
    by_cases c1 : 0 ≤ o[i] ∧ o[i] ≤ (ws.length : Int) - 1
    · by_cases c2 : used.testBit o[i].toNat = false
      · rw [if_pos ⟨c1.1, c1.2, c2⟩]
        have hv := used_lt hu (show o[i].toNat < 12 by omega) c2
        have hp := pow12 (show o[i].toNat < 12 by omega)
        have hsh : shl .i64 1 o[i] = ((2 ^ o[i].toNat : Nat) : Int) := by
          have := shl_one o[i].toNat (by omega)
          rw [Int.toNat_of_nonneg c1.1] at this
          exact this
        have hbit : Go.bits .and .i64 (shr .i64 (used : Int) o[i]) 1 = 0 := by
          have := bit_nat used o[i].toNat (by omega) (by omega)
          rw [Int.toNat_of_nonneg c1.1, c2] at this
          exact this
        refine Ev.step (f := fun k => spec_WorkOrderOk.l0 k ws ((used + 2 ^ o[i].toNat : Nat) : Int) o (o.length : Int) ((i + 1 : Nat) : Int)) (fun k => ?_) (ih (i + 1) _ (by omega) hv.1)
        simp only [spec_WorkOrderOk.l0, l01In_eq, Option.bind_some]
        rw [if_pos (by omega), if_pos (by omega), if_pos (by omega), rd_get hlt, w64 (x := (ws.length : Int) - 1) (by omega) (by omega), if_pos (by simpa using c1), if_pos c1.1, hbit, if_neg (by omega), hsh, w64 (x := (used : Int) + ((2 ^ o[i].toNat : Nat) : Int)) (by omega) (by omega), w64 (by omega) (by omega)]
        rw [Int.natCast_add, Int.natCast_add]
        rfl
      · rw [if_neg (fun z => c2 z.2.2)]
        have hbit : Go.bits .and .i64 (shr .i64 (used : Int) o[i]) 1 = 1 := by
          have := bit_nat used o[i].toNat (by omega) (by omega)
          rw [Int.toNat_of_nonneg c1.1] at this
          rw [this, if_pos (by simpa using c2)]
        refine Ev.step (f := fun k => some false) (fun k => ?_) (Ev.now _)
        simp only [spec_WorkOrderOk.l0, l01In_eq, Option.bind_some]
        rw [if_pos (by omega), if_pos (by omega), if_pos (by omega), rd_get hlt, w64 (x := (ws.length : Int) - 1) (by omega) (by omega), if_pos (by simpa using c1), if_pos c1.1, hbit, if_pos rfl]
    · rw [if_neg (fun z => c1 ⟨z.1, z.2.1⟩)]
      refine Ev.step (f := fun k => some false) (fun k => ?_) (Ev.now _)
      simp only [spec_WorkOrderOk.l0, l01In_eq, Option.bind_some]
      rw [if_pos (by omega), if_pos (by omega), if_pos (by omega), rd_get hlt, w64 (x := (ws.length : Int) - 1) (by omega) (by omega), if_neg (by simpa using c1)]
theorem spec_WorkOrd_ev (ws : List (List Int)) (o : List Int) (ho : o.length ≤ 1048576) : Ev (fun k => spec_WorkOrderOk.f k ws o) (workOrd ws o) := by
  unfold spec_WorkOrderOk.f
  refine Ev.bind (spec_WorksOk_ev ws) ?_
  have no : Ev (fun k => spec_WorkOrderOk.j0 k ws o true) false := by
    refine Ev.step (f := fun _ => some false) (fun k => ?_) (Ev.now _)
    simp only [spec_WorkOrderOk.j0]
    rw [if_pos trivial]
  by_cases c : worksOk ws = true
  · refine Ev.congr (fun k => if_pos c) ?_
    have hw := (worksOk_iff.1 c).1
    by_cases c1 : o.length = ws.length
    · rw [show ((o.length : Int) != (ws.length : Int)) = false by simp [c1]]
      refine Ev.step (f := fun k => spec_WorkOrderOk.l0 k ws ((0 : Nat) : Int) o (o.length : Int) ((0 : Nat) : Int)) (fun k => ?_) (ev_eq (spec_ord_l ws o hw (by omega) o.length 0 0 (by omega) (by omega)) ?_)
      · simp only [spec_WorkOrderOk.j0]
        rw [if_neg (by simp)]
        rfl
      · rw [List.drop_zero, Bool.eq_iff_iff, workOrd_iff, ordL_iff _ (by omega) _ _ (by omega)]
        simp [c, c1]
    · rw [show ((o.length : Int) != (ws.length : Int)) = true by simp; omega]
      refine ev_eq no ?_
      cases h : workOrd ws o with
      | false => rfl
      | true => exact absurd (workOrd_iff.1 h).2.1 c1
  · refine Ev.congr (fun k => if_neg c) (ev_eq no ?_)
    unfold workOrd
    simp only [Bool.not_eq_true] at c
    rw [c]
    rfl
theorem orderOf_l (n : Nat) (hn : n ≤ 7) : ∀ (m i : Nat), i + m = n → Ev (fun k => impl_orderOf.l0 k (upto i) (n : Int) (i : Int)) (upto n) := by
  intro m
  induction m with
  | zero =>
    intro i hi
    obtain rfl : i = n := by omega
    refine Ev.step (f := fun _ => some (upto i)) (fun k => ?_) (Ev.now _)
    simp only [impl_orderOf.l0]
    rw [if_neg (by omega)]
  | succ m ih =>
    intro i hi
    have hl := upto_len i
    refine Ev.step (f := fun k => impl_orderOf.l0 k (upto (i + 1)) (n : Int) ((i + 1 : Nat) : Int)) (fun k => ?_) (ih (i + 1) (by omega))
    simp only [impl_orderOf.l0]
    rw [if_pos (by omega), if_pos (by omega), w64 (by omega) (by omega), upto_succ]
    simp
theorem orderOf_ev (n : Nat) (hn : n ≤ 7) : Ev (fun k => impl_orderOf.f k (n : Int)) (upto n) := orderOf_l n hn n 0 (by omega)
theorem equal_l (x0 x1 : List Int) (hx : x0.length < 9223372036854775807) (hl : x0.length = x1.length) : ∀ (d i : Nat), i + d = x0.length → x0.take i = x1.take i → Ev (fun k => slices_Equal_int_int.l0 k x0 x1 (x0.length : Int) (i : Int)) (decide (x0 = x1)) := by
  intro d
  induction d with
  | zero =>
    intro i hi ht
    have e : x0 = x1 := by
      have h1 : x0.take i = x0 := List.take_of_length_le (by omega)
      have h2 : x1.take i = x1 := List.take_of_length_le (by omega)
      rw [h1, h2] at ht
      exact ht
    refine Ev.step (f := fun _ => some (decide (x0 = x1))) (fun k => ?_) (Ev.now _)
    simp only [slices_Equal_int_int.l0]
    rw [if_neg (by omega), decide_eq_true e]
  | succ d ih =>
    intro i hi ht
    have hlt : i < x0.length := by omega
    have hlt1 : i < x1.length := by omega
    by_cases he : x0[i] = x1[i]
    · refine Ev.step (f := fun k => slices_Equal_int_int.l0 k x0 x1 (x0.length : Int) ((i + 1 : Nat) : Int)) (fun k => ?_) (ih (i + 1) (by omega) ?_)
      · simp only [slices_Equal_int_int.l0]
        rw [if_pos (by omega), if_pos (by omega), if_pos (by omega), if_pos (by omega), rd_get hlt, rd_get hlt1, if_pos he, w64 (by omega) (by omega)]
        simp
      · rw [take_step hlt, take_step hlt1, ht, he]
    · have hne : ¬ x0 = x1 := fun e => he (by subst e; rfl)
      refine Ev.step (f := fun _ => some (decide (x0 = x1))) (fun k => ?_) (Ev.now _)
      simp only [slices_Equal_int_int.l0]
      rw [if_pos (by omega), if_pos (by omega), if_pos (by omega), if_pos (by omega), rd_get hlt, rd_get hlt1, if_neg he, decide_eq_false hne]
theorem equal_ev (l m : List Int) (hl : l.length < 9223372036854775807) : Ev (fun k => slices_Equal_int_int.f k l m) (decide (l = m)) := by
  unfold slices_Equal_int_int.f
  by_cases h : l.length = m.length
  · exact Ev.congr (fun k => if_pos (by omega)) (equal_l l m hl h l.length 0 (by omega) (by simp))
  · refine ev_eq (Ev.congr (fun k => if_neg (by omega)) (Ev.now false)) (decide_eq_false (fun e => h (by rw [e]))).symm
theorem impl_WorkOrd_ev (ws : List (List Int)) (o : List Int) (ho : o.length ≤ 1048576) : Ev (fun k => impl_WorkOrderOk.f k ws o) (workOrd ws o) := by
  unfold impl_WorkOrderOk.f workOrd
  refine Ev.bind (ev_const (show slices_Clone_int_int.f o = some o from if_pos (by omega))) ?_
  refine Ev.bind (ev_const (show slices_Sort_int_int.f o = some (o.mergeSort fun x y => decide (x ≤ y)) from if_pos (by omega))) ?_
  refine Ev.bind (impl_WorksOk_ev ws) ?_
  by_cases c : worksOk ws = true
  · refine Ev.congr (fun k => if_pos c) ?_
    refine Ev.bind (orderOf_ev ws.length (worksOk_iff.1 c).1) ?_
    refine ev_eq (Ev.bind (equal_ev _ _ (by rw [List.length_mergeSort]; omega)) (Ev.now _)) ?_
    rw [c, Bool.true_and]
  · refine ev_eq (Ev.congr (fun k => if_neg c) (Ev.now _)) ?_
    simp only [Bool.not_eq_true] at c
    rw [c]
    rfl

end Go.Proofs.Ytoonamloihbjnaa.PA

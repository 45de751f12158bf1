/- whole numbers, lists, masks -/
import Derived.Test.YtoildabjnioafaaPAx7
import Derived.Test.YtoildabjnioafaaPAx9
namespace Go.Proofs.Ytoildabjnioafaa.PA
open Go.RowKit Go.Proofs.YtoildabjnioafaaW.PrintWords Go.Proofs.YtoildabjnioafaaW.PrintLast Go.Proofs.YtoildabjnioafaaW.PrintMore
set_option linter.unusedVariables false
set_option linter.unusedSimpArgs false

/-! Plain lemmas: whole numbers, lists, rounds. -/
theorem w64 {x : Int} (h0 : -9223372036854775808 ≤ x) (h1 : x < 9223372036854775808) : wrap64 x = x := by
  unfold wrap64
  omega
theorem wf_lo {x : Int} (h : (Lit.int .i64 x).wf = true) : -9223372036854775808 ≤ x ∧ x < 9223372036854775808 := by
  have h1 := h
  simp [Lit.wf] at h1
  have h2 : IntKind.i64.min = -9223372036854775808 := rfl
  omega
theorem rd_nat (l : List Int) (i : Nat) : rd l (i : Int) = l.getD i 0 := by simp [rd]
theorem rd_get {l : List Int} {i : Nat} (h : i < l.length) : rd l (i : Int) = l[i] := by simp [rd, List.getD_eq_getElem?_getD, h]
theorem ev_eq {α : Type} {g : Nat → Option α} {r r' : α} (h : Ev g r) (e : r = r') : Ev g r' := e ▸ h
theorem ev_both {α : Type} {g : Nat → Option α} {r r' : α} (h : Ev g r) (h' : Ev g r') : r = r' := by
  obtain ⟨K, h⟩ := h
  obtain ⟨K', h'⟩ := h'
  have a := h (max K K') (by omega)
  have b := h' (max K K') (by omega)
  rw [a] at b
  exact Option.some.inj b
theorem ev_const {α : Type} {a : Option α} {r : α} (h : a = some r) : Ev (fun _ => a) r := ⟨0, fun _ _ => h⟩
theorem take_step {l : List Int} {i : Nat} (h : i < l.length) : l.take (i + 1) = l.take i ++ [l[i]] := by
  rw [List.take_succ_eq_append_getElem h]

/-! toIntS, eqIntS, markIntS, heldIntS -/
theorem toIntS_l (x0 : List Int) (hx : x0.length < 9223372036854775807) : ∀ (d i : Nat) (x3 : List Int), i + d = x0.length → x3.length = x0.length → x3.take i = x0.take i → Ev (fun k => laws_toIntS.l0 k x0 x3 (i : Int)) x0 := by
  intro d
  induction d with
  | zero =>
    intro i x3 hi hl ht
    have e : x3 = x0 := by
      have h1 : x3.take i = x3 := List.take_of_length_le (by omega)
      have h2 : x0.take i = x0 := List.take_of_length_le (by omega)
      rw [h1, h2] at ht
      exact ht
    refine Ev.step (f := fun _ => some x0) (fun k => ?_) (Ev.now _)
    simp only [laws_toIntS.l0]
    rw [if_neg (by omega), e]
  | succ d ih =>
    intro i x3 hi hl ht
    have hlt : i < x0.length := by omega
    refine Ev.step (f := fun k => laws_toIntS.l0 k x0 (x3.set i x0[i]) ((i + 1 : Nat) : Int)) (fun k => ?_) (ih (i + 1) (x3.set i x0[i]) (by omega) (by simpa using hl) ?_)
    · simp only [laws_toIntS.l0]
      rw [if_pos (by omega), if_pos (by omega), if_pos (by omega), rd_get hlt, w64 (by omega) (by omega)]
      simp
    · rw [take_step (by simpa using (by omega : i < x3.length)), take_step hlt, List.take_set_of_le (Nat.le_refl _), ht]
      simp
theorem toIntS_ev (l : List Int) (hl : l.length ≤ 1048576) : Ev (fun k => laws_toIntS.f k l) l := by
  have h := toIntS_l l (by omega) l.length 0 (List.replicate l.length 0) (by omega) (by simp) (by simp)
  refine Ev.congr (fun k => ?_) h
  unfold laws_toIntS.f
  rw [if_pos (by omega), if_pos (by simp; omega)]
  simp
theorem eqIntS_l (x0 x1 : List Int) (hx : x0.length < 9223372036854775807) (hl : x0.length = x1.length) : ∀ (d i : Nat), i + d = x0.length → x0.take i = x1.take i → Ev (fun k => laws_eqIntS.l0 k x0 x1 (i : Int)) (decide (x0 = x1)) := by
  intro d
  induction d with
  | zero =>
    intro i hi ht
    have e : x0 = x1 := by
      have h1 : x0.take i = x0 := List.take_of_length_le (by omega)
      have h2 : x1.take i = x1 := List.take_of_length_le (by omega)
      rw [h1, h2] at ht
      exact ht
    refine Ev.step (f := fun _ => some (decide (x0 = x1))) (fun k => ?_) (Ev.now _)
    simp only [laws_eqIntS.l0]
    rw [if_neg (by omega), decide_eq_true e]
  | succ d ih =>
    intro i hi ht
    have hlt : i < x0.length := by omega
    have hlt1 : i < x1.length := by omega
    by_cases he : x0[i] = x1[i]
    · refine Ev.step (f := fun k => laws_eqIntS.l0 k x0 x1 ((i + 1 : Nat) : Int)) (fun k => ?_) (ih (i + 1) (by omega) ?_)
      · simp only [laws_eqIntS.l0]
        rw [if_pos (by omega), if_pos (by omega), if_pos (by omega), rd_get hlt, rd_get hlt1, if_pos he, w64 (by omega) (by omega)]
        simp
      · rw [take_step hlt, take_step hlt1, ht, he]
    · have hne : ¬ x0 = x1 := fun e => he (by subst e; rfl)
      refine Ev.step (f := fun _ => some (decide (x0 = x1))) (fun k => ?_) (Ev.now _)
      simp only [laws_eqIntS.l0]
      rw [if_pos (by omega), if_pos (by omega), if_pos (by omega), rd_get hlt, rd_get hlt1, if_neg he, decide_eq_false hne]
theorem eqIntS_ev (l m : List Int) (hl : l.length < 9223372036854775807) : Ev (fun k => laws_eqIntS.f k l m) (decide (l = m)) := by
  by_cases h : l.length = m.length
  · refine Ev.congr (fun k => ?_) (eqIntS_l l m hl h l.length 0 (by omega) (by simp))
    unfold laws_eqIntS.f
    rw [if_pos (by omega)]
    rfl
  · have hne : ¬ l = m := fun e => h (by rw [e])
    refine ev_eq (ev_const (a := some false) rfl |>.congr (fun k => ?_)) (decide_eq_false hne).symm
    unfold laws_eqIntS.f
    rw [if_neg (by omega)]

/-! masks -/
theorem wraps_i64n (n : Int) (h0 : 0 ≤ n) (h1 : n < 2 ^ 63) : IntKind.i64.wrap n = n := by
  rw [IntKind.wrap_i64]
  omega
theorem or_nat (a b : Nat) (ha : a < 2 ^ 63) (hb : b < 2 ^ 63) : Go.bits .or .i64 (a : Int) (b : Int) = ((a ||| b : Nat) : Int) :=
  (bits_nat .i64 63 (by decide) wraps_i64n a b ha hb).2
theorem and_nat (a b : Nat) (ha : a < 2 ^ 63) (hb : b < 2 ^ 63) : Go.bits .and .i64 (a : Int) (b : Int) = ((a &&& b : Nat) : Int) :=
  (bits_nat .i64 63 (by decide) wraps_i64n a b ha hb).1
theorem shl_one (e : Nat) (he : e < 62) : shl .i64 1 (e : Int) = ((2 ^ e : Nat) : Int) := by
  unfold shl
  rw [Int.toNat_natCast, Nat.min_eq_left (by simp [IntKind.bits]; omega)]
  have hp : (2 : Nat) ^ e < 2 ^ 62 := Nat.pow_lt_pow_right (by omega) he
  rw [wraps_i64n]
  · simp
  · simp
    exact_mod_cast Nat.zero_le _
  · simp
    have : ((2 ^ e : Nat) : Int) < ((2 ^ 62 : Nat) : Int) := Int.ofNat_lt.2 hp
    simp at this
    omega
theorem shr_nat (m e : Nat) (he : e < 64) : shr .i64 (m : Int) (e : Int) = ((m >>> e : Nat) : Int) := by
  unfold shr
  rw [Int.toNat_natCast, Nat.min_eq_left (by simp [IntKind.bits]; omega), Nat.shiftRight_eq_div_pow]
  simp
theorem bit_nat (m e : Nat) (hm : m < 2 ^ 63) (he : e < 64) : Go.bits .and .i64 (shr .i64 (m : Int) (e : Int)) 1 = if m.testBit e then 1 else 0 := by
  rw [shr_nat m e he]
  have h1 : m >>> e < 2 ^ 63 := by
    rw [Nat.shiftRight_eq_div_pow]
    exact Nat.lt_of_le_of_lt (Nat.div_le_self _ _) hm
  have := and_nat (m >>> e) 1 h1 (by decide)
  rw [show ((1 : Nat) : Int) = 1 from rfl] at this
  rw [this, Nat.testBit]
  rw [Nat.and_one_is_mod, Nat.one_and_eq_mod_two]
  rcases Nat.mod_two_eq_zero_or_one (m >>> e) with h | h <;> simp [h]
theorem or_add (m e : Nat) (h : m.testBit e = false) : m ||| 2 ^ e = m + 2 ^ e := by
  have hb : m % 2 ^ (e + 1) < 2 ^ e := by
    rw [Nat.mod_pow_succ]
    have h1 : m / 2 ^ e % 2 = 0 := by
      rw [Nat.testBit, Nat.shiftRight_eq_div_pow, Nat.one_and_eq_mod_two] at h
      simpa using h
    rw [h1]
    simpa using Nat.mod_lt m (Nat.two_pow_pos e)
  have hm := Nat.div_add_mod m (2 ^ (e + 1))
  have hp : (2 : Nat) ^ (e + 1) = 2 ^ e + 2 ^ e := by rw [Nat.pow_succ]; omega
  have e1 := Nat.two_pow_add_eq_or_of_lt (i := e + 1) (b := m % 2 ^ (e + 1)) (by omega) (m / 2 ^ (e + 1))
  have e2 := Nat.two_pow_add_eq_or_of_lt (i := e + 1) (b := m % 2 ^ (e + 1) + 2 ^ e) (by omega) (m / 2 ^ (e + 1))
  have e3 := Nat.or_two_pow_eq_add_of_lt hb
  rw [← e3] at e2
  calc m ||| 2 ^ e = (2 ^ (e + 1) * (m / 2 ^ (e + 1)) ||| m % 2 ^ (e + 1)) ||| 2 ^ e := by rw [← e1, hm]
    _ = 2 ^ (e + 1) * (m / 2 ^ (e + 1)) ||| (m % 2 ^ (e + 1) ||| 2 ^ e) := by rw [Nat.or_assoc]
    _ = m + 2 ^ e := by rw [← e2, e3]; omega
theorem test_lt (m e n : Nat) (hm : m < 2 ^ n) (he : n ≤ e) : m.testBit e = false := Nat.testBit_lt_two_pow (Nat.lt_of_lt_of_le hm (Nat.pow_le_pow_right (by omega) he))

end Go.Proofs.Ytoildabjnioafaa.PA

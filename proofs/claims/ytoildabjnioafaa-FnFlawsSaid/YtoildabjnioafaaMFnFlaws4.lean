/- Texts of this claim put together in build order (FnFlaws). -/
import Derived.Test.YtoildabjnioafaaMFnFlaws0
import Derived.Test.YtoildabjnioafaaMFnFlaws1
import Derived.Test.YtoildabjnioafaaMFnFlaws2
import Derived.Test.YtoildabjnioafaaMFnFlaws3
import Derived.Test.YtoildabjnioafaaRows
import Derived.WalkKit
import Derived.ProofKit
import Derived.OpenShut
import Derived.ShutString
import Derived.ChangeOld
import Derived.Below
import Derived.SizedLaws
import Derived.Test.YtoildabjnioafaaWSized
/- whole numbers, lists, masks -/
namespace Go.Proofs.Ytoildabjnioafaa.PA
open Go.RowKit Go.Proofs.YtoildabjnioafaaW.PrintWords Go.Proofs.YtoildabjnioafaaW.PrintLast Go.Proofs.YtoildabjnioafaaW.PrintMore
set_option linter.unusedVariables false
set_option linter.unusedSimpArgs false
theorem w64 {x : Int} (h0 : -9223372036854775808 ≤ x) (h1 : x < 9223372036854775808) : wrap64 x = x := by
  unfold wrap64
  omega
theorem ev_eq {α : Type} {g : Nat → Option α} {r r' : α} (h : Ev g r) (e : r = r') : Ev g r' := e ▸ h
theorem ev_const {α : Type} {a : Option α} {r : α} (h : a = some r) : Ev (fun _ => a) r := ⟨0, fun _ _ => h⟩
theorem wraps_i64n (n : Int) (h0 : 0 ≤ n) (h1 : n < 2 ^ 63) : IntKind.i64.wrap n = n := by
  rw [IntKind.wrap_i64]
  omega
theorem or_nat (a b : Nat) (ha : a < 2 ^ 63) (hb : b < 2 ^ 63) : Go.bits .or .i64 (a : Int) (b : Int) = ((a ||| b : Nat) : Int) :=
  (bits_nat .i64 63 (by decide) wraps_i64n a b ha hb).2
theorem and_nat (a b : Nat) (ha : a < 2 ^ 63) (hb : b < 2 ^ 63) : Go.bits .and .i64 (a : Int) (b : Int) = ((a &&& b : Nat) : Int) :=
  (bits_nat .i64 63 (by decide) wraps_i64n a b ha hb).1
theorem shl_one (e : Nat) (he : e < 62) : shl .i64 1 (e : Int) = ((2 ^ e : Nat) : Int) := by
  unfold shl
  rw [Int.toNat_natCast, Nat.min_eq_left (by simp [IntKind.bits]; omega)]
  have hp : (2 : Nat) ^ e < 2 ^ 62 := Nat.pow_lt_pow_right (by omega) he
  rw [wraps_i64n]
  · simp
  · simp
    exact_mod_cast Nat.zero_le _
  · simp
    have : ((2 ^ e : Nat) : Int) < ((2 ^ 62 : Nat) : Int) := Int.ofNat_lt.2 hp
    simp at this
    omega
theorem shr_nat (m e : Nat) (he : e < 64) : shr .i64 (m : Int) (e : Int) = ((m >>> e : Nat) : Int) := by
  unfold shr
  rw [Int.toNat_natCast, Nat.min_eq_left (by simp [IntKind.bits]; omega), Nat.shiftRight_eq_div_pow]
  simp
theorem bit_nat (m e : Nat) (hm : m < 2 ^ 63) (he : e < 64) : Go.bits .and .i64 (shr .i64 (m : Int) (e : Int)) 1 = if m.testBit e then 1 else 0 := by
  rw [shr_nat m e he]
  have h1 : m >>> e < 2 ^ 63 := by
    rw [Nat.shiftRight_eq_div_pow]
    exact Nat.lt_of_le_of_lt (Nat.div_le_self _ _) hm
  have := and_nat (m >>> e) 1 h1 (by decide)
  rw [show ((1 : Nat) : Int) = 1 from rfl] at this
  rw [this, Nat.testBit]
  rw [Nat.and_one_is_mod, Nat.one_and_eq_mod_two]
  rcases Nat.mod_two_eq_zero_or_one (m >>> e) with h | h <;> simp [h]
theorem or_add (m e : Nat) (h : m.testBit e = false) : m ||| 2 ^ e = m + 2 ^ e := by
  have hb : m % 2 ^ (e + 1) < 2 ^ e := by
    rw [Nat.mod_pow_succ]
    have h1 : m / 2 ^ e % 2 = 0 := by
      rw [Nat.testBit, Nat.shiftRight_eq_div_pow, Nat.one_and_eq_mod_two] at h
      simpa using h
    rw [h1]
    simpa using Nat.mod_lt m (Nat.two_pow_pos e)
  have hm := Nat.div_add_mod m (2 ^ (e + 1))
  have hp : (2 : Nat) ^ (e + 1) = 2 ^ e + 2 ^ e := by rw [Nat.pow_succ]; omega
  have e1 := Nat.two_pow_add_eq_or_of_lt (i := e + 1) (b := m % 2 ^ (e + 1)) (by omega) (m / 2 ^ (e + 1))
  have e2 := Nat.two_pow_add_eq_or_of_lt (i := e + 1) (b := m % 2 ^ (e + 1) + 2 ^ e) (by omega) (m / 2 ^ (e + 1))
  have e3 := Nat.or_two_pow_eq_add_of_lt hb
  rw [← e3] at e2
  calc m ||| 2 ^ e = (2 ^ (e + 1) * (m / 2 ^ (e + 1)) ||| m % 2 ^ (e + 1)) ||| 2 ^ e := by rw [← e1, hm]
    _ = 2 ^ (e + 1) * (m / 2 ^ (e + 1)) ||| (m % 2 ^ (e + 1) ||| 2 ^ e) := by rw [Nat.or_assoc]
    _ = m + 2 ^ e := by rw [← e2, e3]; omega
theorem test_lt (m e n : Nat) (hm : m < 2 ^ n) (he : n ≤ e) : m.testBit e = false := Nat.testBit_lt_two_pow (Nat.lt_of_lt_of_le hm (Nat.pow_le_pow_right (by omega) he))
end Go.Proofs.Ytoildabjnioafaa.PA
/- windows -/
namespace Go.Proofs.Ytoildabjnioafaa.PA
open Go.RowKit Go.Proofs.YtoildabjnioafaaW.PrintWords Go.Proofs.YtoildabjnioafaaW.PrintLast Go.Proofs.YtoildabjnioafaaW.PrintMore
set_option linter.unusedVariables false
set_option linter.unusedSimpArgs false
theorem l01In_eq (a b c : Int) : spec_l01In.f a b c = some (decide (b ≤ a ∧ a ≤ c)) := by
  unfold spec_l01In.f
  by_cases h : a ≥ b
  · rw [if_pos h]; simp [h]
  · rw [if_neg h]; simp [h]
theorem within_eq (a b c : Int) : impl_within.f a b c = some (decide (b ≤ a ∧ a ≤ c)) := l01In_eq a b c
def winOk (w h : Int) (l : List Int) : Bool :=
  decide (1 ≤ w ∧ w ≤ 6 ∧ 1 ≤ h ∧ h ≤ 6 ∧ l.length = 4 ∧ 0 ≤ rd l 0 ∧ rd l 0 ≤ w - 1 ∧ 0 ≤ rd l 1 ∧ rd l 1 ≤ h - 1 ∧ 1 ≤ rd l 2 ∧ rd l 2 ≤ w - rd l 0 ∧ 1 ≤ rd l 3 ∧ rd l 3 ≤ h - rd l 1)
theorem four {l : List Int} (h : l.length = 4) : ∃ x y v u, l = [x, y, v, u] := by
  match l, h with
  | [x, y, v, u], _ => exact ⟨x, y, v, u, rfl⟩
theorem rd4 (x y v u : Int) : rd [x, y, v, u] 0 = x ∧ rd [x, y, v, u] 1 = y ∧ rd [x, y, v, u] 2 = v ∧ rd [x, y, v, u] 3 = u := ⟨rfl, rfl, rfl, rfl⟩
theorem impl_WindowOk_eq (w h : Int) (l : List Int) : impl_WindowOk.f w h l = some (winOk w h l) := by
  unfold impl_WindowOk.f impl_isTable.f impl_areWithin.f
  simp only [within_eq, Option.bind_some]
  by_cases c0 : 1 ≤ w ∧ w ≤ 6
  · rw [if_pos (by simpa using c0)]
    simp only [Option.bind_some]
    by_cases c1 : 1 ≤ h ∧ h ≤ 6
    · rw [if_pos (by simpa using c1)]
      by_cases c2 : l.length = 4
      · rw [if_pos (by omega)]
        obtain ⟨x, y, v, u, rfl⟩ := four c2
        obtain ⟨r0, r1, r2, r3⟩ := rd4 x y v u
        rw [r0, r1, r2, r3]
        by_cases c3 : ([x, y, v, u].all fun n => decide (0 ≤ n) && decide (n ≤ 6)) = true
        · rw [if_pos c3]
          simp at c3
          rw [if_pos (by simp), if_pos (by simp), if_pos (by simp), if_pos (by simp), w64 (x := x + v) (by omega) (by omega), w64 (x := y + u) (by omega) (by omega)]
          unfold winOk
          rw [r0, r1, r2, r3]
          by_cases c4 : v ≥ 1
          · rw [if_pos c4]
            by_cases c5 : u ≥ 1
            · rw [if_pos c5]
              by_cases c6 : x + v ≤ w
              · rw [if_pos c6]
                congr 1
                rw [decide_eq_decide]
                simp
                omega
              · rw [if_neg c6]
                congr 1
                exact (decide_eq_false (by simp; omega)).symm
            · rw [if_neg c5]
              congr 1
              exact (decide_eq_false (by simp; omega)).symm
          · rw [if_neg c4]
            congr 1
            exact (decide_eq_false (by simp; omega)).symm
        · rw [if_neg c3]
          congr 1
          refine (decide_eq_false ?_).symm
          rw [r0, r1, r2, r3]
          intro z
          exact c3 (by simp; omega)
      · rw [if_neg (by omega)]
        congr 1
        exact (decide_eq_false (fun z => c2 z.2.2.2.2.1)).symm
    · rw [if_neg (by simpa using c1)]
      congr 1
      exact (decide_eq_false (fun z => c1 ⟨z.2.2.1, z.2.2.2.1⟩)).symm
  · rw [if_neg (by simpa using c0)]
    simp only [Option.bind_some]
    rw [if_neg (by simp)]
    congr 1
    exact (decide_eq_false (fun z => c0 ⟨z.1, z.2.1⟩)).symm
end Go.Proofs.Ytoildabjnioafaa.PA
/- shapes -/
namespace Go.Proofs.Ytoildabjnioafaa.PA
open Go.RowKit Go.Proofs.YtoildabjnioafaaW.PrintWords Go.Proofs.YtoildabjnioafaaW.PrintLast Go.Proofs.YtoildabjnioafaaW.PrintMore
set_option linter.unusedVariables false
set_option linter.unusedSimpArgs false
def shapeOk (w h m : Int) : Bool := decide (1 ≤ w ∧ w ≤ 6 ∧ 1 ≤ h ∧ h ≤ 6 ∧ 0 ≤ m ∧ m < ((2 ^ (w * h).toNat : Nat) : Int))
theorem wh_bounds {w h : Int} (h1 : 1 ≤ w) (h2 : w ≤ 6) (h3 : 1 ≤ h) (h4 : h ≤ 6) : 1 ≤ w * h ∧ w * h ≤ 36 := by
  have p1 : 1 * 1 ≤ w * h := Int.mul_le_mul h1 h3 (by omega) (by omega)
  have p2 : w * h ≤ 6 * 6 := Int.mul_le_mul h2 h4 (by omega) (by omega)
  omega
theorem pow_wh {w h : Int} (h1 : 1 ≤ w) (h2 : w ≤ 6) (h3 : 1 ≤ h) (h4 : h ≤ 6) : (2 : Nat) ^ (w * h).toNat ≤ 2 ^ 36 ∧ 1 ≤ (2 : Nat) ^ (w * h).toNat := by
  have := wh_bounds h1 h2 h3 h4
  exact ⟨Nat.pow_le_pow_right (by omega) (by omega), Nat.one_le_two_pow⟩
theorem shapeOk_facts {w h m : Int} (c : shapeOk w h m = true) : 1 ≤ w ∧ w ≤ 6 ∧ 1 ≤ h ∧ h ≤ 6 ∧ 0 ≤ m ∧ m < ((2 ^ (w * h).toNat : Nat) : Int) ∧ m < 68719476736 ∧ ∀ n : Nat, m = n → n < 2 ^ 36 := by
  unfold shapeOk at c
  obtain ⟨h1, h2, h3, h4, h5, h6⟩ := of_decide_eq_true c
  have hp := (pow_wh h1 h2 h3 h4).1
  have : ((2 ^ (w * h).toNat : Nat) : Int) ≤ ((2 ^ 36 : Nat) : Int) := Int.ofNat_le.2 hp
  have e : ((2 ^ 36 : Nat) : Int) = 68719476736 := rfl
  exact ⟨h1, h2, h3, h4, h5, h6, by omega, fun n hn => by omega⟩
theorem shl_wh {w h : Int} (h1 : 1 ≤ w) (h2 : w ≤ 6) (h3 : 1 ≤ h) (h4 : h ≤ 6) : shl .i64 1 (w * h) = ((2 ^ (w * h).toNat : Nat) : Int) := by
  have hb := wh_bounds h1 h2 h3 h4
  have := shl_one (w * h).toNat (by omega)
  rw [Int.toNat_of_nonneg (by omega)] at this
  exact this
theorem spec_ShapeOk_eq (w h m : Int) : spec_ShapeOk.f w h m = some (shapeOk w h m) := by
  unfold spec_ShapeOk.f
  simp only [l01In_eq, Option.bind_some]
  by_cases c0 : 1 ≤ w ∧ w ≤ 6
  · rw [if_pos (by simpa using c0)]
    by_cases c1 : 1 ≤ h ∧ h ≤ 6
    · have hb := wh_bounds c0.1 c0.2 c1.1 c1.2
      have hp := pow_wh c0.1 c0.2 c1.1 c1.2
      rw [if_pos (by simpa using c1), w64 (x := w * h) (by omega) (by omega), if_pos (by omega), shl_wh c0.1 c0.2 c1.1 c1.2, w64 (by omega) (by omega)]
      congr 1
      unfold shapeOk
      rw [decide_eq_decide]
      omega
    · rw [if_neg (by simpa using c1)]
      congr 1
      exact (decide_eq_false (fun z => c1 ⟨z.2.2.1, z.2.2.2.1⟩)).symm
  · rw [if_neg (by simpa using c0)]
    congr 1
    exact (decide_eq_false (fun z => c0 ⟨z.1, z.2.1⟩)).symm
theorem impl_ShapeOk_eq (w h m : Int) : impl_ShapeOk.f w h m = some (shapeOk w h m) := by
  unfold impl_ShapeOk.f impl_isTable.f
  simp only [within_eq, Option.bind_some]
  by_cases c0 : 1 ≤ w ∧ w ≤ 6
  · rw [if_pos (by simpa using c0)]
    simp only [Option.bind_some]
    by_cases c1 : 1 ≤ h ∧ h ≤ 6
    · have hb := wh_bounds c0.1 c0.2 c1.1 c1.2
      have hp := pow_wh c0.1 c0.2 c1.1 c1.2
      rw [if_pos (by simpa using c1)]
      by_cases c2 : m ≥ 0
      · rw [if_pos c2, w64 (x := w * h) (by omega) (by omega), if_pos (by omega), shl_wh c0.1 c0.2 c1.1 c1.2]
        congr 1
        unfold shapeOk
        rw [decide_eq_decide]
        omega
      · rw [if_neg c2]
        congr 1
        exact (decide_eq_false (fun z => c2 z.2.2.2.2.1)).symm
    · rw [if_neg (by simpa using c1)]
      congr 1
      exact (decide_eq_false (fun z => c1 ⟨z.2.2.1, z.2.2.2.1⟩)).symm
  · rw [if_neg (by simpa using c0)]
    simp only [Option.bind_some]
    rw [if_neg (by simp)]
    congr 1
    exact (decide_eq_false (fun z => c0 ⟨z.1, z.2.1⟩)).symm
end Go.Proofs.Ytoildabjnioafaa.PA
/- Window masks: both functions fill the same bits. -/
namespace Go.Proofs.Ytoildabjnioafaa.PA
open Go.RowKit Go.Proofs.YtoildabjnioafaaW.PrintWords Go.Proofs.YtoildabjnioafaaW.PrintLast Go.Proofs.YtoildabjnioafaaW.PrintMore
set_option linter.unusedVariables false
set_option linter.unusedSimpArgs false
def cellsM : Nat → Nat → Nat → Nat
  | _, 0, m => m
  | e, c + 1, m => cellsM (e + 1) c (m + 2 ^ e)
def rowsM (w v : Nat) : Nat → Nat → Nat → Nat
  | _, 0, m => m
  | s, r + 1, m => rowsM w v (s + w) r (cellsM s v m)
theorem cellsM_lt : ∀ (c e m : Nat), m < 2 ^ e → cellsM e c m < 2 ^ (e + c) := by
  intro c
  induction c with
  | zero => intro e m h; simpa [cellsM] using h
  | succ c ih =>
    intro e m h
    have := ih (e + 1) (m + 2 ^ e) (by rw [Nat.pow_succ]; omega)
    rw [show e + 1 + c = e + (c + 1) by omega] at this
    exact this
theorem rowsM_top (w v : Nat) (hv : v ≤ w) : ∀ (r s m : Nat), m < 2 ^ s → 0 < r → rowsM w v s r m < 2 ^ (s + (r - 1) * w + v) := by
  intro r
  induction r with
  | zero => intro s m _ h; omega
  | succ r ih =>
    intro s m h _
    have h1 := cellsM_lt v s m h
    by_cases hr : r = 0
    · subst hr
      simpa [rowsM] using h1
    · have h2 : (2 : Nat) ^ (s + v) ≤ 2 ^ (s + w) := Nat.pow_le_pow_right (by omega) (by omega)
      have := ih (s + w) (cellsM s v m) (by omega) (by omega)
      have e : s + w + (r - 1) * w + v = s + (r + 1 - 1) * w + v := by
        obtain ⟨q, rfl⟩ : ∃ q, r = q + 1 := ⟨r - 1, by omega⟩
        simp only [Nat.add_sub_cancel, Nat.succ_mul]
        omega
      rw [e] at this
      exact this
theorem pow_small {e : Nat} (h : e ≤ 36) : (0 : Int) ≤ ((2 ^ e : Nat) : Int) ∧ ((2 ^ e : Nat) : Int) ≤ 68719476736 ∧ 2 ^ e ≤ 68719476736 := by
  have h1 : (2 : Nat) ^ e ≤ 2 ^ 36 := Nat.pow_le_pow_right (by omega) h
  have h2 : (2 : Nat) ^ 36 = 68719476736 := rfl
  rw [h2] at h1
  exact ⟨Int.natCast_nonneg _, by omega, h1⟩
structure Win (w h : Int) (l : List Int) (W H X Y V U : Nat) : Prop where
  w : w = W
  h : h = H
  l : l = [(X : Int), (Y : Int), (V : Int), (U : Int)]
  w6 : 1 ≤ W ∧ W ≤ 6
  h6 : 1 ≤ H ∧ H ≤ 6
  v1 : 1 ≤ V ∧ 1 ≤ U
  fit : X + V ≤ W ∧ Y + U ≤ H
theorem winOk_win {w h : Int} {l : List Int} (c : winOk w h l = true) : ∃ W H X Y V U, Win w h l W H X Y V U := by
  unfold winOk at c
  obtain ⟨h1, h2, h3, h4, h5, c⟩ := of_decide_eq_true c
  obtain ⟨x, y, v, u, rfl⟩ := four h5
  obtain ⟨r0, r1, r2, r3⟩ := rd4 x y v u
  rw [r0, r1, r2, r3] at c
  refine ⟨w.toNat, h.toNat, x.toNat, y.toNat, v.toNat, u.toNat, ⟨by omega, by omega, ?_, by omega, by omega, by omega, by omega⟩⟩
  rw [Int.toNat_of_nonneg (by omega), Int.toNat_of_nonneg (by omega), Int.toNat_of_nonneg (by omega), Int.toNat_of_nonneg (by omega)]
theorem win_ok {w h : Int} {l : List Int} {W H X Y V U : Nat} (c : Win w h l W H X Y V U) : winOk w h l = true := by
  obtain ⟨rfl, rfl, rfl, _, _, _, _⟩ := c
  unfold winOk
  obtain ⟨r0, r1, r2, r3⟩ := rd4 (X : Int) Y V U
  rw [r0, r1, r2, r3]
  exact decide_eq_true (by simp; omega)
theorem row_top {Y U H W : Nat} {i : Nat} (hi : i < U) (hY : Y + U ≤ H) (hH : H ≤ 6) (hW : W ≤ 6) : (Y + i) * W + W ≤ 36 := by
  have h1 : (Y + i + 1) * W ≤ 6 * 6 := Nat.mul_le_mul (by omega) hW
  rw [Nat.succ_mul] at h1
  omega
theorem impl_l1 {W X Y V U : Nat} {r : Int} (hW : W ≤ 6) (hX : X + V ≤ 6) (i : Nat) : ∀ (c j e m : Nat), j + c = V → (Y + i) * W + X + j = e → e + c ≤ 36 → m < 2 ^ e → Y + i ≤ 6 →
    Ev (fun k => impl_WindowMask.l0 k W [(X : Int), (Y : Int), (V : Int), (U : Int)] ((cellsM e c m : Nat) : Int) U ((i + 1 : Nat) : Int)) r →
    Ev (fun k => impl_WindowMask.l1 k W [(X : Int), (Y : Int), (V : Int), (U : Int)] (m : Int) (i : Int) U (i : Int) V (j : Int)) r := by
  intro c
  obtain ⟨r0, r1, r2, r3⟩ := rd4 (X : Int) Y V U
  induction c with
  | zero =>
    intro j e m hj he h36 hm hY hk
    refine Ev.step (f := fun k => impl_WindowMask.l0 k W [(X : Int), (Y : Int), (V : Int), (U : Int)] (m : Int) U ((i + 1 : Nat) : Int)) (fun k => ?_) hk
    simp only [impl_WindowMask.l1]
    rw [if_neg (by omega), w64 (by omega) (by omega)]
    simp
  | succ c ih =>
    intro j e m hj he h36 hm hY hk
    have hp := pow_small (e := e) (by omega)
    refine Ev.step (f := fun k => impl_WindowMask.l1 k W [(X : Int), (Y : Int), (V : Int), (U : Int)] ((m + 2 ^ e : Nat) : Int) (i : Int) U (i : Int) V ((j + 1 : Nat) : Int)) (fun k => ?_) (ih (j + 1) (e + 1) (m + 2 ^ e) (by omega) (by omega) (by omega) (by rw [Nat.pow_succ]; omega) hY hk)
    simp only [impl_WindowMask.l1]
    have hmul : (((Y : Int) + (i : Int)) * (W : Int)) = (((Y + i) * W : Nat) : Int) := by simp
    rw [if_pos (by omega), if_pos (by simp), if_pos (by simp), r0, r1, w64 (x := (Y : Int) + i) (by omega) (by omega), hmul, w64 (x := (((Y + i) * W : Nat) : Int)) (by omega) (by omega),
      w64 (x := (((Y + i) * W : Nat) : Int) + X) (by omega) (by omega), show ((((Y + i) * W : Nat) : Int) + (X : Int) + (j : Int)) = (e : Int) by omega, w64 (x := (e : Int)) (by omega) (by omega), if_pos (by omega), shl_one e (by omega),
      or_nat m (2 ^ e) (by omega) (by omega), or_add m e (test_lt m e e hm (Nat.le_refl _)), w64 (by omega) (by omega)]
    simp
theorem impl_l0 {W H X Y V U : Nat} (hW : W ≤ 6) (hX : X + V ≤ W) (hH : H ≤ 6) (hY : Y + U ≤ H) : ∀ (d i s m : Nat), i + d = U → (Y + i) * W + X = s → m < 2 ^ s →
    Ev (fun k => impl_WindowMask.l0 k W [(X : Int), (Y : Int), (V : Int), (U : Int)] (m : Int) U (i : Int)) ((rowsM W V s d m : Nat) : Int) := by
  intro d
  obtain ⟨r0, r1, r2, r3⟩ := rd4 (X : Int) Y V U
  induction d with
  | zero =>
    intro i s m hi hs hm
    refine Ev.step (f := fun k => some (m : Int)) (fun k => ?_) (Ev.now _)
    simp only [impl_WindowMask.l0]
    rw [if_neg (by omega)]
  | succ d ih =>
    intro i s m hi hs hm
    have ht := row_top (i := i) (by omega) hY hH hW
    have h1 := cellsM_lt V s m hm
    have h2 : (2 : Nat) ^ (s + V) ≤ 2 ^ (s + W) := Nat.pow_le_pow_right (by omega) (by omega)
    have hn := ih (i + 1) (s + W) (cellsM s V m) (by omega) (by rw [← hs, show Y + (i + 1) = (Y + i) + 1 by omega, Nat.succ_mul]; omega) (by omega)
    refine Ev.step (f := fun k => impl_WindowMask.l1 k W [(X : Int), (Y : Int), (V : Int), (U : Int)] (m : Int) (i : Int) U (i : Int) V ((0 : Nat) : Int)) (fun k => ?_) (impl_l1 hW (by omega) i V 0 s m (by omega) (by omega) (by omega) hm (by omega) hn)
    simp only [impl_WindowMask.l0]
    rw [if_pos (by omega), if_pos (by simp), r2]
    rfl
theorem impl_mask_ev {w h : Int} {l : List Int} {W H X Y V U : Nat} (c : Win w h l W H X Y V U) : Ev (fun k => impl_WindowMask.f k w h l) ((rowsM W V (Y * W + X) U 0 : Nat) : Int) := by
  have hc := win_ok c
  obtain ⟨rfl, rfl, rfl, h1, h2, h3, h4⟩ := c
  refine Ev.congr (fun k => ?_) (impl_l0 (H := H) (Y := Y) (U := U) h1.2 h4.1 h2.2 h4.2 U 0 (Y * W + X) 0 (by omega) (by simp) (Nat.two_pow_pos _))
  unfold impl_WindowMask.f
  rw [impl_WindowOk_eq]
  simp only [Option.bind_some]
  rw [if_pos hc, if_pos (by simp)]
  rfl
/-- The mask of a window, a natural number; 0 where it is none. -/
def maskI (w h : Int) (l : List Int) : Int := if winOk w h l then ((rowsM w.toNat (rd l 2).toNat ((rd l 1).toNat * w.toNat + (rd l 0).toNat) (rd l 3).toNat 0 : Nat) : Int) else 0
theorem maskI_win {w h : Int} {l : List Int} {W H X Y V U : Nat} (c : Win w h l W H X Y V U) : maskI w h l = ((rowsM W V (Y * W + X) U 0 : Nat) : Int) := by
  unfold maskI
  rw [if_pos (win_ok c)]
  obtain ⟨rfl, rfl, rfl, h1, h2, h3, h4⟩ := c
  obtain ⟨r0, r1, r2, r3⟩ := rd4 (X : Int) Y V U
  rw [r0, r1, r2, r3]
  simp
theorem impl_WindowMask_ev (w h : Int) (l : List Int) : Ev (fun k => impl_WindowMask.f k w h l) (maskI w h l) := by
  by_cases c : winOk w h l = true
  · obtain ⟨W, H, X, Y, V, U, c'⟩ := winOk_win c
    rw [maskI_win c']
    exact impl_mask_ev c'
  · refine ev_eq (r := 0) (ev_const (a := some 0) rfl |>.congr (fun k => ?_)) (by unfold maskI; rw [if_neg c])
    unfold impl_WindowMask.f
    rw [impl_WindowOk_eq]
    simp only [Option.bind_some]
    rw [if_neg c]
theorem maskI_nat (w h : Int) (l : List Int) : ∃ n : Nat, maskI w h l = n ∧ n < 2 ^ 36 := by
  by_cases c : winOk w h l = true
  · obtain ⟨W, H, X, Y, V, U, c'⟩ := winOk_win c
    refine ⟨_, maskI_win c', ?_⟩
    obtain ⟨rfl, rfl, rfl, h1, h2, h3, h4⟩ := c'
    have h5 := rowsM_top W V (by omega) U (Y * W + X) 0 (Nat.two_pow_pos _) (by omega)
    have ht := row_top (Y := Y) (U := U) (H := H) (W := W) (i := U - 1) (by omega) h4.2 h2.2 h1.2
    have e1 : Y * W + X + (U - 1) * W + V ≤ 36 := by
      have : Y * W + (U - 1) * W = (Y + (U - 1)) * W := by rw [Nat.add_mul]
      omega
    exact Nat.lt_of_lt_of_le h5 (Nat.pow_le_pow_right (by omega) e1)
  · exact ⟨0, by unfold maskI; rw [if_neg c]; rfl, by decide⟩
end Go.Proofs.Ytoildabjnioafaa.PA
/- All clear windows: both functions make one list. -/
namespace Go.Proofs.Ytoildabjnioafaa.PA
open Go.RowKit Go.Proofs.YtoildabjnioafaaW.PrintWords Go.Proofs.YtoildabjnioafaaW.PrintLast Go.Proofs.YtoildabjnioafaaW.PrintMore
set_option linter.unusedVariables false
set_option linter.unusedSimpArgs false
def clearB (w h m : Int) (l : List Int) : Bool := decide (Go.bits .and .i64 (maskI w h l) m = 0)
def win4 (x y v u : Nat) : List Int := [(x : Int), (y : Int), (v : Int), (u : Int)]
def allU (W H : Nat) (m : Int) (x y v : Nat) : Nat → Nat → List (List Int) → List (List Int)
  | 0, _, acc => acc
  | c + 1, u, acc => allU W H m x y v c (u + 1) (if clearB W H m (win4 x y v u) then acc ++ [win4 x y v u] else acc)
def allV (W H : Nat) (m : Int) (x y : Nat) : Nat → Nat → List (List Int) → List (List Int)
  | 0, _, acc => acc
  | c + 1, v, acc => allV W H m x y c (v + 1) (allU W H m x y v (H - y) 1 acc)
def allY (W H : Nat) (m : Int) (x : Nat) : Nat → Nat → List (List Int) → List (List Int)
  | 0, _, acc => acc
  | c + 1, y, acc => allY W H m x c (y + 1) (allV W H m x y (W - x) 1 acc)
def allX (W H : Nat) (m : Int) : Nat → Nat → List (List Int) → List (List Int)
  | 0, _, acc => acc
  | c + 1, x, acc => allX W H m c (x + 1) (allY W H m x H 0 acc)
theorem allU_len (W H : Nat) (m : Int) (x y v : Nat) : ∀ (c u : Nat) (acc : List (List Int)), (allU W H m x y v c u acc).length ≤ acc.length + c := by
  intro c
  induction c with
  | zero => intro u acc; simp [allU]
  | succ c ih =>
    intro u acc
    simp only [allU]
    have := ih (u + 1) (if clearB W H m (win4 x y v u) then acc ++ [win4 x y v u] else acc)
    have h2 : (if clearB W H m (win4 x y v u) then acc ++ [win4 x y v u] else acc).length ≤ acc.length + 1 := by split <;> simp
    omega
theorem allV_len (W H : Nat) (m : Int) (x y : Nat) (hH : H ≤ 6) : ∀ (c v : Nat) (acc : List (List Int)), (allV W H m x y c v acc).length ≤ acc.length + c * 6 := by
  intro c
  induction c with
  | zero => intro v acc; simp [allV]
  | succ c ih =>
    intro v acc
    simp only [allV]
    have h1 := ih (v + 1) (allU W H m x y v (H - y) 1 acc)
    have h2 := allU_len W H m x y v (H - y) 1 acc
    omega
theorem allY_len (W H : Nat) (m : Int) (x : Nat) (hW : W ≤ 6) (hH : H ≤ 6) : ∀ (c y : Nat) (acc : List (List Int)), (allY W H m x c y acc).length ≤ acc.length + c * 36 := by
  intro c
  induction c with
  | zero => intro v acc; simp [allY]
  | succ c ih =>
    intro y acc
    simp only [allY]
    have h1 := ih (y + 1) (allV W H m x y (W - x) 1 acc)
    have h2 := allV_len W H m x y hH (W - x) 1 acc
    omega
theorem allX_len (W H : Nat) (m : Int) (hW : W ≤ 6) (hH : H ≤ 6) : ∀ (c x : Nat) (acc : List (List Int)), (allX W H m c x acc).length ≤ acc.length + c * 216 := by
  intro c
  induction c with
  | zero => intro v acc; simp [allX]
  | succ c ih =>
    intro x acc
    simp only [allX]
    have h1 := ih (x + 1) (allY W H m x H 0 acc)
    have h2 := allY_len W H m x hW hH H 0 acc
    omega
theorem win4_ok {W H x y v u : Nat} (hW : 1 ≤ W ∧ W ≤ 6) (hH : 1 ≤ H ∧ H ≤ 6) (hx : x + v ≤ W) (hy : y + u ≤ H) (hv : 1 ≤ v) (hu : 1 ≤ u) : winOk (W : Int) (H : Int) (win4 x y v u) = true :=
  win_ok (W := W) (H := H) (X := x) (Y := y) (V := v) (U := u) ⟨rfl, rfl, rfl, hW, hH, ⟨hv, hu⟩, ⟨hx, hy⟩⟩
theorem impl_U {W H : Nat} {m : Int} {r : List (List Int)} (hW : 1 ≤ W ∧ W ≤ 6) (hH : 1 ≤ H ∧ H ≤ 6) (x y v : Nat) (hx : x + v ≤ W) (hv : 1 ≤ v) : ∀ (c u : Nat) (acc : List (List Int)), y + u + c = H + 1 → 1 ≤ u → acc.length + c ≤ 5000 →
    Ev (fun k => impl_clearWindows.l2 k (W : Int) (H : Int) (m : Int) (allU W H m x y v c u acc) ((x : Nat) : Int) ((y : Nat) : Int) ((v + 1 : Nat) : Int) (W : Int) ((x : Nat) : Int) (H : Int) ((y : Nat) : Int)) r → Ev (fun k => impl_clearWindows.l3 k (W : Int) (H : Int) (m : Int) acc ((x : Nat) : Int) ((y : Nat) : Int) ((v : Nat) : Int) ((u : Nat) : Int) (W : Int) ((x : Nat) : Int) (H : Int) ((y : Nat) : Int)) r := by
  intro c
  induction c with
  | zero =>
    intro u acc hu h1 hl hk
    refine Ev.step (f := fun k => impl_clearWindows.l2 k (W : Int) (H : Int) (m : Int) acc ((x : Nat) : Int) ((y : Nat) : Int) ((v + 1 : Nat) : Int) (W : Int) ((x : Nat) : Int) (H : Int) ((y : Nat) : Int)) (fun k => ?_) hk
    simp only [impl_clearWindows.l3]
    rw [w64 (x := (y : Int) + u) (by omega) (by omega), if_neg (by omega), w64 (by omega) (by omega)]
    simp
  | succ c ih =>
    intro u acc hu h1 hl hk
    refine Ev.step (fun k => rfl) ?_
    simp only [impl_clearWindows.l3]
    refine Ev.congr (fun k => if_pos (by rw [w64 (by omega) (by omega)]; omega)) ?_
    refine Ev.congr (f := fun k => (impl_WindowMask.f k (W : Int) (H : Int) (win4 x y v u)).bind fun t => (if (Go.bits .and .i64 t m) = 0 then (if acc.length < 5864062014805 then (impl_clearWindows.l3 k (W : Int) (H : Int) (m : Int) (acc ++ [win4 x y v u]) ((x : Nat) : Int) ((y : Nat) : Int) ((v : Nat) : Int) (wrap64 ((u : Int) + 1)) (W : Int) ((x : Nat) : Int) (H : Int) ((y : Nat) : Int)) else none) else (impl_clearWindows.l3 k (W : Int) (H : Int) (m : Int) acc ((x : Nat) : Int) ((y : Nat) : Int) ((v : Nat) : Int) (wrap64 ((u : Int) + 1)) (W : Int) ((x : Nat) : Int) (H : Int) ((y : Nat) : Int)))) (fun k => rfl) ?_
    refine Ev.bind (impl_WindowMask_ev (W : Int) (H : Int) (win4 x y v u)) ?_
    simp only [allU] at hk
    by_cases hc : clearB W H m (win4 x y v u) = true
    · rw [if_pos hc] at hk
      refine Ev.congr (fun k => (if_pos (of_decide_eq_true hc)).trans ((if_pos (by omega)).trans ?_)) (ih (u + 1) (acc ++ [win4 x y v u]) (by omega) (by omega) (by simp; omega) hk)
      rw [w64 (by omega) (by omega)]
      rfl
    · rw [if_neg hc] at hk
      refine Ev.congr (fun k => (if_neg (fun z => hc (decide_eq_true z))).trans ?_) (ih (u + 1) acc (by omega) (by omega) (by omega) hk)
      rw [w64 (by omega) (by omega)]
      rfl
theorem impl_V {W H : Nat} {m : Int} {r : List (List Int)} (hW : 1 ≤ W ∧ W ≤ 6) (hH : 1 ≤ H ∧ H ≤ 6) (x y : Nat) (hy : y < H) : ∀ (c v : Nat) (acc : List (List Int)), x + v + c = W + 1 → 1 ≤ v → acc.length + c * 6 ≤ 5000 →
    Ev (fun k => impl_clearWindows.l1 k (W : Int) (H : Int) (m : Int) (allV W H m x y c v acc) ((x : Nat) : Int) (W : Int) ((x : Nat) : Int) (H : Int) ((y + 1 : Nat) : Int)) r → Ev (fun k => impl_clearWindows.l2 k (W : Int) (H : Int) (m : Int) acc ((x : Nat) : Int) ((y : Nat) : Int) ((v : Nat) : Int) (W : Int) ((x : Nat) : Int) (H : Int) ((y : Nat) : Int)) r := by
  intro c
  induction c with
  | zero =>
    intro v acc hv h1 hl hk
    refine Ev.step (f := fun k => impl_clearWindows.l1 k (W : Int) (H : Int) (m : Int) acc ((x : Nat) : Int) (W : Int) ((x : Nat) : Int) (H : Int) ((y + 1 : Nat) : Int)) (fun k => ?_) hk
    simp only [impl_clearWindows.l2]
    rw [w64 (x := (x : Int) + v) (by omega) (by omega), if_neg (by omega), w64 (by omega) (by omega)]
    simp
  | succ c ih =>
    intro v acc hv h1 hl hk
    have hlen := allU_len W H m x y v (H - y) 1 acc
    refine Ev.step (f := fun k => impl_clearWindows.l3 k (W : Int) (H : Int) (m : Int) acc ((x : Nat) : Int) ((y : Nat) : Int) ((v : Nat) : Int) ((1 : Nat) : Int) (W : Int) ((x : Nat) : Int) (H : Int) ((y : Nat) : Int)) (fun k => ?_) (impl_U hW hH x y v (by omega) h1 (H - y) 1 acc (by omega) (by omega) (by omega) (ih (v + 1) (allU W H m x y v (H - y) 1 acc) (by omega) (by omega) (by omega) hk))
    simp only [impl_clearWindows.l2]
    rw [w64 (x := (x : Int) + v) (by omega) (by omega), if_pos (by omega)]
    rfl
theorem impl_Y {W H : Nat} {m : Int} {r : List (List Int)} (hW : 1 ≤ W ∧ W ≤ 6) (hH : 1 ≤ H ∧ H ≤ 6) (x : Nat) (hx : x < W) : ∀ (c y : Nat) (acc : List (List Int)), y + c = H → acc.length + c * 36 ≤ 5000 →
    Ev (fun k => impl_clearWindows.l0 k (W : Int) (H : Int) (m : Int) (allY W H m x c y acc) (W : Int) ((x + 1 : Nat) : Int)) r → Ev (fun k => impl_clearWindows.l1 k (W : Int) (H : Int) (m : Int) acc ((x : Nat) : Int) (W : Int) ((x : Nat) : Int) (H : Int) ((y : Nat) : Int)) r := by
  intro c
  induction c with
  | zero =>
    intro y acc hy hl hk
    refine Ev.step (f := fun k => impl_clearWindows.l0 k (W : Int) (H : Int) (m : Int) acc (W : Int) ((x + 1 : Nat) : Int)) (fun k => ?_) hk
    simp only [impl_clearWindows.l1]
    rw [if_neg (by omega), w64 (by omega) (by omega)]
    simp
  | succ c ih =>
    intro y acc hy hl hk
    have hlen := allV_len W H m x y hH.2 (W - x) 1 acc
    refine Ev.step (f := fun k => impl_clearWindows.l2 k (W : Int) (H : Int) (m : Int) acc ((x : Nat) : Int) ((y : Nat) : Int) ((1 : Nat) : Int) (W : Int) ((x : Nat) : Int) (H : Int) ((y : Nat) : Int)) (fun k => ?_) (impl_V hW hH x y (by omega) (W - x) 1 acc (by omega) (by omega) (by omega) (ih (y + 1) (allV W H m x y (W - x) 1 acc) (by omega) (by omega) hk))
    simp only [impl_clearWindows.l1]
    rw [if_pos (by omega)]
    rfl
theorem impl_X {W H : Nat} {m : Int} (hW : 1 ≤ W ∧ W ≤ 6) (hH : 1 ≤ H ∧ H ≤ 6) : ∀ (c x : Nat) (acc : List (List Int)), x + c = W → acc.length + c * 216 ≤ 5000 →
    Ev (fun k => impl_clearWindows.l0 k (W : Int) (H : Int) (m : Int) acc (W : Int) ((x : Nat) : Int)) (allX W H m c x acc) := by
  intro c
  induction c with
  | zero =>
    intro x acc hx hl
    refine Ev.step (f := fun k => some acc) (fun k => ?_) (Ev.now _)
    simp only [impl_clearWindows.l0]
    rw [if_neg (by omega)]
  | succ c ih =>
    intro x acc hx hl
    have hlen := allY_len W H m x hW.2 hH.2 H 0 acc
    refine Ev.step (f := fun k => impl_clearWindows.l1 k (W : Int) (H : Int) (m : Int) acc ((x : Nat) : Int) (W : Int) ((x : Nat) : Int) (H : Int) ((0 : Nat) : Int)) (fun k => ?_) (impl_Y hW hH x (by omega) H 0 acc (by omega) (by omega) (ih (x + 1) (allY W H m x H 0 acc) (by omega) (by omega)))
    simp only [impl_clearWindows.l0]
    rw [if_pos (by omega)]
    rfl
def allWin (w h m : Int) : List (List Int) := allX w.toNat h.toNat m w.toNat 0 []
theorem impl_all_ev {w h m : Int} (c : shapeOk w h m = true) : Ev (fun k => impl_clearWindows.f k w h m) (allWin w h m) := by
  obtain ⟨h1, h2, h3, h4, h5, h6, h7, h8⟩ := shapeOk_facts c
  obtain ⟨W, rfl⟩ := Int.eq_ofNat_of_zero_le (a := w) (by omega)
  obtain ⟨H, rfl⟩ := Int.eq_ofNat_of_zero_le (a := h) (by omega)
  exact impl_X (m := m) (by omega) (by omega) W 0 [] (by omega) (by simp; omega)
theorem allWin_len {w h m : Int} (c : shapeOk w h m = true) : (allWin w h m).length ≤ 1296 := by
  obtain ⟨h1, h2, h3, h4, h5, h6, h7, h8⟩ := shapeOk_facts c
  have := allX_len w.toNat h.toNat m (by omega) (by omega) w.toNat 0 []
  simp at this
  unfold allWin
  omega
end Go.Proofs.Ytoildabjnioafaa.PA
/- ClearFor: both texts. -/
namespace Go.Proofs.Ytoildabjnioafaa.PA
open Go.RowKit Go.Proofs.YtoildabjnioafaaW.PrintWords Go.Proofs.YtoildabjnioafaaW.PrintLast Go.Proofs.YtoildabjnioafaaW.PrintMore
set_option linter.unusedVariables false
set_option linter.unusedSimpArgs false
theorem allU_all (Q : List Int → Prop) (W H : Nat) (m : Int) (x y v : Nat) (hq : ∀ u, Q (win4 x y v u)) : ∀ (c u : Nat) (acc : List (List Int)), (∀ l ∈ acc, Q l) → ∀ l ∈ allU W H m x y v c u acc, Q l := by
  intro c
  induction c with
  | zero => intro u acc h; exact h
  | succ c ih =>
    intro u acc h
    simp only [allU]
    refine ih (u + 1) _ ?_
    split
    · intro l hl
      rcases List.mem_append.1 hl with h1 | h1
      · exact h l h1
      · rw [List.mem_singleton.1 h1]; exact hq u
    · exact h
theorem allV_all (Q : List Int → Prop) (W H : Nat) (m : Int) (x y : Nat) (hq : ∀ v u, Q (win4 x y v u)) : ∀ (c v : Nat) (acc : List (List Int)), (∀ l ∈ acc, Q l) → ∀ l ∈ allV W H m x y c v acc, Q l := by
  intro c
  induction c with
  | zero => intro u acc h; exact h
  | succ c ih =>
    intro v acc h
    simp only [allV]
    exact ih (v + 1) _ (allU_all Q W H m x y v (hq v) _ _ _ h)
theorem allY_all (Q : List Int → Prop) (W H : Nat) (m : Int) (x : Nat) (hq : ∀ y v u, Q (win4 x y v u)) : ∀ (c y : Nat) (acc : List (List Int)), (∀ l ∈ acc, Q l) → ∀ l ∈ allY W H m x c y acc, Q l := by
  intro c
  induction c with
  | zero => intro u acc h; exact h
  | succ c ih =>
    intro y acc h
    simp only [allY]
    exact ih (y + 1) _ (allV_all Q W H m x y (hq y) _ _ _ h)
theorem allX_all (Q : List Int → Prop) (W H : Nat) (m : Int) (hq : ∀ x y v u, Q (win4 x y v u)) : ∀ (c x : Nat) (acc : List (List Int)), (∀ l ∈ acc, Q l) → ∀ l ∈ allX W H m c x acc, Q l := by
  intro c
  induction c with
  | zero => intro u acc h; exact h
  | succ c ih =>
    intro x acc h
    simp only [allX]
    exact ih (x + 1) _ (allY_all Q W H m x (hq x) _ _ _ h)
theorem allWin_four (w h m : Int) : ∀ l ∈ allWin w h m, l.length = 4 :=
  allX_all (fun l => l.length = 4) _ _ m (fun _ _ _ _ => rfl) _ _ _ (by simp)
theorem rdL_get {l : List (List Int)} {i : Nat} (h : i < l.length) : rd_L1 l (i : Int) = l[i] := by simp [rd_L1, List.getD_eq_getElem?_getD, h]
def clearForL (v u : Int) : List (List Int) → List Int × Bool
  | [] => ([], false)
  | l :: ls => if rd l 2 = v ∧ rd l 3 = u then (l, true) else clearForL v u ls
def clearFor (w h m v u : Int) : List Int × Bool := if shapeOk w h m then clearForL v u (allWin w h m) else ([], false)
theorem impl_ClearFor_l (v u : Int) (ls : List (List Int)) (hl : ls.length ≤ 1296) (h4 : ∀ l ∈ ls, l.length = 4) : ∀ (d i : Nat), i + d = ls.length → Ev (fun k => impl_ClearFor.l0 k v u ls (ls.length : Int) (i : Int)) (clearForL v u (ls.drop i)) := by
  intro d
  induction d with
  | zero =>
    intro i hi
    refine Ev.step (f := fun _ => some (clearForL v u (ls.drop i))) (fun k => ?_) (Ev.now _)
    simp only [impl_ClearFor.l0]
    rw [if_neg (by omega), List.drop_of_length_le (by omega)]
    rfl
  | succ d ih =>
    intro i hi
    have hlt : i < ls.length := by omega
    have hf := h4 ls[i] (List.getElem_mem hlt)
    rw [List.drop_eq_getElem_cons hlt]
    simp only [clearForL]
    by_cases c : rd ls[i] 2 = v ∧ rd ls[i] 3 = u
    · rw [if_pos c]
      refine Ev.step (f := fun k => some (ls[i], true)) (fun k => ?_) (Ev.now _)
      simp only [impl_ClearFor.l0]
      rw [if_pos (by omega), if_pos (by omega), if_pos (by omega), rdL_get hlt, if_pos (by omega), if_pos c.1, if_pos (by omega), if_pos c.2]
    · rw [if_neg c]
      refine Ev.step (f := fun k => impl_ClearFor.l0 k v u ls (ls.length : Int) ((i + 1 : Nat) : Int)) (fun k => ?_) (ih (i + 1) (by omega))
      simp only [impl_ClearFor.l0]
      rw [if_pos (by omega), if_pos (by omega), if_pos (by omega), rdL_get hlt, if_pos (by omega), w64 (by omega) (by omega)]
      by_cases c1 : rd ls[i] 2 = v
      · rw [if_pos c1, if_pos (by omega), if_neg (fun z => c ⟨c1, z⟩)]
        rfl
      · rw [if_neg c1]
        rfl
theorem impl_ClearFor_ev (w h m v u : Int) : Ev (fun k => impl_ClearFor.f k w h m v u) (clearFor w h m v u) := by
  unfold impl_ClearFor.f clearFor
  refine Ev.bind (ev_const (impl_ShapeOk_eq w h m)) ?_
  by_cases c : shapeOk w h m = true
  · rw [if_pos c]
    refine Ev.congr (fun k => if_pos c) ?_
    exact Ev.bind (impl_all_ev c) (impl_ClearFor_l v u _ (allWin_len c) (allWin_four w h m) (allWin w h m).length 0 (by omega))
  · rw [if_neg c]
    exact Ev.congr (fun k => if_neg c) (Ev.now _)
end Go.Proofs.Ytoildabjnioafaa.PA
/- GreatestClear: both texts. -/
namespace Go.Proofs.Ytoildabjnioafaa.PA
open Go.RowKit Go.Proofs.YtoildabjnioafaaW.PrintWords Go.Proofs.YtoildabjnioafaaW.PrintLast Go.Proofs.YtoildabjnioafaaW.PrintMore
set_option linter.unusedVariables false
set_option linter.unusedSimpArgs false
theorem mem_allU (W H : Nat) (m : Int) (x y v : Nat) (l : List Int) : ∀ (c u : Nat) (acc : List (List Int)), l ∈ allU W H m x y v c u acc ↔ l ∈ acc ∨ ∃ u', u ≤ u' ∧ u' < u + c ∧ clearB W H m (win4 x y v u') = true ∧ l = win4 x y v u' := by
  intro c
  induction c with
  | zero =>
    intro u acc
    simp only [allU]
    constructor
    · exact fun h => .inl h
    · rintro (h | ⟨u', h1, h2, _⟩)
      · exact h
      · omega
  | succ c ih =>
    intro u acc
    simp only [allU]
    rw [ih]
    by_cases hc : clearB W H m (win4 x y v u) = true
    · rw [if_pos hc]
      constructor
      · rintro (h | ⟨u', h1, h2, h3, h4⟩)
        · rcases List.mem_append.1 h with h | h
          · exact .inl h
          · exact .inr ⟨u, Nat.le_refl _, by omega, hc, by simpa using h⟩
        · exact .inr ⟨u', by omega, by omega, h3, h4⟩
      · rintro (h | ⟨u', h1, h2, h3, h4⟩)
        · exact .inl (List.mem_append_left _ h)
        · by_cases e : u' = u
          · subst e
            exact .inl (List.mem_append_right _ (by rw [h4]; exact List.mem_singleton.2 rfl))
          · exact .inr ⟨u', by omega, by omega, h3, h4⟩
    · rw [if_neg hc]
      constructor
      · rintro (h | ⟨u', h1, h2, h3, h4⟩)
        · exact .inl h
        · exact .inr ⟨u', by omega, by omega, h3, h4⟩
      · rintro (h | ⟨u', h1, h2, h3, h4⟩)
        · exact .inl h
        · by_cases e : u' = u
          · subst e
            exact absurd h3 hc
          · exact .inr ⟨u', by omega, by omega, h3, h4⟩
theorem mem_allV (W H : Nat) (m : Int) (x y : Nat) (l : List Int) : ∀ (c v : Nat) (acc : List (List Int)), l ∈ allV W H m x y c v acc ↔ l ∈ acc ∨ ∃ v' u', v ≤ v' ∧ v' < v + c ∧ 1 ≤ u' ∧ u' < 1 + (H - y) ∧ clearB W H m (win4 x y v' u') = true ∧ l = win4 x y v' u' := by
  intro c
  induction c with
  | zero =>
    intro v acc
    simp only [allV]
    constructor
    · exact fun h => .inl h
    · rintro (h | ⟨v', u', h1, h2, _⟩)
      · exact h
      · omega
  | succ c ih =>
    intro v acc
    simp only [allV]
    rw [ih, mem_allU]
    constructor
    · rintro ((h | ⟨u', h1, h2, h3, h4⟩) | ⟨v', u', h1, h2, h3⟩)
      · exact .inl h
      · exact .inr ⟨v, u', Nat.le_refl _, by omega, h1, h2, h3, h4⟩
      · exact .inr ⟨v', u', by omega, by omega, h3⟩
    · rintro (h | ⟨v', u', h1, h2, h3, h4, h5, h6⟩)
      · exact .inl (.inl h)
      · by_cases e : v' = v
        · subst e
          exact .inl (.inr ⟨u', h3, h4, h5, h6⟩)
        · exact .inr ⟨v', u', by omega, by omega, h3, h4, h5, h6⟩
theorem mem_allY (W H : Nat) (m : Int) (x : Nat) (l : List Int) : ∀ (c y : Nat) (acc : List (List Int)), l ∈ allY W H m x c y acc ↔ l ∈ acc ∨ ∃ y' v' u', y ≤ y' ∧ y' < y + c ∧ 1 ≤ v' ∧ v' < 1 + (W - x) ∧ 1 ≤ u' ∧ u' < 1 + (H - y') ∧ clearB W H m (win4 x y' v' u') = true ∧ l = win4 x y' v' u' := by
  intro c
  induction c with
  | zero =>
    intro y acc
    simp only [allY]
    constructor
    · exact fun h => .inl h
    · rintro (h | ⟨y', v', u', h1, h2, _⟩)
      · exact h
      · omega
  | succ c ih =>
    intro y acc
    simp only [allY]
    rw [ih, mem_allV]
    constructor
    · rintro ((h | ⟨v', u', h1, h2, h3⟩) | ⟨y', v', u', h1, h2, h3⟩)
      · exact .inl h
      · exact .inr ⟨y, v', u', Nat.le_refl _, by omega, h1, h2, h3⟩
      · exact .inr ⟨y', v', u', by omega, by omega, h3⟩
    · rintro (h | ⟨y', v', u', h1, h2, h3, h4, h5⟩)
      · exact .inl (.inl h)
      · by_cases e : y' = y
        · subst e
          exact .inl (.inr ⟨v', u', h3, h4, h5⟩)
        · exact .inr ⟨y', v', u', by omega, by omega, h3, h4, h5⟩
theorem mem_allX (W H : Nat) (m : Int) (l : List Int) : ∀ (c x : Nat) (acc : List (List Int)), l ∈ allX W H m c x acc ↔ l ∈ acc ∨ ∃ x' y' v' u', x ≤ x' ∧ x' < x + c ∧ y' < H ∧ 1 ≤ v' ∧ v' < 1 + (W - x') ∧ 1 ≤ u' ∧ u' < 1 + (H - y') ∧ clearB W H m (win4 x' y' v' u') = true ∧ l = win4 x' y' v' u' := by
  intro c
  induction c with
  | zero =>
    intro x acc
    simp only [allX]
    constructor
    · exact fun h => .inl h
    · rintro (h | ⟨x', y', v', u', h1, h2, _⟩)
      · exact h
      · omega
  | succ c ih =>
    intro x acc
    simp only [allX]
    rw [ih, mem_allY]
    constructor
    · rintro ((h | ⟨y', v', u', h1, h2, h3⟩) | ⟨x', y', v', u', h1, h2, h3⟩)
      · exact .inl h
      · exact .inr ⟨x, y', v', u', Nat.le_refl _, by omega, by omega, h3⟩
      · exact .inr ⟨x', y', v', u', by omega, by omega, h3⟩
    · rintro (h | ⟨x', y', v', u', h1, h2, h3, h4⟩)
      · exact .inl (.inl h)
      · by_cases e : x' = x
        · subst e
          exact .inl (.inr ⟨y', v', u', by omega, by omega, h4⟩)
        · exact .inr ⟨x', y', v', u', by omega, by omega, h3, h4⟩
theorem mem_allWin {w h m : Int} {l : List Int} : l ∈ allWin w h m ↔ ∃ x y v u : Nat, x < w.toNat ∧ y < h.toNat ∧ 1 ≤ v ∧ x + v ≤ w.toNat ∧ 1 ≤ u ∧ y + u ≤ h.toNat ∧ clearB (w.toNat : Int) (h.toNat : Int) m (win4 x y v u) = true ∧ l = win4 x y v u := by
  unfold allWin
  rw [mem_allX]
  constructor
  · rintro (h | ⟨x, y, v, u, h1, h2, h3, h4, h5, h6, h7, h8⟩)
    · simp at h
    · exact ⟨x, y, v, u, by omega, h3, h4, by omega, h6, by omega, h8⟩
  · rintro ⟨x, y, v, u, h1, h2, h3, h4, h5, h6, h7⟩
    exact .inr ⟨x, y, v, u, by omega, by omega, h2, h3, by omega, h5, by omega, h7⟩
def prodW (a : List Int) : Int := wrap64 (rd a 2 * rd a 3)
theorem allWin_all (w h m : Int) : allFour (allWin w h m) = true := by
  unfold allFour
  rw [List.all_eq_true]
  intro r hr
  exact decide_eq_true (allWin_four w h m r hr)
def greatest (w h m : Int) : List Int × Bool := if shapeOk w h m then finI (bestI (allWin w h m) none) else ([], false)
theorem impl_Greatest_ev (w h m : Int) : Ev (fun k => impl_GreatestClear.f k w h m) (greatest w h m) := by
  unfold impl_GreatestClear.f greatest
  rw [impl_ShapeOk_eq]
  by_cases c : shapeOk w h m = true
  · exact ev_eq (Ev.congr (fun k => by rw [Option.bind_some, if_pos c]) (Ev.bind (impl_all_ev c) (Ev.congr (fun k => if_pos (allWin_all w h m)) (Ev.now _)))) (if_pos c).symm
  · exact ev_eq (Ev.congr (fun k => by rw [Option.bind_some, if_neg c]) (Ev.now _)) (if_neg c).symm
end Go.Proofs.Ytoildabjnioafaa.PA
/- CutCloth: both texts. -/
namespace Go.Proofs.Ytoildabjnioafaa.PA
open Go.RowKit Go.Proofs.YtoildabjnioafaaW.PrintWords Go.Proofs.YtoildabjnioafaaW.PrintLast Go.Proofs.YtoildabjnioafaaW.PrintMore
set_option linter.unusedVariables false
set_option linter.unusedSimpArgs false
def cutOf (w h : Int) (l : List Int) : List (List Int) := if winOk w h l = true then (cutRows w h l).filter cutGood else []
theorem win_len {w h : Int} {l : List Int} (c : winOk w h l = true) : l.length = 4 := by
  unfold winOk at c
  simp only [decide_eq_true_eq] at c
  omega
theorem impl_Cut_ev (w h : Int) (l : List Int) : Ev (fun _ => impl_CutCloth.f w h l) (cutOf w h l) := by
  refine ev_const ?_
  unfold impl_CutCloth.f cutOf
  rw [impl_WindowOk_eq, Option.bind_some]
  by_cases c : winOk w h l = true
  · rw [if_pos c, if_pos (by have := win_len c; omega), if_pos c]
  · rw [if_neg c, if_neg c]
theorem cutGood_iff (r : List Int) : cutGood r = true ↔ rd r 2 > 0 ∧ rd r 3 > 0 := by
  unfold cutGood
  rw [Bool.and_eq_true, decide_eq_true_iff, decide_eq_true_iff]
end Go.Proofs.Ytoildabjnioafaa.PA
/- FnFlaws: bits, windows, cuts. -/
namespace Go.Proofs.Ytoildabjnioafaa.PA
open Go.RowKit Go.Proofs.YtoildabjnioafaaW.PrintWords Go.Proofs.YtoildabjnioafaaW.PrintLast Go.Proofs.YtoildabjnioafaaW.PrintMore
set_option linter.unusedVariables false
set_option linter.unusedSimpArgs false
/-- The number of bits among the first n. -/
def popC : Nat → Nat → Nat
  | 0, _ => 0
  | n + 1, m => m % 2 + popC n (m / 2)
theorem popC_zero : ∀ n, popC n 0 = 0 := by
  intro n
  induction n with
  | zero => rfl
  | succ n ih => simp only [popC]; rw [Nat.zero_div, ih]
theorem popC_le : ∀ (n m : Nat), popC n m ≤ n := by
  intro n
  induction n with
  | zero => intro m; exact Nat.le_refl _
  | succ n ih => intro m; simp only [popC]; have := ih (m / 2); omega
theorem popC_lt : ∀ (n m : Nat), popC n m < n ↔ ∃ i, i < n ∧ m.testBit i = false := by
  intro n
  induction n with
  | zero => intro m; simp [popC]
  | succ n ih =>
    intro m
    simp only [popC]
    have h1 := ih (m / 2)
    have h2 := popC_le n (m / 2)
    constructor
    · intro h
      rcases Nat.mod_two_eq_zero_or_one m with e | e
      · exact ⟨0, by omega, by rw [Nat.testBit_zero, e]; rfl⟩
      · obtain ⟨i, hi, hb⟩ := h1.1 (by omega)
        exact ⟨i + 1, by omega, by rw [Nat.testBit_succ]; exact hb⟩
    · rintro ⟨i, hi, hb⟩
      cases i with
      | zero =>
        rw [Nat.testBit_zero] at hb
        have : ¬ m % 2 = 1 := of_decide_eq_false hb
        omega
      | succ i =>
        rw [Nat.testBit_succ] at hb
        have := h1.2 ⟨i, by omega, hb⟩
        omega
theorem popC_add : ∀ (n e m : Nat), e < n → m.testBit e = false → popC n (m + 2 ^ e) = popC n m + 1 := by
  intro n
  induction n with
  | zero => intro e m h; omega
  | succ n ih =>
    intro e m he hb
    simp only [popC]
    cases e with
    | zero =>
      rw [Nat.testBit_zero] at hb
      have h1 : ¬ m % 2 = 1 := of_decide_eq_false hb
      have e1 : (m + 2 ^ 0) % 2 = 1 := by rw [Nat.pow_zero]; omega
      have e2 : (m + 2 ^ 0) / 2 = m / 2 := by rw [Nat.pow_zero]; omega
      rw [e1, e2]
      omega
    | succ e =>
      rw [Nat.testBit_succ] at hb
      have hp : 2 ^ (e + 1) = 2 * 2 ^ e := by rw [Nat.pow_succ, Nat.mul_comm]
      have e1 : (m + 2 ^ (e + 1)) % 2 = m % 2 := by rw [hp]; omega
      have e2 : (m + 2 ^ (e + 1)) / 2 = m / 2 + 2 ^ e := by rw [hp]; omega
      rw [e1, e2, ih e (m / 2) (by omega) hb]
      omega
theorem and1_nat (m : Nat) (h : m < 2 ^ 36) : Go.bits .and .i64 (m : Int) 1 = ((m % 2 : Nat) : Int) := by
  have := and_nat m 1 (by omega) (by omega)
  rw [Nat.and_one_is_mod] at this
  exact this
theorem cells_l : ∀ (n m a : Nat), n ≤ 36 → m < 2 ^ n → a + n ≤ 100 → Ev (fun k => laws_cells.l0 k (m : Int) (a : Int)) ((a + popC n m : Nat) : Int) := by
  intro n
  induction n with
  | zero =>
    intro m a _ hm _
    have : m = 0 := by simpa using hm
    subst this
    refine Ev.step (f := fun _ => some (a : Int)) (fun k => ?_) (Ev.now _)
    simp only [laws_cells.l0]
    rw [if_neg (by omega)]
  | succ n ih =>
    intro m a hn hm ha
    by_cases c : m = 0
    · subst c
      rw [popC_zero]
      refine Ev.step (f := fun _ => some (a : Int)) (fun k => ?_) (Ev.now _)
      simp only [laws_cells.l0]
      rw [if_neg (by omega)]
    · have hm36 : m < 2 ^ 36 := Nat.lt_of_lt_of_le hm (Nat.pow_le_pow_right (by omega) hn)
      have hd : m / 2 < 2 ^ n := by rw [Nat.pow_succ] at hm; omega
      have e := ih (m / 2) (a + m % 2) (by omega) hd (by omega)
      rw [show a + m % 2 + popC n (m / 2) = a + popC (n + 1) m by simp only [popC]; omega] at e
      refine Ev.step (f := fun k => laws_cells.l0 k ((m / 2 : Nat) : Int) ((a + m % 2 : Nat) : Int)) (fun k => ?_) e
      simp only [laws_cells.l0]
      rw [if_pos (by omega), and1_nat m hm36, w64 (by omega) (by omega)]
      congr 1
theorem cells_ev (n m : Nat) (hn : n ≤ 36) (hm : m < 2 ^ n) : Ev (fun k => laws_cells.f k (m : Int)) ((popC n m : Nat) : Int) := by
  have := cells_l n m 0 hn hm (by omega)
  unfold laws_cells.f
  exact ev_eq this (by simp)
/-- A window's mask. -/
def winM (W X Y V U : Nat) : Nat := rowsM W V (Y * W + X) U 0
def inWin (W H X Y V U : Nat) : Bool := decide (1 ≤ V ∧ 1 ≤ U ∧ X + V ≤ W ∧ Y + U ≤ H)
/-- For all windows of all cloths of at most five by five. -/
def forWins (P : Nat → Nat → Nat → Nat → Nat → Nat → Bool) : Bool :=
  (List.range 6).all fun W => (List.range 6).all fun H => (List.range W).all fun X => (List.range H).all fun Y => (List.range 6).all fun V => (List.range 6).all fun U => !inWin W H X Y V U || P W H X Y V U
theorem forWins_at {P : Nat → Nat → Nat → Nat → Nat → Nat → Bool} (h : forWins P = true) {W H X Y V U : Nat} (hW : W < 6) (hH : H < 6) (c : inWin W H X Y V U = true) : P W H X Y V U = true := by
  unfold forWins at h
  have c2 := of_decide_eq_true c
  have h1 := List.all_eq_true.1 h W (List.mem_range.2 hW)
  have h2 := List.all_eq_true.1 h1 H (List.mem_range.2 hH)
  have h3 := List.all_eq_true.1 h2 X (List.mem_range.2 (by omega))
  have h4 := List.all_eq_true.1 h3 Y (List.mem_range.2 (by omega))
  have h5 := List.all_eq_true.1 h4 V (List.mem_range.2 (by omega))
  have h6 := List.all_eq_true.1 h5 U (List.mem_range.2 (by omega))
  rw [c] at h6
  simpa using h6
def maskP (W H X Y V U : Nat) : Bool := decide (popC (W * H) (winM W X Y V U) = V * U) && (winM W X Y V U).testBit (Y * W + X) && decide (winM W X Y V U < 2 ^ (W * H)) && decide (winM W X Y 1 1 = 2 ^ (Y * W + X))
set_option maxRecDepth 100000 in
theorem maskP_all : forWins maskP = true := by decide +kernel
theorem winM_all {W H X Y V U : Nat} (hW : W < 6) (hH : H < 6) (c : inWin W H X Y V U = true) : popC (W * H) (winM W X Y V U) = V * U ∧ (winM W X Y V U).testBit (Y * W + X) = true ∧ winM W X Y V U < 2 ^ (W * H) ∧ winM W X Y 1 1 = 2 ^ (Y * W + X) := by
  have h := forWins_at maskP_all hW hH c
  unfold maskP at h
  simp only [Bool.and_eq_true, decide_eq_true_iff] at h
  exact ⟨h.1.1.1, h.1.1.2, h.1.2, h.2⟩
/-- The cloth that is left, put to a mask. -/
def cutPut (W : Nat) (all : Option Nat) (r : Nat × Nat × Nat × Nat) : Option Nat :=
  if 1 ≤ r.2.2.1 ∧ 1 ≤ r.2.2.2 then all.bind fun a => (if 0 < winM W r.1 r.2.1 r.2.2.1 r.2.2.2 ∧ a &&& winM W r.1 r.2.1 r.2.2.1 r.2.2.2 = 0 then some (a ||| winM W r.1 r.2.1 r.2.2.1 r.2.2.2) else none) else all
def cutFour (W H X Y V U : Nat) : List (Nat × Nat × Nat × Nat) := [(0, 0, W, Y), (0, Y, X, U), (X + V, Y, W - X - V, U), (0, Y + U, W, H - Y - U)]
def cutP (W H X Y V U : Nat) : Bool := decide ((cutFour W H X Y V U).foldl (cutPut W) (some (winM W X Y V U)) = some (2 ^ (W * H) - 1))
set_option maxRecDepth 100000 in
theorem cutP_all : forWins cutP = true := by decide +kernel
theorem cut_all {W H X Y V U : Nat} (hW : W < 6) (hH : H < 6) (c : inWin W H X Y V U = true) : (cutFour W H X Y V U).foldl (cutPut W) (some (winM W X Y V U)) = some (2 ^ (W * H) - 1) := of_decide_eq_true (forWins_at cutP_all hW hH c)
/-- All windows, none left out. -/
def tellU (x y v : Nat) : Nat → Nat → List (List Int) → List (List Int)
  | 0, _, acc => acc
  | c + 1, u, acc => tellU x y v c (u + 1) (acc ++ [win4 x y v u])
def tellV (H x y : Nat) : Nat → Nat → List (List Int) → List (List Int)
  | 0, _, acc => acc
  | c + 1, v, acc => tellV H x y c (v + 1) (tellU x y v (H - y) 1 acc)
def tellY (W H x : Nat) : Nat → Nat → List (List Int) → List (List Int)
  | 0, _, acc => acc
  | c + 1, y, acc => tellY W H x c (y + 1) (tellV H x y (W - x) 1 acc)
def tellX (W H : Nat) : Nat → Nat → List (List Int) → List (List Int)
  | 0, _, acc => acc
  | c + 1, x, acc => tellX W H c (x + 1) (tellY W H x H 0 acc)
theorem allU_filter (W H : Nat) (m : Int) (x y v : Nat) : ∀ (c u : Nat) (acc : List (List Int)), allU W H m x y v c u (acc.filter (clearB W H m)) = (tellU x y v c u acc).filter (clearB W H m) := by
  intro c
  induction c with
  | zero => intro u acc; rfl
  | succ c ih =>
    intro u acc
    simp only [allU, tellU]
    rw [← ih, List.filter_append]
    congr 1
    simp only [List.filter_cons, List.filter_nil]
    split <;> simp
theorem allV_filter (W H : Nat) (m : Int) (x y : Nat) : ∀ (c v : Nat) (acc : List (List Int)), allV W H m x y c v (acc.filter (clearB W H m)) = (tellV H x y c v acc).filter (clearB W H m) := by
  intro c
  induction c with
  | zero => intro u acc; rfl
  | succ c ih => intro u acc; simp only [allV, tellV]; rw [← ih, allU_filter]
theorem allY_filter (W H : Nat) (m : Int) (x : Nat) : ∀ (c y : Nat) (acc : List (List Int)), allY W H m x c y (acc.filter (clearB W H m)) = (tellY W H x c y acc).filter (clearB W H m) := by
  intro c
  induction c with
  | zero => intro u acc; rfl
  | succ c ih => intro u acc; simp only [allY, tellY]; rw [← ih, allV_filter]
theorem allX_filter (W H : Nat) (m : Int) : ∀ (c x : Nat) (acc : List (List Int)), allX W H m c x (acc.filter (clearB W H m)) = (tellX W H c x acc).filter (clearB W H m) := by
  intro c
  induction c with
  | zero => intro u acc; rfl
  | succ c ih => intro u acc; simp only [allX, tellX]; rw [← ih, allY_filter]
def tells (W H : Nat) : List (List Int) := tellX W H W 0 []
theorem allWin_filter (W H : Nat) (m : Int) : allWin W H m = (tells W H).filter (clearB W H m) := by
  unfold allWin tells
  rw [Int.toNat_natCast, Int.toNat_natCast]
  exact allX_filter W H m W 0 []
set_option maxRecDepth 100000 in
theorem tells_len : ∀ W, W < 6 → ∀ H, H < 6 → (tells W H).length = (W * (W + 1) / 2) * (H * (H + 1) / 2) := by
  decide +kernel
theorem clearB_zero (w h : Int) (l : List Int) : clearB w h 0 l = true := by
  unfold clearB
  obtain ⟨n, e, hn⟩ := maskI_nat w h l
  rw [e, decide_eq_true_iff]
  have := and_nat n 0 (by omega) (by omega)
  rw [Nat.and_zero] at this
  exact this
theorem filter_less {α : Type} (p q : α → Bool) : ∀ l : List α, (∀ a ∈ l, q a = true → p a = true) → (l.filter q).length ≤ (l.filter p).length ∧ ((∃ a ∈ l, p a = true ∧ q a = false) → (l.filter q).length < (l.filter p).length) := by
  intro l
  induction l with
  | nil => intro _; exact ⟨Nat.le_refl _, fun ⟨a, h, _⟩ => by simp at h⟩
  | cons a l ih =>
    intro h
    obtain ⟨h1, h2⟩ := ih (fun b hb => h b (List.mem_cons_of_mem _ hb))
    have h3 := h a List.mem_cons_self
    simp only [List.filter_cons]
    cases hq : q a with
    | true =>
      rw [h3 hq]
      simp only [if_true, List.length_cons]
      refine ⟨by omega, ?_⟩
      rintro ⟨b, hb, hp, hq2⟩
      rcases List.mem_cons.1 hb with rfl | hb
      · rw [hq] at hq2; cases hq2
      · have := h2 ⟨b, hb, hp, hq2⟩; omega
    | false =>
      cases hp : p a with
      | true =>
        simp only [if_true, Bool.false_eq_true, if_false, List.length_cons]
        exact ⟨by omega, fun _ => by omega⟩
      | false =>
        simp only [Bool.false_eq_true, if_false]
        refine ⟨h1, ?_⟩
        rintro ⟨b, hb, hp2, hq2⟩
        rcases List.mem_cons.1 hb with rfl | hb
        · rw [hp] at hp2; cases hp2
        · exact h2 ⟨b, hb, hp2, hq2⟩
theorem bestI_some : ∀ (ls : List (List Int)) (b : List Int), ∃ g, bestI ls (some b) = some g ∧ prodW b ≤ prodW g ∧ (∀ a ∈ ls, prodW a ≤ prodW g) ∧ (g = b ∨ (prodW b < prodW g ∧ ∃ l1 l2, ls = l1 ++ g :: l2 ∧ ∀ a ∈ l1, prodW a < prodW g)) := by
  intro ls
  induction ls with
  | nil => intro b; exact ⟨b, rfl, by omega, by simp, .inl rfl⟩
  | cons a ls ih =>
    intro b
    simp only [bestI]
    by_cases c : wrap64 (rd b 2 * rd b 3) < wrap64 (rd a 2 * rd a 3)
    · rw [if_pos c]
      obtain ⟨g, e, h1, h2, h3⟩ := ih a
      have c' : prodW b < prodW a := c
      refine ⟨g, e, by omega, fun x hx => (List.mem_cons.1 hx).elim (fun z => by rw [z]; exact h1) (h2 x), .inr ⟨by omega, ?_⟩⟩
      rcases h3 with rfl | ⟨h4, l1, l2, e2, h5⟩
      · exact ⟨[], ls, rfl, by simp⟩
      · exact ⟨a :: l1, l2, by rw [e2]; rfl, fun x hx => (List.mem_cons.1 hx).elim (fun z => by rw [z]; exact h4) (h5 x)⟩
    · rw [if_neg c]
      obtain ⟨g, e, h1, h2, h3⟩ := ih b
      have c' : prodW a ≤ prodW b := by unfold prodW; omega
      refine ⟨g, e, h1, fun x hx => (List.mem_cons.1 hx).elim (fun z => by rw [z]; omega) (h2 x), ?_⟩
      rcases h3 with rfl | ⟨h4, l1, l2, e2, h5⟩
      · exact .inl rfl
      · exact .inr ⟨h4, a :: l1, l2, by rw [e2]; rfl, fun x hx => (List.mem_cons.1 hx).elim (fun z => by rw [z]; omega) (h5 x)⟩
theorem best_none (ls : List (List Int)) : (finI (bestI ls none)).2 = decide (0 < ls.length) ∧ (0 < ls.length → ∃ g l1 l2, finI (bestI ls none) = (g, true) ∧ ls = l1 ++ g :: l2 ∧ (∀ a ∈ l1, prodW a < prodW g) ∧ ∀ a ∈ ls, prodW a ≤ prodW g) := by
  cases ls with
  | nil => exact ⟨rfl, fun h => by simp at h⟩
  | cons a ls =>
    obtain ⟨g, e, h1, h2, h3⟩ := bestI_some ls a
    have eb : bestI (a :: ls) none = some g := e
    rw [eb]
    refine ⟨by show true = decide (0 < (a :: ls).length); simp, fun _ => ?_⟩
    have hall : ∀ x ∈ a :: ls, prodW x ≤ prodW g := fun x hx => (List.mem_cons.1 hx).elim (fun z => by rw [z]; exact h1) (h2 x)
    rcases h3 with rfl | ⟨h4, l1, l2, e2, h5⟩
    · exact ⟨g, [], ls, Eq.refl (g, true), rfl, (fun x hx => by simp at hx), hall⟩
    · exact ⟨g, a :: l1, l2, Eq.refl (g, true), by rw [e2]; rfl, fun x hx => (List.mem_cons.1 hx).elim (fun z => by rw [z]; exact h4) (h5 x), hall⟩
theorem clearForL_first (g : List Int) : ∀ (l1 l2 : List (List Int)), (∀ a ∈ l1, prodW a < prodW g) → clearForL (rd g 2) (rd g 3) (l1 ++ g :: l2) = (g, true) := by
  intro l1
  induction l1 with
  | nil => intro l2 _; rw [List.nil_append, clearForL, if_pos ⟨rfl, rfl⟩]
  | cons a l1 ih =>
    intro l2 h
    simp only [List.cons_append, clearForL]
    have ha := h a List.mem_cons_self
    rw [if_neg (fun z => by unfold prodW at ha; rw [z.1, z.2] at ha; omega)]
    exact ih l2 (fun x hx => h x (List.mem_cons_of_mem _ hx))
end Go.Proofs.Ytoildabjnioafaa.PA
/- the reader of draws -/
namespace Go.Proofs.Ytoildabjnioafaa.PA
open Go.RowKit Go.Proofs.YtoildabjnioafaaW.PrintWords Go.Proofs.YtoildabjnioafaaW.PrintLast Go.Proofs.YtoildabjnioafaaW.PrintMore
set_option linter.unusedVariables false
set_option linter.unusedSimpArgs false
theorem and255 (x : Int) : 0 ≤ Go.bits .and .i64 x 255 ∧ Go.bits .and .i64 x 255 ≤ 255 := by
  unfold Go.bits
  have h : (BitVec.ofInt IntKind.i64.bits x &&& BitVec.ofInt IntKind.i64.bits 255).toNat ≤ 255 := by
    rw [BitVec.toNat_and]
    exact Nat.le_trans Nat.and_le_right (by decide)
  show 0 ≤ IntKind.i64.wrap ((BitVec.ofInt IntKind.i64.bits x &&& BitVec.ofInt IntKind.i64.bits 255).toNat : Int) ∧ IntKind.i64.wrap ((BitVec.ofInt IntKind.i64.bits x &&& BitVec.ofInt IntKind.i64.bits 255).toNat : Int) ≤ 255
  generalize (BitVec.ofInt IntKind.i64.bits x &&& BitVec.ofInt IntKind.i64.bits 255).toNat = n at *
  rw [IntKind.wrap_i64]
  omega
theorem byte_some (x : List Int) (i h : Int) (hx : x.length ≤ 1048576) (h0 : 0 ≤ i) (h1 : i ≤ (x.length : Int)) : ∃ b i' h', spec_l01Byte.f x i h = some (b, i', h') ∧ (0 ≤ b ∧ b ≤ 255) ∧ (0 ≤ i' ∧ i' ≤ (x.length : Int)) := by
  unfold spec_l01Byte.f
  by_cases c : i < (x.length : Int)
  · rw [if_pos c, if_pos h0]
    exact ⟨_, _, _, rfl, and255 _, by rw [w64 (by omega) (by omega)]; omega⟩
  · rw [if_neg c]
    exact ⟨_, _, _, rfl, and255 _, h0, h1⟩
theorem below_some (x : List Int) (i h n : Int) (hx : x.length ≤ 1048576) (h0 : 0 ≤ i) (h1 : i ≤ (x.length : Int)) (n0 : 1 ≤ n) (n1 : n ≤ 256) : ∃ v i' h', spec_l01Below.f x i h n = some (v, i', h') ∧ (0 ≤ v ∧ v < n) ∧ (0 ≤ i' ∧ i' ≤ (x.length : Int)) := by
  obtain ⟨b, i', h', e, hb, hi⟩ := byte_some x i h hx h0 h1
  refine ⟨Int.tmod b n, i', h', ?_, ?_, hi⟩
  · unfold spec_l01Below.f
    rw [if_neg (by omega), if_pos n1, e]
    simp only [Option.bind_some]
    rw [if_neg (by omega)]
  · rw [Int.tmod_eq_emod_of_nonneg hb.1]
    exact ⟨Int.emod_nonneg _ (by omega), Int.emod_lt_of_pos _ (by omega)⟩
theorem new_ev (x : List Int) (hx : x.length ≤ 1048576) : ∃ h, Ev (fun k => spec_l01New.f k x) (x, 0, h) := by
  have go : ∀ (m i : Nat) (a : Int), i + m = 4000 → ∃ h, Ev (fun k => spec_l01New.l0 k x a (i : Int)) (x, 0, h) := by
    intro m
    induction m with
    | zero =>
      intro i a hi
      refine ⟨a, Ev.step (f := fun _ => some (x, 0, a)) (fun k => ?_) (Ev.now _)⟩
      simp only [spec_l01New.l0]
      by_cases c : (i : Int) < (x.length : Int)
      · rw [if_pos c, if_neg (by omega)]
      · rw [if_neg c]
    | succ m ih =>
      intro i a hi
      by_cases c : (i : Int) < (x.length : Int)
      · obtain ⟨h, hh⟩ := ih (i + 1) (Go.bits .and .i64 (wrap64 ((wrap64 ((wrap64 (a * 179)) + (wrap64 (rd x (i : Int))))) + 7)) 1073741823) (by omega)
        refine ⟨h, Ev.step (f := fun k => spec_l01New.l0 k x (Go.bits .and .i64 (wrap64 ((wrap64 ((wrap64 (a * 179)) + (wrap64 (rd x (i : Int))))) + 7)) 1073741823) ((i + 1 : Nat) : Int)) (fun k => ?_) hh⟩
        simp only [spec_l01New.l0]
        rw [if_pos c, if_pos (by omega), if_pos (by omega), w64 (x := (i : Int) + 1) (by omega) (by omega)]
        rfl
      · refine ⟨a, Ev.step (f := fun _ => some (x, 0, a)) (fun k => ?_) (Ev.now _)⟩
        simp only [spec_l01New.l0]
        rw [if_neg c]
  obtain ⟨h, hh⟩ := go 4000 0 (wrap64 (2173 + (x.length : Int))) (by omega)
  exact ⟨h, hh⟩
theorem l31_ev (x : List Int) (hx : x.length ≤ 1048576) (n : Nat) (hn : n ≤ 1000) : ∃ i h, Ev (fun k => spec_l31New.f k x (n : Int)) (x, i, h) ∧ 0 ≤ i ∧ i ≤ (x.length : Int) := by
  obtain ⟨h0, e0⟩ := new_ev x hx
  have go : ∀ (m j : Nat) (i h : Int), j + m = n → 0 ≤ i → i ≤ (x.length : Int) → ∃ i' h', Ev (fun k => spec_l31New.l0 k x i h (n : Int) (j : Int)) (x, i', h') ∧ 0 ≤ i' ∧ i' ≤ (x.length : Int) := by
    intro m
    induction m with
    | zero =>
      intro j i h hj a b
      refine ⟨i, h, Ev.step (f := fun _ => some (x, i, h)) (fun k => ?_) (Ev.now _), a, b⟩
      simp only [spec_l31New.l0]
      rw [if_neg (by omega)]
    | succ m ih =>
      intro j i h hj a b
      obtain ⟨bb, i', h', e, _, hi⟩ := byte_some x i h hx a b
      obtain ⟨i2, h2, e2, g2⟩ := ih (j + 1) i' h' (by omega) hi.1 hi.2
      refine ⟨i2, h2, Ev.step (f := fun k => spec_l31New.l0 k x i' h' (n : Int) ((j + 1 : Nat) : Int)) (fun k => ?_) e2, g2⟩
      simp only [spec_l31New.l0]
      rw [if_pos (by omega), e]
      simp only [Option.bind_some]
      rw [w64 (by omega) (by omega)]
      rfl
  obtain ⟨i, h, e, g⟩ := go n 0 0 h0 (by omega) (by omega) (by omega)
  refine ⟨i, h, ?_, g⟩
  unfold spec_l31New.f
  exact Ev.bind e0 e
theorem size_ev (x : List Int) (hx : x.length ≤ 1048576) (n low high : Nat) (hn : n ≤ 1000) (h1 : low ≤ high) (h2 : high ≤ low + 98) (h3 : high ≤ 1000000) : ∃ v, Ev (fun k => spec_MakeSize.f k x (n : Int) (low : Int) (high : Int)) v ∧ (low : Int) ≤ v ∧ v ≤ (high : Int) := by
  obtain ⟨i, h, e, a, b⟩ := l31_ev x hx n hn
  obtain ⟨v, i', h', e2, hv, _⟩ := below_some x i h ((high : Int) - low + 1) hx a b (by omega) (by omega)
  have last : ∀ (m : Nat) (c : Int) (d : Nat), c = (low : Int) + d → d + m = v.toNat → Ev (fun k => spec_MakeSize.l1 k c (m : Int)) ((low : Int) + v) := by
    intro m
    induction m with
    | zero =>
      intro c d hc hd
      refine Ev.step (f := fun _ => some c) (fun k => ?_) (ev_eq (Ev.now _) (by omega))
      simp only [spec_MakeSize.l1]
      rw [if_neg (by omega)]
    | succ m ih =>
      intro c d hc hd
      refine Ev.step (f := fun k => spec_MakeSize.l1 k (c + 1) (m : Int)) (fun k => ?_) (ih (c + 1) (d + 1) (by omega) (by omega))
      simp only [spec_MakeSize.l1]
      rw [if_pos (by omega), w64 (x := c + 1) (by omega) (by omega), w64 (by omega) (by omega)]
      congr 1
      omega
  have mid : Ev (fun k => spec_MakeSize.j1 k x (n : Int) (low : Int) ((high : Int) - low + 1)) ((low : Int) + v) := by
    refine Ev.step (f := fun k => (spec_l31New.f k x (n : Int)).bind fun bt => (spec_l01Below.f bt.1 bt.2.1 bt.2.2 ((high : Int) - low + 1)).bind fun bt2 => spec_MakeSize.l1 k (low : Int) bt2.1) (fun k => ?_) (Ev.bind e (Ev.bind (ev_const e2) ?_))
    · simp only [spec_MakeSize.j1]
    · have := last v.toNat (low : Int) 0 (by omega) (by omega)
      rwa [show ((v.toNat : Nat) : Int) = v by omega] at this
  have go : ∀ (m s : Nat), s + m = high - low → Ev (fun k => spec_MakeSize.l0 k x (n : Int) (low : Int) (high : Int) ((s : Int) + 1) ((low : Int) + s)) ((low : Int) + v) := by
    intro m
    induction m with
    | zero =>
      intro s hs
      refine Ev.step (f := fun k => spec_MakeSize.j1 k x (n : Int) (low : Int) ((high : Int) - low + 1)) (fun k => ?_) mid
      simp only [spec_MakeSize.l0]
      rw [if_neg (by omega), show ((s : Int) + 1) = (high : Int) - low + 1 by omega]
    | succ m ih =>
      intro s hs
      refine Ev.step (f := fun k => spec_MakeSize.l0 k x (n : Int) (low : Int) (high : Int) (((s + 1 : Nat) : Int) + 1) ((low : Int) + ((s + 1 : Nat) : Int))) (fun k => ?_) (ih (s + 1) (by omega))
      simp only [spec_MakeSize.l0]
      rw [if_pos (by omega), if_pos (by omega), w64 (x := (s : Int) + 1 + 1) (by omega) (by omega), w64 (by omega) (by omega)]
      congr 1
  refine ⟨(low : Int) + v, ?_, by omega, by omega⟩
  have := go (high - low) 0 (by omega)
  unfold spec_MakeSize.f
  simpa using this
end Go.Proofs.Ytoildabjnioafaa.PA
/- FnFlaws: the drawn cloth. -/
namespace Go.Proofs.Ytoildabjnioafaa.PA
open Go.RowKit Go.Proofs.YtoildabjnioafaaW.PrintWords Go.Proofs.YtoildabjnioafaaW.PrintLast Go.Proofs.YtoildabjnioafaaW.PrintMore
set_option linter.unusedVariables false
set_option linter.unusedSimpArgs false
def isClear (w h m : Int) (l : List Int) : Bool := shapeOk w h m && winOk w h l && (Go.bits .and .i64 (maskI w h l) m == 0)
theorem impl_IsClear_ev (w h m : Int) (l : List Int) : Ev (fun k => impl_IsClear.f k w h m l) (isClear w h m l) := by
  unfold impl_IsClear.f
  refine Ev.bind (ev_const (impl_ShapeOk_eq w h m)) ?_
  unfold isClear
  by_cases c0 : shapeOk w h m = true
  · refine Ev.congr (fun k => if_pos c0) ?_
    refine Ev.bind (ev_const (impl_WindowOk_eq w h l)) ?_
    by_cases c : winOk w h l = true
    · refine Ev.congr (fun k => if_pos c) ?_
      refine ev_eq (Ev.bind (impl_WindowMask_ev w h l) (Ev.now _)) ?_
      simp [c0, c]
    · refine ev_eq (Ev.congr (fun k => if_neg c) (Ev.now false)) ?_
      simp [c]
  · refine ev_eq (Ev.congr (fun k => if_neg c0) (Ev.now false)) ?_
    simp [c0]
theorem or_bits (n e : Nat) (hn : n < 2 ^ 36) (he : e < 36) : ∃ r : Nat, Go.bits .or .i64 (n : Int) (shl .i64 1 (e : Int)) = (r : Int) ∧ ∀ b, n < 2 ^ b → e < b → r < 2 ^ b := by
  have hp : 2 ^ e < 2 ^ 36 := Nat.pow_lt_pow_right (by omega) he
  refine ⟨n ||| 2 ^ e, by rw [shl_one e (by omega), or_nat n (2 ^ e) (by omega) (by omega)], fun b h1 h2 => Nat.or_lt_two_pow h1 (Nat.pow_lt_pow_right (by omega) h2)⟩
theorem prod25 {W H : Nat} (hW : 1 ≤ W ∧ W ≤ 5) (hH : 1 ≤ H ∧ H ≤ 5) : 1 ≤ W * H ∧ W * H ≤ 25 := by
  have h1 : 1 * 1 ≤ W * H := Nat.mul_le_mul hW.1 hH.1
  have h2 : W * H ≤ 5 * 5 := Nat.mul_le_mul hW.2 hH.2
  omega
theorem makeFlaws_l (x : List Int) (hx : x.length ≤ 1048576) {W H : Nat} (hW : 1 ≤ W ∧ W ≤ 5) (hH : 1 ≤ H ∧ H ≤ 5) : ∀ (m n : Nat) (i h : Int), n < 2 ^ (W * H) → 0 ≤ i → i ≤ (x.length : Int) → m ≤ 100 →
    ∃ r : Nat, Ev (fun k => spec_MakeFlaws.l0 k (W : Int) (H : Int) (n : Int) (m : Int) x i h) ((W : Int), (H : Int), (r : Int)) ∧ r < 2 ^ (W * H) := by
  have hp := prod25 hW hH
  have hp2 : 2 ^ (W * H) ≤ 2 ^ 25 := Nat.pow_le_pow_right (by omega) hp.2
  intro m
  induction m with
  | zero =>
    intro n i h hn a b _
    refine ⟨n, Ev.step (f := fun _ => some ((W : Int), (H : Int), (n : Int))) (fun k => ?_) (Ev.now _), hn⟩
    simp only [spec_MakeFlaws.l0]
    rw [if_neg (by omega)]
  | succ m ih =>
    intro n i h hn a b hm
    have ew : wrap64 ((W : Int) * (H : Int)) = ((W * H : Nat) : Int) := by rw [← Int.natCast_mul, w64 (by omega) (by omega)]
    obtain ⟨v, i', h', e, hv, hi1, hi2⟩ := below_some x i h ((W * H : Nat) : Int) hx a b (by omega) (by omega)
    obtain ⟨e0, he0⟩ := Int.eq_ofNat_of_zero_le hv.1
    obtain ⟨r, er, hr⟩ := or_bits n e0 (by omega) (by omega)
    obtain ⟨r2, e2, h2⟩ := ih r i' h' (hr (W * H) hn (by omega)) hi1 hi2 (by omega)
    refine ⟨r2, Ev.step (f := fun k => spec_MakeFlaws.l0 k (W : Int) (H : Int) (r : Int) (m : Int) x i' h') (fun k => ?_) e2, h2⟩
    simp only [spec_MakeFlaws.l0]
    rw [if_pos (by omega), ew, e]
    simp only [Option.bind_some]
    rw [if_pos hv.1, he0, er, w64 (by omega) (by omega)]
    congr 1
    omega
theorem makeFlaws_ev (x : List Int) (hx : x.length ≤ 1048576) : ∃ W H n : Nat, Ev (fun k => spec_MakeFlaws.f k x 0) ((W : Int), (H : Int), (n : Int)) ∧ (1 ≤ W ∧ W ≤ 5) ∧ (1 ≤ H ∧ H ≤ 5) ∧ n < 2 ^ (W * H) := by
  obtain ⟨i, h, e, a, b⟩ := l31_ev x hx 0 (by omega)
  obtain ⟨v1, i1, h1, e1, g1, a1, b1⟩ := below_some x i h 5 hx a b (by omega) (by omega)
  obtain ⟨v2, i2, h2, e2, g2, a2, b2⟩ := below_some x i1 h1 5 hx a1 b1 (by omega) (by omega)
  obtain ⟨v3, i3, h3, e3, g3, a3, b3⟩ := below_some x i2 h2 5 hx a2 b2 (by omega) (by omega)
  have q1 : wrap64 (1 + v1) = (((1 + v1).toNat : Nat) : Int) := by rw [w64 (by omega) (by omega)]; omega
  have q2 : wrap64 (1 + v2) = (((1 + v2).toNat : Nat) : Int) := by rw [w64 (by omega) (by omega)]; omega
  obtain ⟨r, er, hr⟩ := makeFlaws_l x hx (W := (1 + v1).toNat) (H := (1 + v2).toNat) (by omega) (by omega) v3.toNat 0 i3 h3 (Nat.two_pow_pos _) a3 b3 (by omega)
  rw [show ((v3.toNat : Nat) : Int) = v3 by omega] at er
  refine ⟨(1 + v1).toNat, (1 + v2).toNat, r, ?_, by omega, by omega, hr⟩
  unfold spec_MakeFlaws.f
  refine Ev.bind e (Ev.bind (ev_const e1) (Ev.bind (ev_const e2) (Ev.bind (ev_const e3) ?_)))
  simp only
  rw [q1, q2]
  exact er
/-- A cloth with flaws. -/
structure Cloth (W H n : Nat) : Prop where
  w : 1 ≤ W ∧ W ≤ 5
  h : 1 ≤ H ∧ H ≤ 5
  n : n < 2 ^ (W * H)
theorem Cloth.shape {W H n : Nat} (c : Cloth W H n) : shapeOk (W : Int) (H : Int) (n : Int) = true := by
  unfold shapeOk
  have h1 := c.w
  have h2 := c.h
  have h3 := c.n
  have e : ((W : Int) * (H : Int)).toNat = W * H := by rw [← Int.natCast_mul, Int.toNat_natCast]
  rw [e]
  exact decide_eq_true ⟨by omega, by omega, by omega, by omega, by omega, by omega⟩
theorem Cloth.small {W H n : Nat} (c : Cloth W H n) : n < 2 ^ 25 ∧ W * H ≤ 25 ∧ 1 ≤ W * H := by
  have hp := prod25 c.w c.h
  have hp2 : 2 ^ (W * H) ≤ 2 ^ 25 := Nat.pow_le_pow_right (by omega) hp.2
  have := c.n
  exact ⟨by omega, hp.2, hp.1⟩
theorem win4_win {W H x y v u : Nat} (hW : 1 ≤ W ∧ W ≤ 5) (hH : 1 ≤ H ∧ H ≤ 5) (hx : x + v ≤ W) (hy : y + u ≤ H) (hv : 1 ≤ v) (hu : 1 ≤ u) : winOk (W : Int) (H : Int) (win4 x y v u) = true ∧ maskI (W : Int) (H : Int) (win4 x y v u) = ((winM W x y v u : Nat) : Int) ∧ inWin W H x y v u = true := by
  have w := win4_ok (W := W) (H := H) (x := x) (y := y) (v := v) (u := u) (by omega) (by omega) hx hy hv hu
  refine ⟨w, ?_, decide_eq_true ⟨hv, hu, hx, hy⟩⟩
  unfold maskI
  rw [if_pos w]
  unfold win4
  obtain ⟨r0, r1, r2, r3⟩ := rd4 (x : Int) y v u
  rw [r0, r1, r2, r3]
  simp [winM]
theorem clear_iff {W H n x y v u : Nat} (c : Cloth W H n) (hx : x + v ≤ W) (hy : y + u ≤ H) (hv : 1 ≤ v) (hu : 1 ≤ u) : clearB (W : Int) (H : Int) (n : Int) (win4 x y v u) = decide (winM W x y v u &&& n = 0) ∧ Go.bits .and .i64 (maskI (W : Int) (H : Int) (win4 x y v u)) (n : Int) = ((winM W x y v u &&& n : Nat) : Int) := by
  obtain ⟨_, em, iw⟩ := win4_win c.w c.h hx hy hv hu
  obtain ⟨_, _, hm, _⟩ := winM_all (W := W) (H := H) (by have := c.w; omega) (by have := c.h; omega) iw
  have hs := c.small
  have hp : 2 ^ (W * H) ≤ 2 ^ 25 := Nat.pow_le_pow_right (by omega) hs.2.1
  have e := and_nat (winM W x y v u) n (by omega) (by omega)
  unfold clearB
  rw [em, e]
  refine ⟨?_, rfl⟩
  rw [decide_eq_decide]
  omega
theorem isClear_win {W H n x y v u : Nat} (c : Cloth W H n) (hx : x + v ≤ W) (hy : y + u ≤ H) (hv : 1 ≤ v) (hu : 1 ≤ u) : isClear (W : Int) (H : Int) (n : Int) (win4 x y v u) = clearB (W : Int) (H : Int) (n : Int) (win4 x y v u) := by
  unfold isClear clearB
  rw [c.shape, (win4_win c.w c.h hx hy hv hu).1]
  simp only [Bool.true_and]
  rw [Bool.eq_iff_iff, beq_iff_eq, decide_eq_true_iff]
theorem mem_clear {W H n : Nat} {l : List Int} : l ∈ allWin (W : Int) (H : Int) (n : Int) ↔ ∃ x y v u : Nat, x < W ∧ y < H ∧ 1 ≤ v ∧ x + v ≤ W ∧ 1 ≤ u ∧ y + u ≤ H ∧ clearB (W : Int) (H : Int) (n : Int) (win4 x y v u) = true ∧ l = win4 x y v u := by
  rw [mem_allWin, Int.toNat_natCast, Int.toNat_natCast]
theorem prod_eq {x y v u : Nat} (hv : v ≤ 5) (hu : u ≤ 5) : prodW (win4 x y v u) = ((v * u : Nat) : Int) ∧ wrap64 ((v : Int) * (u : Int)) = ((v * u : Nat) : Int) := by
  have h1 : v * u ≤ 5 * 5 := Nat.mul_le_mul hv hu
  have e : wrap64 ((v : Int) * (u : Int)) = ((v * u : Nat) : Int) := by rw [← Int.natCast_mul, w64 (by omega) (by omega)]
  exact ⟨e, e⟩
theorem impl_Count_ev {W H n : Nat} (c : Cloth W H n) : Ev (fun k => impl_CountClear.f k (W : Int) (H : Int) (n : Int)) ((allWin (W : Int) (H : Int) (n : Int)).length : Int) := by
  unfold impl_CountClear.f
  refine Ev.bind (ev_const (impl_ShapeOk_eq _ _ _)) ?_
  exact Ev.congr (fun k => if_pos c.shape) (Ev.bind (impl_all_ev c.shape) (Ev.now _))
/-- There is a clear window exactly if not all cells are flaws. -/
theorem clear_some {W H n : Nat} (c : Cloth W H n) : 0 < (allWin (W : Int) (H : Int) (n : Int)).length ↔ popC (W * H) n < W * H := by
  rw [popC_lt]
  have hs := c.small
  have cw := c.w
  have ch := c.h
  constructor
  · intro h
    obtain ⟨l, hl⟩ := List.exists_mem_of_length_pos h
    obtain ⟨x, y, v, u, h1, h2, h3, h4, h5, h6, h7, rfl⟩ := mem_clear.1 hl
    obtain ⟨_, _, iw⟩ := win4_win c.w c.h h4 h6 h3 h5
    obtain ⟨_, hb, _, _⟩ := winM_all (W := W) (H := H) (by omega) (by omega) iw
    have hy : (y + 1) * W ≤ H * W := Nat.mul_le_mul_right W h2
    rw [Nat.succ_mul, Nat.mul_comm H W] at hy
    refine ⟨y * W + x, by omega, ?_⟩
    rw [(clear_iff c h4 h6 h3 h5).1] at h7
    have h8 := of_decide_eq_true h7
    have h9 : (winM W x y v u &&& n).testBit (y * W + x) = false := by rw [h8]; exact Nat.zero_testBit _
    rw [Nat.testBit_and, hb, Bool.true_and] at h9
    exact h9
  · rintro ⟨i, hi, hb⟩
    have hx : i % W < W := Nat.mod_lt _ (by omega)
    have hy : i / W < H := Nat.div_lt_of_lt_mul hi
    have e : i / W * W + i % W = i := by rw [Nat.mul_comm]; exact Nat.div_add_mod i W
    obtain ⟨_, _, iw⟩ := win4_win (x := i % W) (y := i / W) (v := 1) (u := 1) c.w c.h (by omega) (by omega) (by omega) (by omega)
    obtain ⟨_, _, _, h1⟩ := winM_all (W := W) (H := H) (by omega) (by omega) iw
    have hm : win4 (i % W) (i / W) 1 1 ∈ allWin (W : Int) (H : Int) (n : Int) := mem_clear.2 ⟨i % W, i / W, 1, 1, hx, hy, by omega, by omega, by omega, by omega, by
      rw [(clear_iff c (by omega) (by omega) (by omega) (by omega)).1, decide_eq_true_iff, h1, e]
      apply Nat.eq_of_testBit_eq
      intro j
      rw [Nat.testBit_and, Nat.testBit_two_pow, Nat.zero_testBit]
      by_cases ej : i = j
      · subst ej; rw [hb, Bool.and_false]
      · simp [ej], rfl⟩
    exact List.length_pos_of_mem hm
end Go.Proofs.Ytoildabjnioafaa.PA
/- FnFlaws: the law. -/
namespace Go.Proofs.Ytoildabjnioafaa.PA
open Go.RowKit Go.Proofs.YtoildabjnioafaaW.PrintWords Go.Proofs.YtoildabjnioafaaW.PrintLast Go.Proofs.YtoildabjnioafaaW.PrintMore
set_option linter.unusedVariables false
set_option linter.unusedSimpArgs false
theorem mark_spec (w h m x y : Int) (c : shapeOk w h m = true) (cx : 0 ≤ x ∧ x ≤ w - 1) (cy : 0 ≤ y ∧ y ≤ h - 1) (n e : Nat) (hm : m = n) (he : y * w + x = e) (hb : 0 ≤ y * w ∧ y * w ≤ 30) (he36 : e < 36) (hn : n < 2 ^ 36) :
    spec_MarkFlaw.f w h m x y = some (if n.testBit e then (0, false) else (((n + 2 ^ e : Nat) : Int), true)) ∧ impl_MarkFlaw.f w h m x y = some (if n.testBit e then (0, false) else (((n + 2 ^ e : Nat) : Int), true)) := by
  obtain ⟨h1, h2, h3, h4, h5, h6, h7, h8⟩ := shapeOk_facts c
  subst hm
  have hp : (2 : Nat) ^ e < 2 ^ 62 := Nat.pow_lt_pow_right (by omega) (by omega)
  have hp0 : (0 : Int) ≤ ((2 ^ e : Nat) : Int) := Int.natCast_nonneg _
  have hpi : ((2 ^ e : Nat) : Int) < 4611686018427387904 := by
    have : ((2 ^ e : Nat) : Int) < ((2 ^ 62 : Nat) : Int) := Int.ofNat_lt.2 hp
    rwa [show ((2 ^ 62 : Nat) : Int) = 4611686018427387904 from rfl] at this
  constructor
  · unfold spec_MarkFlaw.f
    rw [spec_ShapeOk_eq]
    simp only [Option.bind_some, l01In_eq]
    rw [if_pos c, w64 (x := w - 1) (by omega) (by omega), w64 (x := h - 1) (by omega) (by omega), if_pos (by simpa using cx), if_pos (by simpa using cy)]
    rw [w64 (x := y * w) (by omega) (by omega), w64 (x := y * w + x) (by omega) (by omega), he, if_pos (by omega)]
    rw [bit_nat n e (by omega) (by omega), shl_one e (by omega), w64 (by omega) (by omega)]
    cases ht : n.testBit e <;> simp
  · unfold impl_MarkFlaw.f
    rw [impl_ShapeOk_eq]
    simp only [Option.bind_some, within_eq]
    rw [if_pos c, w64 (x := w - 1) (by omega) (by omega), w64 (x := h - 1) (by omega) (by omega), if_pos (by simpa using cx), if_pos (by simpa using cy)]
    rw [w64 (x := y * w) (by omega) (by omega), w64 (x := y * w + x) (by omega) (by omega), he]
    unfold impl_has.f
    rw [if_pos (by omega)]
    simp only [Option.bind_some]
    rw [bit_nat n e (by omega) (by omega), shl_one e (by omega), or_nat n (2 ^ e) (by omega) (by omega)]
    cases ht : n.testBit e with
    | true => simp
    | false =>
      rw [or_add n e ht]
      simp
/-- What is known of the greatest clear window. -/
structure Great (W H n : Nat) (g : List Int) (ok : Bool) : Prop where
  all : ∀ a ∈ allWin (W : Int) (H : Int) (n : Int), ok = true ∧ g.length = 4 ∧ prodW a ≤ prodW g
theorem fl_U {W H n : Nat} (c : Cloth W H n) (code g : List Int) (ok : Bool) (cnt : Int) (hg : Great W H n g ok) (x y v : Nat) (hx : x + v ≤ W) (hv : 1 ≤ v) (hy : y < H) : ∀ (cc u : Nat) (acc : List (List Int)), y + u + cc = H + 1 → 1 ≤ u → acc.length + cc ≤ 5000 →
    Ev (fun k => laws_FnFlaws.l2 k code (W : Int) (H : Int) (n : Int) cnt g ok ((allU W H (n : Int) x y v cc u acc).length : Int) (x : Int) (y : Int) ((v + 1 : Nat) : Int)) true →
    Ev (fun k => laws_FnFlaws.l3 k code (W : Int) (H : Int) (n : Int) cnt g ok (acc.length : Int) (x : Int) (y : Int) (v : Int) (u : Int)) true := by
  have cw := c.w
  have ch := c.h
  intro cc
  induction cc with
  | zero =>
    intro u acc hu h1 hl hr
    refine Ev.step (f := fun k => laws_FnFlaws.l2 k code (W : Int) (H : Int) (n : Int) cnt g ok (acc.length : Int) (x : Int) (y : Int) ((v + 1 : Nat) : Int)) (fun k => ?_) hr
    simp only [laws_FnFlaws.l3]
    rw [w64 (x := (y : Int) + u) (by omega) (by omega), if_neg (by omega), w64 (by omega) (by omega)]
    rfl
  | succ cc ih =>
    intro u acc hu h1 hl hr
    have hyu : y + u ≤ H := by omega
    obtain ⟨wok, em, iw⟩ := win4_win cw ch hx hyu hv h1
    obtain ⟨hp, hb, hm, _⟩ := winM_all (W := W) (H := H) (by omega) (by omega) iw
    obtain ⟨_, ep⟩ := prod_eq (x := x) (y := y) (v := v) (u := u) (by omega) (by omega)
    have hs := c.small
    have ci := isClear_win c hx hyu hv h1
    simp only [allU] at hr
    have nx : ∀ acc' : List (List Int), acc'.length + cc ≤ 5000 → Ev (fun k => laws_FnFlaws.l2 k code (W : Int) (H : Int) (n : Int) cnt g ok ((allU W H (n : Int) x y v cc (u + 1) acc').length : Int) (x : Int) (y : Int) ((v + 1 : Nat) : Int)) true → Ev (fun k => laws_FnFlaws.l3 k code (W : Int) (H : Int) (n : Int) cnt g ok (acc'.length : Int) (x : Int) (y : Int) (v : Int) ((u + 1 : Nat) : Int)) true := fun acc' h2 h3 => ih (u + 1) acc' (by omega) (by omega) h2 h3
    refine Ev.step (f := fun k => (impl_WindowOk.f (W : Int) (H : Int) (win4 x y v u)).bind fun t408 => (if t408 = true then ((impl_WindowMask.f k (W : Int) (H : Int) (win4 x y v u)).bind fun t409 => ((laws_cells.f k t409).bind fun t410 => (if t410 = ((v * u : Nat) : Int) then ((impl_IsClear.f k (W : Int) (H : Int) (n : Int) (win4 x y v u)).bind fun t411 => ((impl_WindowMask.f k (W : Int) (H : Int) (win4 x y v u)).bind fun t412 => (if (t411 != ((Go.bits .and .i64 t412 (n : Int)) == 0)) = true then (none) else ((impl_IsClear.f k (W : Int) (H : Int) (n : Int) (win4 x y v u)).bind fun t413 => (if t413 = true then (if ok = true then (if 2 < (g.length : Int) then (if 3 < (g.length : Int) then (if ((v * u : Nat) : Int) > (wrap64 ((rd g 2) * (rd g 3))) then (none) else (laws_FnFlaws.l3 k code (W : Int) (H : Int) (n : Int) cnt g ok ((acc.length + 1 : Nat) : Int) (x : Int) (y : Int) (v : Int) ((u + 1 : Nat) : Int))) else (none)) else (none)) else (none)) else (laws_FnFlaws.l3 k code (W : Int) (H : Int) (n : Int) cnt g ok (acc.length : Int) (x : Int) (y : Int) (v : Int) ((u + 1 : Nat) : Int))))))) else (none)))) else (none))) (fun k => ?_) ?_
    · simp only [laws_FnFlaws.l3, Option.bind_some]
      rw [w64 (x := (y : Int) + u) (by omega) (by omega), if_pos (by omega), ep, w64 (x := (acc.length : Int) + 1) (by omega) (by omega), w64 (x := (u : Int) + 1) (by omega) (by omega)]
      rfl
    · refine Ev.bind (ev_const (impl_WindowOk_eq _ _ _)) (Ev.congr (fun k => if_pos wok) (Ev.bind (impl_WindowMask_ev _ _ _) ?_))
      rw [em]
      refine Ev.bind (cells_ev (W * H) (winM W x y v u) (by omega) hm) (Ev.congr (fun k => if_pos (by rw [hp])) ?_)
      refine Ev.bind (impl_IsClear_ev _ _ _ _) (Ev.bind (impl_WindowMask_ev _ _ _) (Ev.congr (fun k => if_neg (by
        rw [ci]
        unfold clearB
        rw [Bool.not_eq_true, bne_eq_false_iff_eq, Bool.eq_iff_iff, beq_iff_eq, decide_eq_true_iff])) (Ev.bind (impl_IsClear_ev _ _ _ _) ?_)))
      rw [ci]
      cases hc : clearB (W : Int) (H : Int) (n : Int) (win4 x y v u) with
      | true =>
        rw [hc] at hr
        simp only [if_true] at hr
        have hmem : win4 x y v u ∈ allWin (W : Int) (H : Int) (n : Int) := mem_clear.2 ⟨x, y, v, u, by omega, hy, hv, hx, h1, hyu, hc, rfl⟩
        obtain ⟨ho, hg4, hpr⟩ := hg.all _ hmem
        rw [(prod_eq (x := x) (y := y) (v := v) (u := u) (by omega) (by omega)).1] at hpr
        have g9 : ¬ ((v * u : Nat) : Int) > wrap64 (rd g 2 * rd g 3) := Int.not_lt.2 hpr
        clear hpr
        have g2 : 2 < (g.length : Int) := by rw [hg4]; decide
        have g3 : 3 < (g.length : Int) := by rw [hg4]; decide
        have := nx (acc ++ [win4 x y v u]) (by simp; omega) hr
        rw [List.length_append, List.length_singleton] at this
        refine Ev.congr (fun k => if_pos rfl) ?_
        refine Ev.congr (fun k => if_pos ho) ?_
        refine Ev.congr (fun k => if_pos g2) ?_
        refine Ev.congr (fun k => if_pos g3) ?_
        refine Ev.congr (fun k => if_neg g9) ?_
        exact this
      | false =>
        rw [hc] at hr
        simp only [Bool.false_eq_true, if_false] at hr
        exact Ev.congr (fun k => if_neg (by simp)) (nx acc (by omega) hr)
theorem fl_V {W H n : Nat} (c : Cloth W H n) (code g : List Int) (ok : Bool) (cnt : Int) (hg : Great W H n g ok) (x y : Nat) (hxw : x < W) (hy : y < H) : ∀ (cc v : Nat) (acc : List (List Int)), x + v + cc = W + 1 → 1 ≤ v → acc.length + cc * 6 ≤ 5000 →
    Ev (fun k => laws_FnFlaws.l1 k code (W : Int) (H : Int) (n : Int) cnt g ok ((allV W H (n : Int) x y cc v acc).length : Int) (x : Int) ((y + 1 : Nat) : Int)) true →
    Ev (fun k => laws_FnFlaws.l2 k code (W : Int) (H : Int) (n : Int) cnt g ok (acc.length : Int) (x : Int) (y : Int) (v : Int)) true := by
  have cw := c.w
  have ch := c.h
  intro cc
  induction cc with
  | zero =>
    intro v acc hv h1 hl hr
    refine Ev.step (f := fun k => laws_FnFlaws.l1 k code (W : Int) (H : Int) (n : Int) cnt g ok (acc.length : Int) (x : Int) ((y + 1 : Nat) : Int)) (fun k => ?_) hr
    simp only [laws_FnFlaws.l2]
    rw [w64 (x := (x : Int) + v) (by omega) (by omega), if_neg (by omega), w64 (by omega) (by omega)]
    rfl
  | succ cc ih =>
    intro v acc hv h1 hl hr
    simp only [allV] at hr
    have hlen := allU_len W H (n : Int) x y v (H - y) 1 acc
    have h2 := ih (v + 1) (allU W H (n : Int) x y v (H - y) 1 acc) (by omega) (by omega) (by omega) hr
    have h3 := fl_U c code g ok cnt hg x y v (by omega) h1 hy (H - y) 1 acc (by omega) (by omega) (by omega) h2
    refine Ev.step (f := fun k => laws_FnFlaws.l3 k code (W : Int) (H : Int) (n : Int) cnt g ok (acc.length : Int) (x : Int) (y : Int) (v : Int) ((1 : Nat) : Int)) (fun k => ?_) h3
    simp only [laws_FnFlaws.l2]
    rw [w64 (x := (x : Int) + v) (by omega) (by omega), if_pos (by omega)]
    rfl
theorem fl_Y {W H n : Nat} (c : Cloth W H n) (code g : List Int) (ok : Bool) (cnt : Int) (hg : Great W H n g ok) (x : Nat) (hxw : x < W) : ∀ (cc y : Nat) (acc : List (List Int)), y + cc = H → acc.length + cc * 36 ≤ 5000 →
    Ev (fun k => laws_FnFlaws.l0 k code (W : Int) (H : Int) (n : Int) cnt g ok ((allY W H (n : Int) x cc y acc).length : Int) ((x + 1 : Nat) : Int)) true →
    Ev (fun k => laws_FnFlaws.l1 k code (W : Int) (H : Int) (n : Int) cnt g ok (acc.length : Int) (x : Int) (y : Int)) true := by
  have cw := c.w
  have ch := c.h
  intro cc
  induction cc with
  | zero =>
    intro y acc hy hl hr
    refine Ev.step (f := fun k => laws_FnFlaws.l0 k code (W : Int) (H : Int) (n : Int) cnt g ok (acc.length : Int) ((x + 1 : Nat) : Int)) (fun k => ?_) hr
    simp only [laws_FnFlaws.l1]
    rw [if_neg (by omega), w64 (by omega) (by omega)]
    rfl
  | succ cc ih =>
    intro y acc hy hl hr
    simp only [allY] at hr
    have hlen := allV_len W H (n : Int) x y (by omega) (W - x) 1 acc
    have hc6 : (W - x) * 6 ≤ 36 := by omega
    have h2 := ih (y + 1) (allV W H (n : Int) x y (W - x) 1 acc) (by omega) (by omega) hr
    have h3 := fl_V c code g ok cnt hg x y hxw (by omega) (W - x) 1 acc (by omega) (by omega) (by omega) h2
    refine Ev.step (f := fun k => laws_FnFlaws.l2 k code (W : Int) (H : Int) (n : Int) cnt g ok (acc.length : Int) (x : Int) (y : Int) ((1 : Nat) : Int)) (fun k => ?_) h3
    simp only [laws_FnFlaws.l1]
    rw [if_pos (by omega)]
    rfl
theorem fl_X {W H n : Nat} (c : Cloth W H n) (code g : List Int) (ok : Bool) (cnt : Int) (hg : Great W H n g ok) : ∀ (cc x : Nat) (acc : List (List Int)), x + cc = W → acc.length + cc * 216 ≤ 5000 →
    Ev (fun k => laws_FnFlaws.l0 k code (W : Int) (H : Int) (n : Int) cnt g ok ((allX W H (n : Int) cc x acc).length : Int) (W : Int)) true →
    Ev (fun k => laws_FnFlaws.l0 k code (W : Int) (H : Int) (n : Int) cnt g ok (acc.length : Int) (x : Int)) true := by
  have cw := c.w
  have ch := c.h
  intro cc
  induction cc with
  | zero =>
    intro x acc hx hl hr
    obtain rfl : x = W := by omega
    exact hr
  | succ cc ih =>
    intro x acc hx hl hr
    simp only [allX] at hr
    have hlen := allY_len W H (n : Int) x (by omega) (by omega) H 0 acc
    have h2 := ih (x + 1) (allY W H (n : Int) x H 0 acc) (by omega) (by omega) hr
    have h3 := fl_Y c code g ok cnt hg x (by omega) H 0 acc (by omega) (by omega) h2
    refine Ev.step (f := fun k => laws_FnFlaws.l1 k code (W : Int) (H : Int) (n : Int) cnt g ok (acc.length : Int) (x : Int) ((0 : Nat) : Int)) (fun k => ?_) h3
    simp only [laws_FnFlaws.l0]
    rw [if_pos (by omega)]
    rfl
def rowT (r : Nat × Nat × Nat × Nat) : List Int := win4 r.1 r.2.1 r.2.2.1 r.2.2.2
def goodT (r : Nat × Nat × Nat × Nat) : Bool := decide (1 ≤ r.2.2.1 ∧ 1 ≤ r.2.2.2)
theorem foldl_good (W : Nat) : ∀ (rs : List (Nat × Nat × Nat × Nat)) (a : Option Nat), (rs.filter goodT).foldl (cutPut W) a = rs.foldl (cutPut W) a := by
  intro rs
  induction rs with
  | nil => intro a; rfl
  | cons r rs ih =>
    intro a
    rw [List.filter_cons]
    cases h : goodT r with
    | true => simp only [if_true, List.foldl_cons]; exact ih _
    | false =>
      simp only [Bool.false_eq_true, if_false, List.foldl_cons]
      have e : cutPut W a r = a := by unfold cutPut; rw [if_neg (of_decide_eq_false h)]
      rw [e, ih]
theorem foldl_none (W : Nat) : ∀ rs : List (Nat × Nat × Nat × Nat), rs.foldl (cutPut W) none = none := by
  intro rs
  induction rs with
  | nil => rfl
  | cons r rs ih =>
    rw [List.foldl_cons]
    have e : cutPut W none r = none := by unfold cutPut; split <;> rfl
    rw [e, ih]
theorem cutRows_T {W H X Y V U : Nat} (hW : 1 ≤ W ∧ W ≤ 5) (hH : 1 ≤ H ∧ H ≤ 5) (hx : X + V ≤ W) (hy : Y + U ≤ H) : cutRows (W : Int) (H : Int) (win4 X Y V U) = (cutFour W H X Y V U).map rowT := by
  unfold cutRows cutFour rowT win4
  obtain ⟨r0, r1, r2, r3⟩ := rd4 (X : Int) Y V U
  rw [r0, r1, r2, r3, w64 (x := (X : Int) + V) (by omega) (by omega), w64 (x := (W : Int) - X) (by omega) (by omega), w64 (x := (W : Int) - X - V) (by omega) (by omega), w64 (x := (Y : Int) + U) (by omega) (by omega), w64 (x := (H : Int) - Y) (by omega) (by omega), w64 (x := (H : Int) - Y - U) (by omega) (by omega)]
  simp only [List.map_cons, List.map_nil]
  have e1 : (W : Int) - X - V = ((W - X - V : Nat) : Int) := by omega
  have e2 : (H : Int) - Y - U = ((H - Y - U : Nat) : Int) := by omega
  rw [e1, e2]
  simp
theorem cut_filter {W H X Y V U : Nat} (hW : 1 ≤ W ∧ W ≤ 5) (hH : 1 ≤ H ∧ H ≤ 5) (hx : X + V ≤ W) (hy : Y + U ≤ H) (hv : 1 ≤ V) (hu : 1 ≤ U) : cutOf (W : Int) (H : Int) (win4 X Y V U) = ((cutFour W H X Y V U).filter goodT).map rowT ∧ ∀ r ∈ (cutFour W H X Y V U).filter goodT, r.1 + r.2.2.1 ≤ W ∧ r.2.1 + r.2.2.2 ≤ H ∧ 1 ≤ r.2.2.1 ∧ 1 ≤ r.2.2.2 := by
  have wok := (win4_win hW hH hx hy hv hu).1
  constructor
  · unfold cutOf
    rw [if_pos wok, cutRows_T hW hH hx hy]
    rw [List.filter_map]
    congr 1
    apply List.filter_congr
    intro r _
    rw [Bool.eq_iff_iff]
    show cutGood (rowT r) = true ↔ goodT r = true
    rw [cutGood_iff]
    unfold goodT rowT win4
    rw [decide_eq_true_iff]
    show ((r.2.2.1 : Int) > 0 ∧ (r.2.2.2 : Int) > 0) ↔ _
    omega
  · intro r hr
    obtain ⟨h1, h2⟩ := List.mem_filter.1 hr
    have h3 := of_decide_eq_true h2
    unfold cutFour at h1
    simp only [List.mem_cons, List.not_mem_nil, or_false] at h1
    rcases h1 with rfl | rfl | rfl | rfl
    · simp only at h3 ⊢; omega
    · simp only at h3 ⊢; omega
    · simp only at h3 ⊢; omega
    · simp only at h3 ⊢; omega
theorem same_l (g : List Int) (hg : g.length = 4) : ∀ (d i : Nat), i + d = 4 → Ev (fun k => laws_same.l0 k g g (g.length : Int) (i : Int)) true := by
  intro d
  induction d with
  | zero =>
    intro i hi
    refine Ev.step (f := fun _ => some true) (fun k => ?_) (Ev.now _)
    simp only [laws_same.l0]
    rw [if_neg (by omega)]
  | succ d ih =>
    intro i hi
    refine Ev.step (f := fun k => laws_same.l0 k g g (g.length : Int) ((i + 1 : Nat) : Int)) (fun k => ?_) (ih (i + 1) (by omega))
    simp only [laws_same.l0]
    rw [if_pos (by omega), if_pos (by omega), if_pos (by omega), if_pos (by omega), if_pos trivial, w64 (by omega) (by omega)]
    rfl
theorem same_ev (g : List Int) (hg : g.length = 4) : Ev (fun k => laws_same.f k g g) true := by
  unfold laws_same.f
  exact Ev.congr (fun k => if_pos rfl) (same_l g hg 4 0 (by omega))
theorem full_mask (e : Nat) (h : e ≤ 25) : wrap64 (shl .i64 1 (e : Int) - 1) = ((2 ^ e - 1 : Nat) : Int) := by
  have h1 : 2 ^ e ≤ 2 ^ 25 := Nat.pow_le_pow_right (by omega) h
  have h2 : 0 < 2 ^ e := Nat.pow_pos (by omega)
  rw [shl_one e (by omega), w64 (by omega) (by omega)]
  omega
theorem wrap_wh {W H n : Nat} (c : Cloth W H n) : wrap64 ((W : Int) * (H : Int)) = ((W * H : Nat) : Int) := by
  have hs := c.small
  rw [← Int.natCast_mul, w64 (by omega) (by omega)]
theorem fl_l4z {W H n : Nat} (c : Cloth W H n) (g : List Int) (hg : g.length = 4) (hcf : clearFor (W : Int) (H : Int) (n : Int) (rd g 2) (rd g 3) = (g, true)) (rows : List (List Int)) (i : Nat) (hi : i = rows.length) :
    Ev (fun k => laws_FnFlaws.l4 k (W : Int) (H : Int) (n : Int) g ((2 ^ (W * H) - 1 : Nat) : Int) rows (rows.length : Int) (i : Int)) true := by
  have hs := c.small
  have ew := wrap_wh c
  have ef := full_mask (W * H) hs.2.1
  have e1 : Ev (fun k => impl_ClearFor.f k (W : Int) (H : Int) (n : Int) (rd g 2) (rd g 3)) (g, true) := ev_eq (impl_ClearFor_ev _ _ _ _ _) hcf
  have e2 := same_ev g hg
  generalize ((2 ^ (W * H) - 1 : Nat) : Int) = p at *
  have fin : Ev (fun k => (impl_ClearFor.f k (W : Int) (H : Int) (n : Int) (rd g 2) (rd g 3)).bind fun bt => (if bt.2 = true then ((laws_same.f k bt.1 g).bind fun t => some t) else none)) true :=
    Ev.bind e1 (Ev.congr (fun k => if_pos rfl) (Ev.bind e2 (Ev.now _)))
  refine Ev.step (fun k => ?_) fin
  simp only [laws_FnFlaws.l4]
  have n1 : ¬ (i : Int) < (rows.length : Int) := by omega
  have n2 : 2 < (g.length : Int) := by omega
  have n3 : 3 < (g.length : Int) := by omega
  have n4 : (0 : Int) ≤ ((W * H : Nat) : Int) := by omega
  rw [if_neg n1, if_pos n2, if_pos n3, ew, ef]
  congr 1
  funext bt
  rw [if_pos n4, if_pos (rfl : p = p)]
theorem fl_l4 {W H n : Nat} (c : Cloth W H n) (g : List Int) (hg : g.length = 4) (hcf : clearFor (W : Int) (H : Int) (n : Int) (rd g 2) (rd g 3) = (g, true)) (rs : List (Nat × Nat × Nat × Nat)) (hl : rs.length ≤ 4) (hr : ∀ r ∈ rs, r.1 + r.2.2.1 ≤ W ∧ r.2.1 + r.2.2.2 ≤ H ∧ 1 ≤ r.2.2.1 ∧ 1 ≤ r.2.2.2) : ∀ (d i a : Nat), i + d = rs.length → a < 2 ^ (W * H) → (rs.drop i).foldl (cutPut W) (some a) = some (2 ^ (W * H) - 1) →
    Ev (fun k => laws_FnFlaws.l4 k (W : Int) (H : Int) (n : Int) g (a : Int) (rs.map rowT) ((rs.map rowT).length : Int) (i : Int)) true := by
  have cw := c.w
  have ch := c.h
  have hs := c.small
  have hp : 2 ^ (W * H) ≤ 2 ^ 25 := Nat.pow_le_pow_right (by omega) hs.2.1
  have hp1 : 0 < 2 ^ (W * H) := Nat.two_pow_pos _
  intro d
  induction d with
  | zero =>
    intro i a hi ha hf
    rw [List.drop_of_length_le (by omega)] at hf
    have ea : a = 2 ^ (W * H) - 1 := Option.some.inj hf
    rw [ea]
    exact fl_l4z c g hg hcf (rs.map rowT) i (by rw [List.length_map]; omega)
  | succ d ih =>
    intro i a hi ha hf
    have hlt : i < rs.length := by omega
    have hri := hr rs[i] (List.getElem_mem hlt)
    rw [List.drop_eq_getElem_cons hlt, List.foldl_cons] at hf
    obtain ⟨wok, em, iw⟩ := win4_win cw ch hri.1 hri.2.1 hri.2.2.1 hri.2.2.2
    obtain ⟨_, _, hm, _⟩ := winM_all (W := W) (H := H) (by omega) (by omega) iw
    have ec : cutPut W (some a) rs[i] = if 0 < winM W rs[i].1 rs[i].2.1 rs[i].2.2.1 rs[i].2.2.2 ∧ a &&& winM W rs[i].1 rs[i].2.1 rs[i].2.2.1 rs[i].2.2.2 = 0 then some (a ||| winM W rs[i].1 rs[i].2.1 rs[i].2.2.1 rs[i].2.2.2) else none := by
      unfold cutPut
      rw [if_pos hri.2.2]
      rfl
    rw [ec] at hf
    by_cases cc : 0 < winM W rs[i].1 rs[i].2.1 rs[i].2.2.1 rs[i].2.2.2 ∧ a &&& winM W rs[i].1 rs[i].2.1 rs[i].2.2.1 rs[i].2.2.2 = 0
    · rw [if_pos cc] at hf
      have hT : rd_L1 (rs.map rowT) (i : Int) = win4 rs[i].1 rs[i].2.1 rs[i].2.2.1 rs[i].2.2.2 := by
        rw [rdL_get (by rw [List.length_map]; exact hlt), List.getElem_map]
        rfl
      have ht := ih (i + 1) (a ||| winM W rs[i].1 rs[i].2.1 rs[i].2.2.1 rs[i].2.2.2) (by omega) (Nat.or_lt_two_pow ha hm) hf
      refine Ev.step (f := fun k => (impl_WindowMask.f k (W : Int) (H : Int) (win4 rs[i].1 rs[i].2.1 rs[i].2.2.1 rs[i].2.2.2)).bind fun t => (if t ≤ 0 then none else (if Go.bits .and .i64 (a : Int) t = 0 then laws_FnFlaws.l4 k (W : Int) (H : Int) (n : Int) g (Go.bits .or .i64 (a : Int) t) (rs.map rowT) ((rs.map rowT).length : Int) ((i + 1 : Nat) : Int) else none))) (fun k => ?_) (Ev.bind (ev_eq (impl_WindowMask_ev _ _ _) em) (Ev.congr (fun k => if_neg (by omega)) (Ev.congr (fun k => if_pos ?_) ?_)))
      · simp only [laws_FnFlaws.l4]
        rw [if_pos (by rw [List.length_map]; omega), if_pos (by omega), if_pos (by rw [List.length_map]; omega), hT, w64 (by omega) (by omega)]
        rfl
      · rw [and_nat _ _ (by omega) (by omega), cc.2]
        rfl
      · have eo := or_nat a (winM W rs[i].1 rs[i].2.1 rs[i].2.2.1 rs[i].2.2.2) (by omega) (by omega)
        refine Ev.congr (fun k => ?_) ht
        rw [eo]
    · rw [if_neg cc, foldl_none] at hf
      cases hf
/-- What the greatest clear window, if there is one, is. -/
def IsG (W H n : Nat) (g : List Int) : Prop := ∃ X Y V U : Nat, g = win4 X Y V U ∧ X + V ≤ W ∧ Y + U ≤ H ∧ 1 ≤ V ∧ 1 ≤ U ∧ clearFor (W : Int) (H : Int) (n : Int) (rd g 2) (rd g 3) = (g, true)
theorem fl_j5 {W H n : Nat} (c : Cloth W H n) (g : List Int) (ok : Bool) (hg : ok = true → IsG W H n g) : Ev (fun k => laws_FnFlaws.j5 k (W : Int) (H : Int) (n : Int) g ok false) true := by
  cases ok with
  | false =>
    refine Ev.step (f := fun _ => some true) (fun k => ?_) (Ev.now _)
    simp only [laws_FnFlaws.j5]
    rw [if_neg (by simp), if_neg (by simp)]
  | true =>
    obtain ⟨X, Y, V, U, e, h1, h2, h3, h4, hcf⟩ := hg rfl
    obtain ⟨_, em, iw⟩ := win4_win c.w c.h h1 h2 h3 h4
    obtain ⟨hc1, hc2⟩ := cut_filter c.w c.h h1 h2 h3 h4
    have cw := c.w
    have ch := c.h
    obtain ⟨_, _, hm, _⟩ := winM_all (W := W) (H := H) (by omega) (by omega) iw
    have hf : (((cutFour W H X Y V U).filter goodT).drop 0).foldl (cutPut W) (some (winM W X Y V U)) = some (2 ^ (W * H) - 1) := by
      rw [List.drop_zero, foldl_good]
      exact cut_all (by omega) (by omega) iw
    have hl : ((cutFour W H X Y V U).filter goodT).length ≤ 4 := List.length_filter_le _ _
    have g4 : g.length = 4 := by rw [e]; rfl
    have h5 := fl_l4 c g g4 hcf ((cutFour W H X Y V U).filter goodT) hl hc2 _ 0 (winM W X Y V U) (Nat.zero_add _) hm hf
    have em' : maskI (W : Int) (H : Int) g = ((winM W X Y V U : Nat) : Int) := by rw [e]; exact em
    have hc' : cutOf (W : Int) (H : Int) g = ((cutFour W H X Y V U).filter goodT).map rowT := by rw [e]; exact hc1
    refine Ev.step (f := fun k => (impl_WindowMask.f k (W : Int) (H : Int) g).bind fun t427 => ((impl_CutCloth.f (W : Int) (H : Int) g).bind fun t428 => (laws_FnFlaws.l4 k (W : Int) (H : Int) (n : Int) g t427 t428 (t428.length : Int) 0))) (fun k => ?_) ?_
    · simp only [laws_FnFlaws.j5]
      rw [if_neg (by simp), if_pos trivial]
    · exact Ev.bind (ev_eq (impl_WindowMask_ev _ _ _) em') (Ev.bind (ev_eq (impl_Cut_ev _ _ _) hc') h5)
theorem and_or_two (k n e : Nat) : k &&& (n ||| 2 ^ e) = 0 → k &&& n = 0 := by
  intro h
  apply Nat.eq_of_testBit_eq
  intro j
  have h1 : (k &&& (n ||| 2 ^ e)).testBit j = false := by rw [h]; exact Nat.zero_testBit _
  rw [Nat.testBit_and, Nat.testBit_or] at h1
  rw [Nat.testBit_and, Nat.zero_testBit]
  revert h1
  cases k.testBit j <;> cases n.testBit j <;> simp
theorem two_and (n e : Nat) : (2 ^ e &&& n = 0) ↔ n.testBit e = false := by
  constructor
  · intro h
    have h1 : (2 ^ e &&& n).testBit e = false := by rw [h]; exact Nat.zero_testBit _
    rw [Nat.testBit_and, Nat.testBit_two_pow, decide_eq_true rfl, Bool.true_and] at h1
    exact h1
  · intro h
    apply Nat.eq_of_testBit_eq
    intro j
    rw [Nat.testBit_and, Nat.testBit_two_pow, Nat.zero_testBit]
    by_cases ej : e = j
    · subst ej; rw [h, Bool.and_false]
    · simp [ej]
theorem count_less {W H n X Y : Nat} (c : Cloth W H n) (hx : X < W) (hy : Y < H) (ht : n.testBit (Y * W + X) = false) (c2 : Cloth W H (n + 2 ^ (Y * W + X))) :
    (allWin (W : Int) (H : Int) ((n + 2 ^ (Y * W + X) : Nat) : Int)).length < (allWin (W : Int) (H : Int) (n : Int)).length := by
  have cw := c.w
  have ch := c.h
  have hs := c.small
  have hs2 := c2.small
  have eo : n + 2 ^ (Y * W + X) = n ||| 2 ^ (Y * W + X) := (or_add n _ ht).symm
  obtain ⟨_, _, iw⟩ := win4_win (x := X) (y := Y) (v := 1) (u := 1) c.w c.h (by omega) (by omega) (by omega) (by omega)
  obtain ⟨_, _, _, h1⟩ := winM_all (W := W) (H := H) (by omega) (by omega) iw
  have p1 := (clear_iff (x := X) (y := Y) (v := 1) (u := 1) c (by omega) (by omega) (by omega) (by omega)).1
  have p2 := (clear_iff (x := X) (y := Y) (v := 1) (u := 1) c2 (by omega) (by omega) (by omega) (by omega)).1
  rw [h1] at p1 p2
  have q1 : clearB (W : Int) (H : Int) (n : Int) (win4 X Y 1 1) = true := by rw [p1, decide_eq_true_iff]; exact (two_and _ _).2 ht
  have q2 : clearB (W : Int) (H : Int) ((n + 2 ^ (Y * W + X) : Nat) : Int) (win4 X Y 1 1) = false := by
    rw [p2, decide_eq_false_iff_not, two_and, eo, Nat.testBit_or, Nat.testBit_two_pow, decide_eq_true rfl, Bool.or_true]
    simp
  have hmem : win4 X Y 1 1 ∈ allWin (W : Int) (H : Int) (n : Int) := mem_clear.2 ⟨X, Y, 1, 1, hx, hy, by omega, by omega, by omega, by omega, q1, rfl⟩
  rw [allWin_filter] at hmem
  have hmem2 := (List.mem_filter.1 hmem).1
  rw [allWin_filter W H (n : Int), allWin_filter W H ((n + 2 ^ (Y * W + X) : Nat) : Int)]
  refine (filter_less (clearB (W : Int) (H : Int) (n : Int)) (clearB (W : Int) (H : Int) ((n + 2 ^ (Y * W + X) : Nat) : Int)) (tells W H) ?_).2 ⟨_, hmem2, q1, q2⟩
  intro a _ hq
  unfold clearB at hq ⊢
  obtain ⟨k, ek, hk⟩ := maskI_nat (W : Int) (H : Int) a
  rw [ek] at hq ⊢
  rw [decide_eq_true_iff] at hq ⊢
  rw [and_nat k _ (by omega) (by omega), eo] at hq
  rw [and_nat k _ (by omega) (by omega)]
  have := and_or_two k n (Y * W + X) (by omega)
  omega
theorem fl_end (code : List Int) (hx : code.length ≤ 1048576) {W H n : Nat} (c : Cloth W H n) (g : List Int) (ok : Bool) (hg : ok = true → IsG W H n g) :
    Ev (fun k => laws_FnFlaws.l0 k code (W : Int) (H : Int) (n : Int) ((allWin (W : Int) (H : Int) (n : Int)).length : Int) g ok ((allWin (W : Int) (H : Int) (n : Int)).length : Int) (W : Int)) true := by
  have cw := c.w
  have ch := c.h
  have hs := c.small
  obtain ⟨v1, e1, a1, b1⟩ := size_ev code hx 30 0 (W - 1) (by omega) (by omega) (by omega) (by omega)
  obtain ⟨v2, e2, a2, b2⟩ := size_ev code hx 31 0 (H - 1) (by omega) (by omega) (by omega) (by omega)
  obtain ⟨X, rfl⟩ := Int.eq_ofNat_of_zero_le (show (0 : Int) ≤ v1 by omega)
  obtain ⟨Y, rfl⟩ := Int.eq_ofNat_of_zero_le (show (0 : Int) ≤ v2 by omega)
  have hX : X < W := by omega
  have hY : Y < H := by omega
  have hYW : (Y + 1) * W ≤ H * W := Nat.mul_le_mul_right W hY
  rw [Nat.succ_mul, Nat.mul_comm H W] at hYW
  have he : Y * W + X < W * H := by omega
  have eYW : (Y : Int) * (W : Int) = ((Y * W : Nat) : Int) := by rw [Int.natCast_mul]
  obtain ⟨_, em⟩ := mark_spec (W : Int) (H : Int) (n : Int) (X : Int) (Y : Int) c.shape (by omega) (by omega) n (Y * W + X) rfl (by rw [eYW]; omega) (by rw [eYW]; omega) (by omega) (by omega)
  have w1 : wrap64 ((W : Int) - 1) = ((W - 1 : Nat) : Int) := by rw [w64 (by omega) (by omega)]; omega
  have w2 : wrap64 ((H : Int) - 1) = ((H - 1 : Nat) : Int) := by rw [w64 (by omega) (by omega)]; omega
  obtain ⟨_, _, iw⟩ := win4_win (x := X) (y := Y) (v := 1) (u := 1) c.w c.h (by omega) (by omega) (by omega) (by omega)
  obtain ⟨_, _, _, h1⟩ := winM_all (W := W) (H := H) (by omega) (by omega) iw
  have ei : isClear (W : Int) (H : Int) (n : Int) ([(X : Int), (Y : Int), 1, 1]) = !n.testBit (Y * W + X) := by
    have e0 : ([(X : Int), (Y : Int), 1, 1] : List Int) = win4 X Y 1 1 := rfl
    rw [e0, isClear_win c (by omega) (by omega) (by omega) (by omega), (clear_iff c (by omega) (by omega) (by omega) (by omega)).1, h1]
    have t2 := two_and n (Y * W + X)
    cases ht : n.testBit (Y * W + X) with
    | true =>
      rw [ht] at t2
      exact decide_eq_false (fun z => by have := t2.1 z; cases this)
    | false =>
      exact decide_eq_true (t2.2 ht)
  have e5 := fl_j5 c g ok hg
  generalize hcnt : ((allWin (W : Int) (H : Int) (n : Int)).length : Int) = cnt
  refine Ev.step (f := fun k => (spec_MakeSize.f k code 30 0 ((W - 1 : Nat) : Int)).bind fun t416 => ((spec_MakeSize.f k code 31 0 ((H - 1 : Nat) : Int)).bind fun t417 => ((impl_MarkFlaw.f (W : Int) (H : Int) (n : Int) t416 t417).bind fun bt418 => ((impl_IsClear.f k (W : Int) (H : Int) (n : Int) (([t416, t417, 1, 1] : List Int))).bind fun t423 => (if (bt418.2 != t423) = true then (none) else (if bt418.2 = true then ((impl_CountClear.f k (W : Int) (H : Int) bt418.1).bind fun t424 => (if t424 ≥ cnt then (none) else ((laws_cells.f k bt418.1).bind fun t425 => ((laws_cells.f k (n : Int)).bind fun t426 => (laws_FnFlaws.j5 k (W : Int) (H : Int) (n : Int) g ok (t425 != (wrap64 (t426 + 1)))))))) else (laws_FnFlaws.j5 k (W : Int) (H : Int) (n : Int) g ok false))))))) (fun k => ?_) ?_
  · simp only [laws_FnFlaws.l0]
    rw [if_neg (Int.lt_irrefl _), w1, w2]
    congr 1
  · refine Ev.bind e1 ?_
    refine Ev.bind e2 ?_
    refine Ev.bind (ev_const em) ?_
    refine Ev.bind (ev_eq (impl_IsClear_ev _ _ _ _) ei) ?_
    cases ht : n.testBit (Y * W + X) with
    | true =>
      refine Ev.congr (fun k => if_neg (by simp)) ?_
      refine Ev.congr (fun k => if_neg (by simp)) ?_
      exact e5
    | false =>
      have hlt : n + 2 ^ (Y * W + X) < 2 ^ (W * H) := by
        rw [← or_add n _ ht]
        exact Nat.or_lt_two_pow c.n (Nat.pow_lt_pow_right (by omega) he)
      have c2 : Cloth W H (n + 2 ^ (Y * W + X)) := ⟨c.w, c.h, hlt⟩
      have hless := count_less c hX hY ht c2
      have ec := impl_Count_ev c2
      have ece := cells_ev (W * H) (n + 2 ^ (Y * W + X)) (by omega) hlt
      have ece2 := cells_ev (W * H) n (by omega) c.n
      have ea := popC_add (W * H) (Y * W + X) n he ht
      have hle := popC_le (W * H) n
      refine Ev.congr (fun k => if_neg (by simp)) ?_
      refine Ev.congr (fun k => if_pos (by simp)) ?_
      refine Ev.bind ec ?_
      refine Ev.congr (fun k => if_neg (by omega)) ?_
      refine Ev.bind ece ?_
      refine Ev.bind ece2 ?_
      have en : (((popC (W * H) (n + 2 ^ (Y * W + X)) : Nat) : Int) != wrap64 (((popC (W * H) n : Nat) : Int) + 1)) = false := by
        rw [ea, w64 (by omega) (by omega)]
        simp
      rw [en]
      exact e5
theorem tri_w (W : Nat) (h : 1 ≤ W ∧ W ≤ 5) : wrap64 (Int.tdiv (wrap64 ((W : Int) * wrap64 ((W : Int) + 1))) 2) = ((W * (W + 1) / 2 : Nat) : Int) := by
  have : W = 1 ∨ W = 2 ∨ W = 3 ∨ W = 4 ∨ W = 5 := by omega
  rcases this with rfl | rfl | rfl | rfl | rfl <;> decide +kernel
theorem tri_le (W : Nat) (h : 1 ≤ W ∧ W ≤ 5) : W * (W + 1) / 2 ≤ 15 := by
  have : W = 1 ∨ W = 2 ∨ W = 3 ∨ W = 4 ∨ W = 5 := by omega
  rcases this with rfl | rfl | rfl | rfl | rfl <;> decide +kernel
theorem laws_FnFlaws_ev (code : List Int) (hx : code.length ≤ 1048576) : Ev (fun k => laws_FnFlaws.f k code) true := by
  obtain ⟨W, H, n, em, hw, hh, hn⟩ := makeFlaws_ev code hx
  have c : Cloth W H n := ⟨hw, hh, hn⟩
  have c0 : Cloth W H 0 := ⟨hw, hh, Nat.two_pow_pos _⟩
  have hs := c.small
  have ec := impl_Count_ev c
  have ec0 := impl_Count_ev c0
  have ewh := wrap_wh c
  have ece := cells_ev (W * H) n (by omega) hn
  have hcs := clear_some c
  have hle := popC_le (W * H) n
  have eg : greatest (W : Int) (H : Int) (n : Int) = finI (bestI (allWin (W : Int) (H : Int) (n : Int)) none) := by
    unfold greatest
    rw [if_pos c.shape]
  obtain ⟨hb1, hb2⟩ := best_none (allWin (W : Int) (H : Int) (n : Int))
  rw [← eg] at hb1 hb2
  have e0 : ((allWin (W : Int) (H : Int) ((0 : Nat) : Int)).length : Int) = wrap64 (wrap64 (Int.tdiv (wrap64 ((W : Int) * wrap64 ((W : Int) + 1))) 2) * wrap64 (Int.tdiv (wrap64 ((H : Int) * wrap64 ((H : Int) + 1))) 2)) := by
    rw [tri_w W hw, tri_w H hh, allWin_filter, show (tells W H).filter (clearB (W : Int) (H : Int) ((0 : Nat) : Int)) = tells W H from List.filter_eq_self.2 (fun a _ => clearB_zero _ _ a), tells_len W (by omega) H (by omega)]
    have h1 := tri_le W hw
    have h2 := tri_le H hh
    have h3 : (W * (W + 1) / 2) * (H * (H + 1) / 2) ≤ 15 * 15 := Nat.mul_le_mul h1 h2
    rw [← Int.natCast_mul, w64 (by omega) (by omega)]
  have eL : allX W H (n : Int) W 0 [] = allWin (W : Int) (H : Int) (n : Int) := by
    unfold allWin
    rw [Int.toNat_natCast, Int.toNat_natCast]
  generalize hgr : greatest (W : Int) (H : Int) (n : Int) = gr at *
  obtain ⟨g, ok⟩ := gr
  have hpos : ok = true → 0 < (allWin (W : Int) (H : Int) (n : Int)).length := fun z => by
    have : decide (0 < (allWin (W : Int) (H : Int) (n : Int)).length) = true := by rw [← hb1]; exact z
    exact of_decide_eq_true this
  have hG : ok = true → (IsG W H n g ∧ isClear (W : Int) (H : Int) (n : Int) g = true ∧ ∀ a ∈ allWin (W : Int) (H : Int) (n : Int), prodW a ≤ prodW g) := by
    intro z
    obtain ⟨g', l1, l2, q1, q2, q3, q4⟩ := hb2 (hpos z)
    obtain rfl : g = g' := congrArg Prod.fst q1
    have hm : g ∈ allWin (W : Int) (H : Int) (n : Int) := by rw [q2]; simp
    obtain ⟨x, y, v, u, m1, m2, m3, m4, m5, m6, m7, m8⟩ := mem_clear.1 hm
    refine ⟨⟨x, y, v, u, m8, m4, m6, m3, m5, ?_⟩, ?_, q4⟩
    · unfold clearFor
      rw [if_pos c.shape, q2]
      exact clearForL_first g l1 l2 q3
    · rw [m8, isClear_win c m4 m6 m3 m5]
      exact m7
  have hGreat : Great W H n g ok := ⟨fun a ha => by
    have h0 : 0 < (allWin (W : Int) (H : Int) (n : Int)).length := List.length_pos_of_mem ha
    have hok : ok = true := by rw [show ok = decide (0 < (allWin (W : Int) (H : Int) (n : Int)).length) from hb1]; exact decide_eq_true h0
    obtain ⟨⟨x, y, v, u, m8, _⟩, _, h4⟩ := hG hok
    exact ⟨hok, by rw [m8]; rfl, h4 a ha⟩⟩
  have hend := fl_end code hx c g ok (fun z => (hG z).1)
  have hX := fl_X c code g ok ((allWin (W : Int) (H : Int) (n : Int)).length : Int) hGreat W 0 [] (by omega) (by simp; omega) (by rw [eL]; exact hend)
  have hj : Ev (fun k => laws_FnFlaws.j0 k code (W : Int) (H : Int) (n : Int) ((allWin (W : Int) (H : Int) (n : Int)).length : Int) g ok false) true := by
    refine Ev.step (fun k => ?_) hX
    simp only [laws_FnFlaws.j0]
    rw [if_neg (by simp)]
    rfl
  have eq1 : (ok != decide (((allWin (W : Int) (H : Int) (n : Int)).length : Int) > 0)) = false := by
    rw [show ok = decide (0 < (allWin (W : Int) (H : Int) (n : Int)).length) from hb1, bne_eq_false_iff_eq, decide_eq_decide]
    omega
  have eq2 : (ok != decide (((popC (W * H) n : Nat) : Int) < ((W * H : Nat) : Int))) = false := by
    rw [show ok = decide (0 < (allWin (W : Int) (H : Int) (n : Int)).length) from hb1, bne_eq_false_iff_eq, decide_eq_decide]
    omega
  generalize hL : allWin (W : Int) (H : Int) (n : Int) = L at *
  have nn : ¬ (L.length : Int) < 0 := by omega
  have nx : ¬ (code.length : Int) > 1048576 := by omega
  unfold laws_FnFlaws.f
  refine Ev.congr (fun k => if_neg nx) ?_
  refine Ev.bind em ?_
  refine Ev.bind ec ?_
  refine Ev.bind (ev_eq (impl_Greatest_ev _ _ _) hgr) ?_
  refine Ev.congr (fun k => if_neg (by rw [eq1]; simp)) ?_
  refine Ev.bind ece ?_
  simp only [ewh]
  refine Ev.congr (fun k => if_neg (by rw [eq2]; simp)) ?_
  refine Ev.congr (fun k => if_neg nn) ?_
  refine Ev.bind ec0 ?_
  refine Ev.congr (fun k => if_pos e0) ?_
  cases ok with
  | false =>
    refine Ev.congr (fun k => if_neg (by simp)) ?_
    exact hj
  | true =>
    obtain ⟨⟨x, y, v, u, m8, _⟩, h2, _⟩ := hG rfl
    refine Ev.congr (fun k => if_pos rfl) ?_
    refine Ev.bind (ev_eq (impl_IsClear_ev _ _ _ _) h2) ?_
    refine Ev.congr (fun k => if_pos rfl) ?_
    have e4 : ((g.length : Int) != 4) = false := by rw [m8]; rfl
    simp only [e4]
    exact hj
end Go.Proofs.Ytoildabjnioafaa.PA
/- The law FnFlaws holds of the program, for every input; no condition. -/
namespace Go.Proofs.Ytoildabjnioafaa.Pure
open Go.RowKit Go.Proofs.Ytoildabjnioafaa.PA Go.Proofs.YtoildabjnioafaaW.PrintWords Go.Proofs.YtoildabjnioafaaW.PrintLast Go.Proofs.YtoildabjnioafaaW.PrintMore
set_option linter.unusedVariables false
set_option linter.unusedSimpArgs false
theorem FnFlaws : laws_FnFlaws.Pure := by
  intro l0 _ _ _
  by_cases c : (l0.length : Int) > 1048576
  · exact ⟨0, by unfold laws_FnFlaws.f; rw [if_pos c]⟩
  · exact Ev.rounds (g := fun k => laws_FnFlaws.f k l0) (laws_FnFlaws_ev l0 (by omega))
end Go.Proofs.Ytoildabjnioafaa.Pure
-- Written for this claim by a program of this session's (ownprint.py), by way of the kit's print and hand-proved texts. Lean checks it.
namespace Go.Proofs.Ytoildabjnioafaa.fnFlaws
open Go.ChangeShapes Go.WideShapes Go.ChangeAt Go.RowKit
open Go.ChangeMaps (open_string shut_string)
set_option linter.unusedVariables false
theorem own : ownKnob Try.prog.godebug = none := by kernel_rfl
theorem laidOut : laidOutB Try.prog = true := by kernel_rfl
def IsRow (k : IntKind) (w : World) (a : Option Addr) (len cap : Nat) (zs : List Int) : Prop :=
  (a = none ∧ len = 0 ∧ cap = 0 ∧ zs = []) ∨
  ∃ x, a = some x ∧ len ≤ cap ∧ cap ≤ maxLen ∧ zs.length = cap ∧ (∀ i, i < zs.length → w.cell? (x.add i) = some (.int k (zs.getD i 0))) ∧ ∀ n ∈ zs, (Lit.int k n).wf = true
set_option maxRecDepth 100000 in
theorem lifted (os : Os) (started : os.Started) (H : Type) (enc : TypeId × Value → H) :
    ReturnsInHanded {} Try.checked os 13 .any (Rows.fnFlawsSpec.pre6 enc Try.prog Try.f13 Rows.fnFlawsRow.domain false) (Rows.fnFlawsSpec.post enc Try.prog Try.f13 false true false false) := by
  refine returnsInHanded_of_change_sized (C := Try.checked) own started (by kernel_rfl) Try.func13
    (ChangeSpec.witness6 (enc := enc) (C := Try.checked) false ⟨#[], #[.slice none 0 0], []⟩ 8 (by kernel_rfl) (by kernel_rfl) (by kernel_rfl) (by kernel_rfl)) ?_
  intro W base args ds gs before hval0 hW hcnd hsz0 _
  have hsz : (DataW.weightsEach Try.prog (Try.f13.params.toList ++ Rows.fnFlawsSpec.plain.varTypes Try.prog) (ds ++ gs)).all (· ≤ reachBytes) = true := hsz0
  have hval : ∀ (j : Nat) t v, Try.f13.params[j]? = some t → args[j]? = some v → Value.okWide Try.prog W .any base t v := hval0
  have hW' := hW
  obtain ⟨p, q, hA0, hV, rfl, hfz, hnd⟩ := hW
  have hA : DataW.TrodAll enc Try.prog W 0 (fun _ => true) true Try.f13.params.toList args.toList ds p := hA0
  rw [Try.params13] at hA hval hsz
  obtain ⟨v0, vs0, d0, ds0, p0, q0, hargs, rfl, rfl, h0, r0⟩ := trodAll_cons hA
  obtain ⟨rfl, rfl, rfl⟩ := trodAll_nil r0
  obtain rfl : args = #[v0] := by cases args; simp_all
  obtain ⟨rfl, rfl⟩ := trodVars_none hV
  obtain ⟨a0, len0, cap0, rfl⟩ := okWide_slice Try.underlying45 (hval 0 45 v0 rfl rfl)
  have k0 := h0
  have lt0 : ∀ x ∈ p0, x.block < W.heap.size := by obtain ⟨m, hm⟩ := k0; exact DataW.trod_lt m _ _ _ hm
  obtain ⟨z0, w0⟩ : ∃ zs, IsRow .u8 W a0 len0 cap0 zs := by
    obtain ⟨fuel, hf⟩ := h0
    rcases open_ints Try.underlying45 Try.underlying5 (by kernel_rfl) hf with ⟨hcs, _⟩ | ⟨x, l, c, zs, hcs, _, hl, hm, hz, _, hcell, hwz⟩
    · simp [Value.cells] at hcs
      obtain ⟨rfl, rfl, rfl⟩ := hcs
      exact ⟨[], .inl ⟨rfl, rfl, rfl, rfl⟩⟩
    · simp [Value.cells] at hcs
      obtain ⟨rfl, rfl, rfl⟩ := hcs
      exact ⟨zs, .inr ⟨_, rfl, hl, hm, by simpa using hz, hcell, hwz⟩⟩
  have y0 : len0 * 1 ≤ 140737488351232 := Go.Proofs.YtoildabjnioafaaW.PrintWords.sized_ints hsz (j := 0) (t := 45) rfl rfl Try.underlying45 Try.underlying5 (by kernel_rfl) (by kernel_rfl) h0
  clear hA0 hval0 hsz0 hsz
  refine (PA.laws_FnFlaws.walk Pure.FnFlaws a0 len0 cap0 z0 W w0 y0).mono fun e W' ⟨he, bel⟩ => ?_
  subst he
  exact ⟨_, rfl, _, _, _, [], _, [], hW', trodAll_mk1 (shut_bool Try.underlying4 _), (trodAll_cons_mk (Below.trod laidOut (by kernel_rfl) (of_decide_eq_true (by kernel_rfl)) k0 bel lt0) trodAll_mk0), rfl, bel.frame _, fun h => by cases h⟩
theorem over : Rows.fnFlawsRow.holds Try.pinned (OpenSpec.ofChange Rows.fnFlawsSpec) :=
  OpenClaim.holds_of_wide 13 Try.f13 rfl rfl rfl rfl rfl rfl rfl ⟨rfl, rfl, rfl, rfl, rfl⟩ rfl rfl rfl rfl rfl (by kernel_rfl) Try.func13 (by kernel_rfl)
    (of_decide_eq_true (by kernel_rfl)) (by unfold Func.isWrapper; first | (rw [if_pos (by decide +kernel)]; kernel_rfl) | (rw [if_neg (by decide +kernel)]; exact ⟨rfl, rfl⟩))
    (fun os started H enc _ => lifted os started H enc)
theorem proved : Rows.FnFlawsSaid := over
#print axioms proved
end Go.Proofs.Ytoildabjnioafaa.fnFlaws
namespace Go.Proofs.Ytoildabjnioafaa
/-- The row, under a short name, for the claim. -/
theorem fnFlaws_holds : Rows.FnFlawsSaid := fnFlaws.proved
end Go.Proofs.Ytoildabjnioafaa

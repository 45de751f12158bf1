/- Window masks: both functions fill the same bits. -/
import Derived.Test.YtoildabjnioafaaLibAs
import Derived.Test.YtoildabjnioafaaPAx11
import Derived.Test.YtoildabjnioafaaPAx13
namespace Go.Proofs.Ytoildabjnioafaa.PA
open Go.RowKit Go.Proofs.YtoildabjnioafaaW.PrintWords Go.Proofs.YtoildabjnioafaaW.PrintLast Go.Proofs.YtoildabjnioafaaW.PrintMore
set_option linter.unusedVariables false
set_option linter.unusedSimpArgs false

/-! window masks -/
def cellsM : Nat → Nat → Nat → Nat
  | _, 0, m => m
  | e, c + 1, m => cellsM (e + 1) c (m + 2 ^ e)
def rowsM (w v : Nat) : Nat → Nat → Nat → Nat
  | _, 0, m => m
  | s, r + 1, m => rowsM w v (s + w) r (cellsM s v m)
theorem cellsM_lt : ∀ (c e m : Nat), m < 2 ^ e → cellsM e c m < 2 ^ (e + c) := by
  intro c
  induction c with
  | zero => intro e m h; simpa [cellsM] using h
  | succ c ih =>
    intro e m h
    have := ih (e + 1) (m + 2 ^ e) (by rw [Nat.pow_succ]; omega)
    rw [show e + 1 + c = e + (c + 1) by omega] at this
    exact this
theorem rowsM_lt (w v : Nat) (hv : v ≤ w) : ∀ (r s m : Nat), m < 2 ^ s → rowsM w v s r m < 2 ^ (s + r * w) := by
  intro r
  induction r with
  | zero => intro s m h; simpa [rowsM] using h
  | succ r ih =>
    intro s m h
    have h1 := cellsM_lt v s m h
    have h2 : (2 : Nat) ^ (s + v) ≤ 2 ^ (s + w) := Nat.pow_le_pow_right (by omega) (by omega)
    have := ih (s + w) (cellsM s v m) (by omega)
    rw [show s + w + r * w = s + (r + 1) * w by rw [Nat.succ_mul]; omega] at this
    exact this
theorem rowsM_top (w v : Nat) (hv : v ≤ w) : ∀ (r s m : Nat), m < 2 ^ s → 0 < r → rowsM w v s r m < 2 ^ (s + (r - 1) * w + v) := by
  intro r
  induction r with
  | zero => intro s m _ h; omega
  | succ r ih =>
    intro s m h _
    have h1 := cellsM_lt v s m h
    by_cases hr : r = 0
    · subst hr
      simpa [rowsM] using h1
    · have h2 : (2 : Nat) ^ (s + v) ≤ 2 ^ (s + w) := Nat.pow_le_pow_right (by omega) (by omega)
      have := ih (s + w) (cellsM s v m) (by omega) (by omega)
      have e : s + w + (r - 1) * w + v = s + (r + 1 - 1) * w + v := by
        obtain ⟨q, rfl⟩ : ∃ q, r = q + 1 := ⟨r - 1, by omega⟩
        simp only [Nat.add_sub_cancel, Nat.succ_mul]
        omega
      rw [e] at this
      exact this
theorem pow_small {e : Nat} (h : e ≤ 36) : (0 : Int) ≤ ((2 ^ e : Nat) : Int) ∧ ((2 ^ e : Nat) : Int) ≤ 68719476736 ∧ 2 ^ e ≤ 68719476736 := by
  have h1 : (2 : Nat) ^ e ≤ 2 ^ 36 := Nat.pow_le_pow_right (by omega) h
  have h2 : (2 : Nat) ^ 36 = 68719476736 := rfl
  rw [h2] at h1
  exact ⟨Int.natCast_nonneg _, by omega, h1⟩
structure Win (w h : Int) (l : List Int) (W H X Y V U : Nat) : Prop where
  w : w = W
  h : h = H
  l : l = [(X : Int), (Y : Int), (V : Int), (U : Int)]
  w6 : 1 ≤ W ∧ W ≤ 6
  h6 : 1 ≤ H ∧ H ≤ 6
  v1 : 1 ≤ V ∧ 1 ≤ U
  fit : X + V ≤ W ∧ Y + U ≤ H
theorem winOk_win {w h : Int} {l : List Int} (c : winOk w h l = true) : ∃ W H X Y V U, Win w h l W H X Y V U := by
  unfold winOk at c
  obtain ⟨h1, h2, h3, h4, h5, c⟩ := of_decide_eq_true c
  obtain ⟨x, y, v, u, rfl⟩ := four h5
  obtain ⟨r0, r1, r2, r3⟩ := rd4 x y v u
  rw [r0, r1, r2, r3] at c
  refine ⟨w.toNat, h.toNat, x.toNat, y.toNat, v.toNat, u.toNat, ⟨by omega, by omega, ?_, by omega, by omega, by omega, by omega⟩⟩
  rw [Int.toNat_of_nonneg (by omega), Int.toNat_of_nonneg (by omega), Int.toNat_of_nonneg (by omega), Int.toNat_of_nonneg (by omega)]
theorem win_ok {w h : Int} {l : List Int} {W H X Y V U : Nat} (c : Win w h l W H X Y V U) : winOk w h l = true := by
  obtain ⟨rfl, rfl, rfl, _, _, _, _⟩ := c
  unfold winOk
  obtain ⟨r0, r1, r2, r3⟩ := rd4 (X : Int) Y V U
  rw [r0, r1, r2, r3]
  exact decide_eq_true (by simp; omega)
theorem row_top {Y U H W : Nat} {i : Nat} (hi : i < U) (hY : Y + U ≤ H) (hH : H ≤ 6) (hW : W ≤ 6) : (Y + i) * W + W ≤ 36 := by
  have h1 : (Y + i + 1) * W ≤ 6 * 6 := Nat.mul_le_mul (by omega) hW
  rw [Nat.succ_mul] at h1
  omega
theorem spec_l1 {W X Y V U : Nat} {r : Int} (hW : W ≤ 6) (hX : X + V ≤ 6) (i : Nat) : ∀ (c j e m : Nat), j + c = V → (Y + i) * W + X + j = e → e + c ≤ 36 → m < 2 ^ e → Y + i ≤ 6 →
    Ev (fun k => spec_l20Mask.l0 k W [(X : Int), (Y : Int), (V : Int), (U : Int)] ((cellsM e c m : Nat) : Int) ((Y + i + 1 : Nat) : Int)) r →
    Ev (fun k => spec_l20Mask.l1 k W [(X : Int), (Y : Int), (V : Int), (U : Int)] (m : Int) ((Y + i : Nat) : Int) ((X + j : Nat) : Int)) r := by
  intro c
  obtain ⟨r0, r1, r2, r3⟩ := rd4 (X : Int) Y V U
  induction c with
  | zero =>
    intro j e m hj he h36 hm hY hk
    refine Ev.step (f := fun k => spec_l20Mask.l0 k W [(X : Int), (Y : Int), (V : Int), (U : Int)] (m : Int) ((Y + i + 1 : Nat) : Int)) (fun k => ?_) hk
    simp only [spec_l20Mask.l1]
    rw [if_pos (by simp), if_pos (by simp), r0, r2, w64 (x := (X : Int) + V) (by omega) (by omega), if_neg (by omega), w64 (by omega) (by omega)]
    simp
  | succ c ih =>
    intro j e m hj he h36 hm hY hk
    have hp := pow_small (e := e) (by omega)
    refine Ev.step (f := fun k => spec_l20Mask.l1 k W [(X : Int), (Y : Int), (V : Int), (U : Int)] ((m + 2 ^ e : Nat) : Int) ((Y + i : Nat) : Int) ((X + (j + 1) : Nat) : Int)) (fun k => ?_) (ih (j + 1) (e + 1) (m + 2 ^ e) (by omega) (by omega) (by omega) (by rw [Nat.pow_succ]; omega) hY hk)
    simp only [spec_l20Mask.l1]
    have hmul : (((Y + i : Nat) : Int) * (W : Int)) = (((Y + i) * W : Nat) : Int) := by simp
    rw [if_pos (by simp), if_pos (by simp), r0, r2, w64 (x := (X : Int) + V) (by omega) (by omega), if_pos (by omega), hmul, w64 (x := (((Y + i) * W : Nat) : Int)) (by omega) (by omega),
      show ((((Y + i) * W : Nat) : Int) + ((X + j : Nat) : Int)) = (e : Int) by omega, w64 (x := (e : Int)) (by omega) (by omega), if_pos (by omega), shl_one e (by omega), w64 (by omega) (by omega), w64 (by omega) (by omega)]
    rw [show ((m : Int) + ((2 ^ e : Nat) : Int)) = ((m + 2 ^ e : Nat) : Int) by omega, show (((X + j : Nat) : Int) + 1) = ((X + (j + 1) : Nat) : Int) by omega]
theorem spec_l0 {W H X Y V U : Nat} (hW : W ≤ 6) (hX : X + V ≤ W) (hH : H ≤ 6) (hY : Y + U ≤ H) : ∀ (d i s m : Nat), i + d = U → (Y + i) * W + X = s → m < 2 ^ s →
    Ev (fun k => spec_l20Mask.l0 k W [(X : Int), (Y : Int), (V : Int), (U : Int)] (m : Int) ((Y + i : Nat) : Int)) ((rowsM W V s d m : Nat) : Int) := by
  intro d
  obtain ⟨r0, r1, r2, r3⟩ := rd4 (X : Int) Y V U
  induction d with
  | zero =>
    intro i s m hi hs hm
    refine Ev.step (f := fun k => some (m : Int)) (fun k => ?_) (Ev.now _)
    simp only [spec_l20Mask.l0]
    rw [if_pos (by simp), if_pos (by simp), r1, r3, w64 (x := (Y : Int) + U) (by omega) (by omega), if_neg (by omega)]
  | succ d ih =>
    intro i s m hi hs hm
    have ht := row_top (i := i) (by omega) hY hH hW
    have h1 := cellsM_lt V s m hm
    have h2 : (2 : Nat) ^ (s + V) ≤ 2 ^ (s + W) := Nat.pow_le_pow_right (by omega) (by omega)
    have hn := ih (i + 1) (s + W) (cellsM s V m) (by omega) (by rw [← hs, show Y + (i + 1) = (Y + i) + 1 by omega, Nat.succ_mul]; omega) (by omega)
    refine Ev.step (f := fun k => spec_l20Mask.l1 k W [(X : Int), (Y : Int), (V : Int), (U : Int)] (m : Int) ((Y + i : Nat) : Int) ((X + 0 : Nat) : Int)) (fun k => ?_) (spec_l1 hW (by omega) i V 0 s m (by omega) (by omega) (by omega) hm (by omega) hn)
    simp only [spec_l20Mask.l0]
    rw [if_pos (by simp), if_pos (by simp), r1, r3, w64 (x := (Y : Int) + U) (by omega) (by omega), if_pos (by omega), if_pos (by simp), r0]
    rfl
theorem spec_mask_ev {w h : Int} {l : List Int} {W H X Y V U : Nat} (c : Win w h l W H X Y V U) : Ev (fun k => spec_l20Mask.f k w l) ((rowsM W V (Y * W + X) U 0 : Nat) : Int) := by
  obtain ⟨rfl, rfl, rfl, h1, h2, h3, h4⟩ := c
  refine Ev.congr (fun k => ?_) (spec_l0 (H := H) (Y := Y) (U := U) h1.2 h4.1 h2.2 h4.2 U 0 (Y * W + X) 0 (by omega) (by simp) (Nat.two_pow_pos _))
  unfold spec_l20Mask.f
  rw [if_pos (by simp)]
  rfl
theorem impl_l1 {W X Y V U : Nat} {r : Int} (hW : W ≤ 6) (hX : X + V ≤ 6) (i : Nat) : ∀ (c j e m : Nat), j + c = V → (Y + i) * W + X + j = e → e + c ≤ 36 → m < 2 ^ e → Y + i ≤ 6 →
    Ev (fun k => impl_WindowMask.l0 k W [(X : Int), (Y : Int), (V : Int), (U : Int)] ((cellsM e c m : Nat) : Int) U ((i + 1 : Nat) : Int)) r →
    Ev (fun k => impl_WindowMask.l1 k W [(X : Int), (Y : Int), (V : Int), (U : Int)] (m : Int) (i : Int) U (i : Int) V (j : Int)) r := by
  intro c
  obtain ⟨r0, r1, r2, r3⟩ := rd4 (X : Int) Y V U
  induction c with
  | zero =>
    intro j e m hj he h36 hm hY hk
    refine Ev.step (f := fun k => impl_WindowMask.l0 k W [(X : Int), (Y : Int), (V : Int), (U : Int)] (m : Int) U ((i + 1 : Nat) : Int)) (fun k => ?_) hk
    simp only [impl_WindowMask.l1]
    rw [if_neg (by omega), w64 (by omega) (by omega)]
    simp
  | succ c ih =>
    intro j e m hj he h36 hm hY hk
    have hp := pow_small (e := e) (by omega)
    refine Ev.step (f := fun k => impl_WindowMask.l1 k W [(X : Int), (Y : Int), (V : Int), (U : Int)] ((m + 2 ^ e : Nat) : Int) (i : Int) U (i : Int) V ((j + 1 : Nat) : Int)) (fun k => ?_) (ih (j + 1) (e + 1) (m + 2 ^ e) (by omega) (by omega) (by omega) (by rw [Nat.pow_succ]; omega) hY hk)
    simp only [impl_WindowMask.l1]
    have hmul : (((Y : Int) + (i : Int)) * (W : Int)) = (((Y + i) * W : Nat) : Int) := by simp
    rw [if_pos (by omega), if_pos (by simp), if_pos (by simp), r0, r1, w64 (x := (Y : Int) + i) (by omega) (by omega), hmul, w64 (x := (((Y + i) * W : Nat) : Int)) (by omega) (by omega),
      w64 (x := (((Y + i) * W : Nat) : Int) + X) (by omega) (by omega), show ((((Y + i) * W : Nat) : Int) + (X : Int) + (j : Int)) = (e : Int) by omega, w64 (x := (e : Int)) (by omega) (by omega), if_pos (by omega), shl_one e (by omega),
      or_nat m (2 ^ e) (by omega) (by omega), or_add m e (test_lt m e e hm (Nat.le_refl _)), w64 (by omega) (by omega)]
    simp
theorem impl_l0 {W H X Y V U : Nat} (hW : W ≤ 6) (hX : X + V ≤ W) (hH : H ≤ 6) (hY : Y + U ≤ H) : ∀ (d i s m : Nat), i + d = U → (Y + i) * W + X = s → m < 2 ^ s →
    Ev (fun k => impl_WindowMask.l0 k W [(X : Int), (Y : Int), (V : Int), (U : Int)] (m : Int) U (i : Int)) ((rowsM W V s d m : Nat) : Int) := by
  intro d
  obtain ⟨r0, r1, r2, r3⟩ := rd4 (X : Int) Y V U
  induction d with
  | zero =>
    intro i s m hi hs hm
    refine Ev.step (f := fun k => some (m : Int)) (fun k => ?_) (Ev.now _)
    simp only [impl_WindowMask.l0]
    rw [if_neg (by omega)]
  | succ d ih =>
    intro i s m hi hs hm
    have ht := row_top (i := i) (by omega) hY hH hW
    have h1 := cellsM_lt V s m hm
    have h2 : (2 : Nat) ^ (s + V) ≤ 2 ^ (s + W) := Nat.pow_le_pow_right (by omega) (by omega)
    have hn := ih (i + 1) (s + W) (cellsM s V m) (by omega) (by rw [← hs, show Y + (i + 1) = (Y + i) + 1 by omega, Nat.succ_mul]; omega) (by omega)
    refine Ev.step (f := fun k => impl_WindowMask.l1 k W [(X : Int), (Y : Int), (V : Int), (U : Int)] (m : Int) (i : Int) U (i : Int) V ((0 : Nat) : Int)) (fun k => ?_) (impl_l1 hW (by omega) i V 0 s m (by omega) (by omega) (by omega) hm (by omega) hn)
    simp only [impl_WindowMask.l0]
    rw [if_pos (by omega), if_pos (by simp), r2]
    rfl
theorem impl_mask_ev {w h : Int} {l : List Int} {W H X Y V U : Nat} (c : Win w h l W H X Y V U) : Ev (fun k => impl_WindowMask.f k w h l) ((rowsM W V (Y * W + X) U 0 : Nat) : Int) := by
  have hc := win_ok c
  obtain ⟨rfl, rfl, rfl, h1, h2, h3, h4⟩ := c
  refine Ev.congr (fun k => ?_) (impl_l0 (H := H) (Y := Y) (U := U) h1.2 h4.1 h2.2 h4.2 U 0 (Y * W + X) 0 (by omega) (by simp) (Nat.two_pow_pos _))
  unfold impl_WindowMask.f
  rw [impl_WindowOk_eq]
  simp only [Option.bind_some]
  rw [if_pos hc, if_pos (by simp)]
  rfl
/-- The mask of a window, a natural number; 0 where it is none. -/
def maskI (w h : Int) (l : List Int) : Int := if winOk w h l then ((rowsM w.toNat (rd l 2).toNat ((rd l 1).toNat * w.toNat + (rd l 0).toNat) (rd l 3).toNat 0 : Nat) : Int) else 0
theorem maskI_win {w h : Int} {l : List Int} {W H X Y V U : Nat} (c : Win w h l W H X Y V U) : maskI w h l = ((rowsM W V (Y * W + X) U 0 : Nat) : Int) := by
  unfold maskI
  rw [if_pos (win_ok c)]
  obtain ⟨rfl, rfl, rfl, h1, h2, h3, h4⟩ := c
  obtain ⟨r0, r1, r2, r3⟩ := rd4 (X : Int) Y V U
  rw [r0, r1, r2, r3]
  simp
theorem impl_WindowMask_ev (w h : Int) (l : List Int) : Ev (fun k => impl_WindowMask.f k w h l) (maskI w h l) := by
  by_cases c : winOk w h l = true
  · obtain ⟨W, H, X, Y, V, U, c'⟩ := winOk_win c
    rw [maskI_win c']
    exact impl_mask_ev c'
  · refine ev_eq (r := 0) (ev_const (a := some 0) rfl |>.congr (fun k => ?_)) (by unfold maskI; rw [if_neg c])
    unfold impl_WindowMask.f
    rw [impl_WindowOk_eq]
    simp only [Option.bind_some]
    rw [if_neg c]
theorem spec_l20Mask_ev (w h : Int) (l : List Int) (c : winOk w h l = true) : Ev (fun k => spec_l20Mask.f k w l) (maskI w h l) := by
  obtain ⟨W, H, X, Y, V, U, c'⟩ := winOk_win c
  rw [maskI_win c']
  exact spec_mask_ev c'
theorem maskI_nat (w h : Int) (l : List Int) : ∃ n : Nat, maskI w h l = n ∧ n < 2 ^ 36 := by
  by_cases c : winOk w h l = true
  · obtain ⟨W, H, X, Y, V, U, c'⟩ := winOk_win c
    refine ⟨_, maskI_win c', ?_⟩
    obtain ⟨rfl, rfl, rfl, h1, h2, h3, h4⟩ := c'
    have h5 := rowsM_top W V (by omega) U (Y * W + X) 0 (Nat.two_pow_pos _) (by omega)
    have ht := row_top (Y := Y) (U := U) (H := H) (W := W) (i := U - 1) (by omega) h4.2 h2.2 h1.2
    have e1 : Y * W + X + (U - 1) * W + V ≤ 36 := by
      have : Y * W + (U - 1) * W = (Y + (U - 1)) * W := by rw [Nat.add_mul]
      omega
    exact Nat.lt_of_lt_of_le h5 (Nat.pow_le_pow_right (by omega) e1)
  · exact ⟨0, by unfold maskI; rw [if_neg c]; rfl, by decide⟩

end Go.Proofs.Ytoildabjnioafaa.PA

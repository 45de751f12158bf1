/- All clear windows: both functions make one list. -/
import Derived.Test.YtoildabjnioafaaLibAm
import Derived.Test.YtoildabjnioafaaPAx13
import Derived.Test.YtoildabjnioafaaPAx16
import Derived.Test.YtoildabjnioafaaPAx18
namespace Go.Proofs.Ytoildabjnioafaa.PA
open Go.RowKit Go.Proofs.YtoildabjnioafaaW.PrintWords Go.Proofs.YtoildabjnioafaaW.PrintLast Go.Proofs.YtoildabjnioafaaW.PrintMore
set_option linter.unusedVariables false
set_option linter.unusedSimpArgs false

/-! all clear windows -/
def clearB (w h m : Int) (l : List Int) : Bool := decide (Go.bits .and .i64 (maskI w h l) m = 0)
def win4 (x y v u : Nat) : List Int := [(x : Int), (y : Int), (v : Int), (u : Int)]
def allU (W H : Nat) (m : Int) (x y v : Nat) : Nat → Nat → List (List Int) → List (List Int)
  | 0, _, acc => acc
  | c + 1, u, acc => allU W H m x y v c (u + 1) (if clearB W H m (win4 x y v u) then acc ++ [win4 x y v u] else acc)
def allV (W H : Nat) (m : Int) (x y : Nat) : Nat → Nat → List (List Int) → List (List Int)
  | 0, _, acc => acc
  | c + 1, v, acc => allV W H m x y c (v + 1) (allU W H m x y v (H - y) 1 acc)
def allY (W H : Nat) (m : Int) (x : Nat) : Nat → Nat → List (List Int) → List (List Int)
  | 0, _, acc => acc
  | c + 1, y, acc => allY W H m x c (y + 1) (allV W H m x y (W - x) 1 acc)
def allX (W H : Nat) (m : Int) : Nat → Nat → List (List Int) → List (List Int)
  | 0, _, acc => acc
  | c + 1, x, acc => allX W H m c (x + 1) (allY W H m x H 0 acc)
theorem allU_len (W H : Nat) (m : Int) (x y v : Nat) : ∀ (c u : Nat) (acc : List (List Int)), (allU W H m x y v c u acc).length ≤ acc.length + c := by
  intro c
  induction c with
  | zero => intro u acc; simp [allU]
  | succ c ih =>
    intro u acc
    simp only [allU]
    have := ih (u + 1) (if clearB W H m (win4 x y v u) then acc ++ [win4 x y v u] else acc)
    have h2 : (if clearB W H m (win4 x y v u) then acc ++ [win4 x y v u] else acc).length ≤ acc.length + 1 := by split <;> simp
    omega
theorem allV_len (W H : Nat) (m : Int) (x y : Nat) (hH : H ≤ 6) : ∀ (c v : Nat) (acc : List (List Int)), (allV W H m x y c v acc).length ≤ acc.length + c * 6 := by
  intro c
  induction c with
  | zero => intro v acc; simp [allV]
  | succ c ih =>
    intro v acc
    simp only [allV]
    have h1 := ih (v + 1) (allU W H m x y v (H - y) 1 acc)
    have h2 := allU_len W H m x y v (H - y) 1 acc
    omega
theorem allY_len (W H : Nat) (m : Int) (x : Nat) (hW : W ≤ 6) (hH : H ≤ 6) : ∀ (c y : Nat) (acc : List (List Int)), (allY W H m x c y acc).length ≤ acc.length + c * 36 := by
  intro c
  induction c with
  | zero => intro v acc; simp [allY]
  | succ c ih =>
    intro y acc
    simp only [allY]
    have h1 := ih (y + 1) (allV W H m x y (W - x) 1 acc)
    have h2 := allV_len W H m x y hH (W - x) 1 acc
    omega
theorem allX_len (W H : Nat) (m : Int) (hW : W ≤ 6) (hH : H ≤ 6) : ∀ (c x : Nat) (acc : List (List Int)), (allX W H m c x acc).length ≤ acc.length + c * 216 := by
  intro c
  induction c with
  | zero => intro v acc; simp [allX]
  | succ c ih =>
    intro x acc
    simp only [allX]
    have h1 := ih (x + 1) (allY W H m x H 0 acc)
    have h2 := allY_len W H m x hW hH H 0 acc
    omega
theorem win4_ok {W H x y v u : Nat} (hW : 1 ≤ W ∧ W ≤ 6) (hH : 1 ≤ H ∧ H ≤ 6) (hx : x + v ≤ W) (hy : y + u ≤ H) (hv : 1 ≤ v) (hu : 1 ≤ u) : winOk (W : Int) (H : Int) (win4 x y v u) = true :=
  win_ok (W := W) (H := H) (X := x) (Y := y) (V := v) (U := u) ⟨rfl, rfl, rfl, hW, hH, ⟨hv, hu⟩, ⟨hx, hy⟩⟩


theorem spec_U {W H : Nat} {m : Int} {r : List (List Int)} (hW : 1 ≤ W ∧ W ≤ 6) (hH : 1 ≤ H ∧ H ≤ 6) (x y v : Nat) (hx : x + v ≤ W) (hv : 1 ≤ v) : ∀ (c u : Nat) (acc : List (List Int)), y + u + c = H + 1 → 1 ≤ u → acc.length + c ≤ 5000 →
    Ev (fun k => spec_l20All.l2 k (W : Int) (H : Int) (m : Int) (allU W H m x y v c u acc) ((x : Nat) : Int) ((y : Nat) : Int) ((v + 1 : Nat) : Int)) r → Ev (fun k => spec_l20All.l3 k (W : Int) (H : Int) (m : Int) acc ((x : Nat) : Int) ((y : Nat) : Int) ((v : Nat) : Int) ((u : Nat) : Int)) r := by
  intro c
  induction c with
  | zero =>
    intro u acc hu h1 hl hk
    refine Ev.step (f := fun k => spec_l20All.l2 k (W : Int) (H : Int) (m : Int) acc ((x : Nat) : Int) ((y : Nat) : Int) ((v + 1 : Nat) : Int)) (fun k => ?_) hk
    simp only [spec_l20All.l3]
    rw [w64 (x := (y : Int) + u) (by omega) (by omega), if_neg (by omega), w64 (by omega) (by omega)]
    simp
  | succ c ih =>
    intro u acc hu h1 hl hk
    refine Ev.step (fun k => rfl) ?_
    simp only [spec_l20All.l3]
    refine Ev.congr (fun k => if_pos (by rw [w64 (by omega) (by omega)]; omega)) ?_
    refine Ev.bind (spec_l20Mask_ev (W : Int) (H : Int) (win4 x y v u) (win4_ok hW hH hx (by omega) hv (by omega))) ?_
    simp only [allU] at hk
    by_cases hc : clearB W H m (win4 x y v u) = true
    · rw [if_pos hc] at hk
      refine Ev.congr (fun k => (if_pos (of_decide_eq_true hc)).trans ((if_pos (by omega)).trans ?_)) (ih (u + 1) (acc ++ [win4 x y v u]) (by omega) (by omega) (by simp; omega) hk)
      rw [w64 (by omega) (by omega)]
      rfl
    · rw [if_neg hc] at hk
      refine Ev.congr (fun k => (if_neg (fun z => hc (decide_eq_true z))).trans ?_) (ih (u + 1) acc (by omega) (by omega) (by omega) hk)
      rw [w64 (by omega) (by omega)]
      rfl
theorem spec_V {W H : Nat} {m : Int} {r : List (List Int)} (hW : 1 ≤ W ∧ W ≤ 6) (hH : 1 ≤ H ∧ H ≤ 6) (x y : Nat) (hy : y < H) : ∀ (c v : Nat) (acc : List (List Int)), x + v + c = W + 1 → 1 ≤ v → acc.length + c * 6 ≤ 5000 →
    Ev (fun k => spec_l20All.l1 k (W : Int) (H : Int) (m : Int) (allV W H m x y c v acc) ((x : Nat) : Int) ((y + 1 : Nat) : Int)) r → Ev (fun k => spec_l20All.l2 k (W : Int) (H : Int) (m : Int) acc ((x : Nat) : Int) ((y : Nat) : Int) ((v : Nat) : Int)) r := by
  intro c
  induction c with
  | zero =>
    intro v acc hv h1 hl hk
    refine Ev.step (f := fun k => spec_l20All.l1 k (W : Int) (H : Int) (m : Int) acc ((x : Nat) : Int) ((y + 1 : Nat) : Int)) (fun k => ?_) hk
    simp only [spec_l20All.l2]
    rw [w64 (x := (x : Int) + v) (by omega) (by omega), if_neg (by omega), w64 (by omega) (by omega)]
    simp
  | succ c ih =>
    intro v acc hv h1 hl hk
    have hlen := allU_len W H m x y v (H - y) 1 acc
    refine Ev.step (f := fun k => spec_l20All.l3 k (W : Int) (H : Int) (m : Int) acc ((x : Nat) : Int) ((y : Nat) : Int) ((v : Nat) : Int) ((1 : Nat) : Int)) (fun k => ?_) (spec_U hW hH x y v (by omega) h1 (H - y) 1 acc (by omega) (by omega) (by omega) (ih (v + 1) (allU W H m x y v (H - y) 1 acc) (by omega) (by omega) (by omega) hk))
    simp only [spec_l20All.l2]
    rw [w64 (x := (x : Int) + v) (by omega) (by omega), if_pos (by omega)]
    rfl
theorem spec_Y {W H : Nat} {m : Int} {r : List (List Int)} (hW : 1 ≤ W ∧ W ≤ 6) (hH : 1 ≤ H ∧ H ≤ 6) (x : Nat) (hx : x < W) : ∀ (c y : Nat) (acc : List (List Int)), y + c = H → acc.length + c * 36 ≤ 5000 →
    Ev (fun k => spec_l20All.l0 k (W : Int) (H : Int) (m : Int) (allY W H m x c y acc) ((x + 1 : Nat) : Int)) r → Ev (fun k => spec_l20All.l1 k (W : Int) (H : Int) (m : Int) acc ((x : Nat) : Int) ((y : Nat) : Int)) r := by
  intro c
  induction c with
  | zero =>
    intro y acc hy hl hk
    refine Ev.step (f := fun k => spec_l20All.l0 k (W : Int) (H : Int) (m : Int) acc ((x + 1 : Nat) : Int)) (fun k => ?_) hk
    simp only [spec_l20All.l1]
    rw [if_neg (by omega), w64 (by omega) (by omega)]
    simp
  | succ c ih =>
    intro y acc hy hl hk
    have hlen := allV_len W H m x y hH.2 (W - x) 1 acc
    refine Ev.step (f := fun k => spec_l20All.l2 k (W : Int) (H : Int) (m : Int) acc ((x : Nat) : Int) ((y : Nat) : Int) ((1 : Nat) : Int)) (fun k => ?_) (spec_V hW hH x y (by omega) (W - x) 1 acc (by omega) (by omega) (by omega) (ih (y + 1) (allV W H m x y (W - x) 1 acc) (by omega) (by omega) hk))
    simp only [spec_l20All.l1]
    rw [if_pos (by omega)]
    rfl
theorem spec_X {W H : Nat} {m : Int} (hW : 1 ≤ W ∧ W ≤ 6) (hH : 1 ≤ H ∧ H ≤ 6) : ∀ (c x : Nat) (acc : List (List Int)), x + c = W → acc.length + c * 216 ≤ 5000 →
    Ev (fun k => spec_l20All.l0 k (W : Int) (H : Int) (m : Int) acc ((x : Nat) : Int)) (allX W H m c x acc) := by
  intro c
  induction c with
  | zero =>
    intro x acc hx hl
    refine Ev.step (f := fun k => some acc) (fun k => ?_) (Ev.now _)
    simp only [spec_l20All.l0]
    rw [if_neg (by omega)]
  | succ c ih =>
    intro x acc hx hl
    have hlen := allY_len W H m x hW.2 hH.2 H 0 acc
    refine Ev.step (f := fun k => spec_l20All.l1 k (W : Int) (H : Int) (m : Int) acc ((x : Nat) : Int) ((0 : Nat) : Int)) (fun k => ?_) (spec_Y hW hH x (by omega) H 0 acc (by omega) (by omega) (ih (x + 1) (allY W H m x H 0 acc) (by omega) (by omega)))
    simp only [spec_l20All.l0]
    rw [if_pos (by omega)]
    rfl


theorem impl_U {W H : Nat} {m : Int} {r : List (List Int)} (hW : 1 ≤ W ∧ W ≤ 6) (hH : 1 ≤ H ∧ H ≤ 6) (x y v : Nat) (hx : x + v ≤ W) (hv : 1 ≤ v) : ∀ (c u : Nat) (acc : List (List Int)), y + u + c = H + 1 → 1 ≤ u → acc.length + c ≤ 5000 →
    Ev (fun k => impl_clearWindows.l2 k (W : Int) (H : Int) (m : Int) (allU W H m x y v c u acc) ((x : Nat) : Int) ((y : Nat) : Int) ((v + 1 : Nat) : Int) (W : Int) ((x : Nat) : Int) (H : Int) ((y : Nat) : Int)) r → Ev (fun k => impl_clearWindows.l3 k (W : Int) (H : Int) (m : Int) acc ((x : Nat) : Int) ((y : Nat) : Int) ((v : Nat) : Int) ((u : Nat) : Int) (W : Int) ((x : Nat) : Int) (H : Int) ((y : Nat) : Int)) r := by
  intro c
  induction c with
  | zero =>
    intro u acc hu h1 hl hk
    refine Ev.step (f := fun k => impl_clearWindows.l2 k (W : Int) (H : Int) (m : Int) acc ((x : Nat) : Int) ((y : Nat) : Int) ((v + 1 : Nat) : Int) (W : Int) ((x : Nat) : Int) (H : Int) ((y : Nat) : Int)) (fun k => ?_) hk
    simp only [impl_clearWindows.l3]
    rw [w64 (x := (y : Int) + u) (by omega) (by omega), if_neg (by omega), w64 (by omega) (by omega)]
    simp
  | succ c ih =>
    intro u acc hu h1 hl hk
    refine Ev.step (fun k => rfl) ?_
    simp only [impl_clearWindows.l3]
    refine Ev.congr (fun k => if_pos (by rw [w64 (by omega) (by omega)]; omega)) ?_
    refine Ev.congr (f := fun k => (impl_WindowMask.f k (W : Int) (H : Int) (win4 x y v u)).bind fun t => (if (Go.bits .and .i64 t m) = 0 then (if acc.length < 5864062014805 then (impl_clearWindows.l3 k (W : Int) (H : Int) (m : Int) (acc ++ [win4 x y v u]) ((x : Nat) : Int) ((y : Nat) : Int) ((v : Nat) : Int) (wrap64 ((u : Int) + 1)) (W : Int) ((x : Nat) : Int) (H : Int) ((y : Nat) : Int)) else none) else (impl_clearWindows.l3 k (W : Int) (H : Int) (m : Int) acc ((x : Nat) : Int) ((y : Nat) : Int) ((v : Nat) : Int) (wrap64 ((u : Int) + 1)) (W : Int) ((x : Nat) : Int) (H : Int) ((y : Nat) : Int)))) (fun k => rfl) ?_
    refine Ev.bind (impl_WindowMask_ev (W : Int) (H : Int) (win4 x y v u)) ?_
    simp only [allU] at hk
    by_cases hc : clearB W H m (win4 x y v u) = true
    · rw [if_pos hc] at hk
      refine Ev.congr (fun k => (if_pos (of_decide_eq_true hc)).trans ((if_pos (by omega)).trans ?_)) (ih (u + 1) (acc ++ [win4 x y v u]) (by omega) (by omega) (by simp; omega) hk)
      rw [w64 (by omega) (by omega)]
      rfl
    · rw [if_neg hc] at hk
      refine Ev.congr (fun k => (if_neg (fun z => hc (decide_eq_true z))).trans ?_) (ih (u + 1) acc (by omega) (by omega) (by omega) hk)
      rw [w64 (by omega) (by omega)]
      rfl
theorem impl_V {W H : Nat} {m : Int} {r : List (List Int)} (hW : 1 ≤ W ∧ W ≤ 6) (hH : 1 ≤ H ∧ H ≤ 6) (x y : Nat) (hy : y < H) : ∀ (c v : Nat) (acc : List (List Int)), x + v + c = W + 1 → 1 ≤ v → acc.length + c * 6 ≤ 5000 →
    Ev (fun k => impl_clearWindows.l1 k (W : Int) (H : Int) (m : Int) (allV W H m x y c v acc) ((x : Nat) : Int) (W : Int) ((x : Nat) : Int) (H : Int) ((y + 1 : Nat) : Int)) r → Ev (fun k => impl_clearWindows.l2 k (W : Int) (H : Int) (m : Int) acc ((x : Nat) : Int) ((y : Nat) : Int) ((v : Nat) : Int) (W : Int) ((x : Nat) : Int) (H : Int) ((y : Nat) : Int)) r := by
  intro c
  induction c with
  | zero =>
    intro v acc hv h1 hl hk
    refine Ev.step (f := fun k => impl_clearWindows.l1 k (W : Int) (H : Int) (m : Int) acc ((x : Nat) : Int) (W : Int) ((x : Nat) : Int) (H : Int) ((y + 1 : Nat) : Int)) (fun k => ?_) hk
    simp only [impl_clearWindows.l2]
    rw [w64 (x := (x : Int) + v) (by omega) (by omega), if_neg (by omega), w64 (by omega) (by omega)]
    simp
  | succ c ih =>
    intro v acc hv h1 hl hk
    have hlen := allU_len W H m x y v (H - y) 1 acc
    refine Ev.step (f := fun k => impl_clearWindows.l3 k (W : Int) (H : Int) (m : Int) acc ((x : Nat) : Int) ((y : Nat) : Int) ((v : Nat) : Int) ((1 : Nat) : Int) (W : Int) ((x : Nat) : Int) (H : Int) ((y : Nat) : Int)) (fun k => ?_) (impl_U hW hH x y v (by omega) h1 (H - y) 1 acc (by omega) (by omega) (by omega) (ih (v + 1) (allU W H m x y v (H - y) 1 acc) (by omega) (by omega) (by omega) hk))
    simp only [impl_clearWindows.l2]
    rw [w64 (x := (x : Int) + v) (by omega) (by omega), if_pos (by omega)]
    rfl
theorem impl_Y {W H : Nat} {m : Int} {r : List (List Int)} (hW : 1 ≤ W ∧ W ≤ 6) (hH : 1 ≤ H ∧ H ≤ 6) (x : Nat) (hx : x < W) : ∀ (c y : Nat) (acc : List (List Int)), y + c = H → acc.length + c * 36 ≤ 5000 →
    Ev (fun k => impl_clearWindows.l0 k (W : Int) (H : Int) (m : Int) (allY W H m x c y acc) (W : Int) ((x + 1 : Nat) : Int)) r → Ev (fun k => impl_clearWindows.l1 k (W : Int) (H : Int) (m : Int) acc ((x : Nat) : Int) (W : Int) ((x : Nat) : Int) (H : Int) ((y : Nat) : Int)) r := by
  intro c
  induction c with
  | zero =>
    intro y acc hy hl hk
    refine Ev.step (f := fun k => impl_clearWindows.l0 k (W : Int) (H : Int) (m : Int) acc (W : Int) ((x + 1 : Nat) : Int)) (fun k => ?_) hk
    simp only [impl_clearWindows.l1]
    rw [if_neg (by omega), w64 (by omega) (by omega)]
    simp
  | succ c ih =>
    intro y acc hy hl hk
    have hlen := allV_len W H m x y hH.2 (W - x) 1 acc
    refine Ev.step (f := fun k => impl_clearWindows.l2 k (W : Int) (H : Int) (m : Int) acc ((x : Nat) : Int) ((y : Nat) : Int) ((1 : Nat) : Int) (W : Int) ((x : Nat) : Int) (H : Int) ((y : Nat) : Int)) (fun k => ?_) (impl_V hW hH x y (by omega) (W - x) 1 acc (by omega) (by omega) (by omega) (ih (y + 1) (allV W H m x y (W - x) 1 acc) (by omega) (by omega) hk))
    simp only [impl_clearWindows.l1]
    rw [if_pos (by omega)]
    rfl
theorem impl_X {W H : Nat} {m : Int} (hW : 1 ≤ W ∧ W ≤ 6) (hH : 1 ≤ H ∧ H ≤ 6) : ∀ (c x : Nat) (acc : List (List Int)), x + c = W → acc.length + c * 216 ≤ 5000 →
    Ev (fun k => impl_clearWindows.l0 k (W : Int) (H : Int) (m : Int) acc (W : Int) ((x : Nat) : Int)) (allX W H m c x acc) := by
  intro c
  induction c with
  | zero =>
    intro x acc hx hl
    refine Ev.step (f := fun k => some acc) (fun k => ?_) (Ev.now _)
    simp only [impl_clearWindows.l0]
    rw [if_neg (by omega)]
  | succ c ih =>
    intro x acc hx hl
    have hlen := allY_len W H m x hW.2 hH.2 H 0 acc
    refine Ev.step (f := fun k => impl_clearWindows.l1 k (W : Int) (H : Int) (m : Int) acc ((x : Nat) : Int) (W : Int) ((x : Nat) : Int) (H : Int) ((0 : Nat) : Int)) (fun k => ?_) (impl_Y hW hH x (by omega) H 0 acc (by omega) (by omega) (ih (x + 1) (allY W H m x H 0 acc) (by omega) (by omega)))
    simp only [impl_clearWindows.l0]
    rw [if_pos (by omega)]
    rfl


def allWin (w h m : Int) : List (List Int) := allX w.toNat h.toNat m w.toNat 0 []
theorem spec_all_ev {w h m : Int} (c : shapeOk w h m = true) : Ev (fun k => spec_l20All.f k w h m) (allWin w h m) := by
  obtain ⟨h1, h2, h3, h4, h5, h6, h7, h8⟩ := shapeOk_facts c
  obtain ⟨W, rfl⟩ := Int.eq_ofNat_of_zero_le (a := w) (by omega)
  obtain ⟨H, rfl⟩ := Int.eq_ofNat_of_zero_le (a := h) (by omega)
  exact spec_X (m := m) (by omega) (by omega) W 0 [] (by omega) (by simp; omega)
theorem impl_all_ev {w h m : Int} (c : shapeOk w h m = true) : Ev (fun k => impl_clearWindows.f k w h m) (allWin w h m) := by
  obtain ⟨h1, h2, h3, h4, h5, h6, h7, h8⟩ := shapeOk_facts c
  obtain ⟨W, rfl⟩ := Int.eq_ofNat_of_zero_le (a := w) (by omega)
  obtain ⟨H, rfl⟩ := Int.eq_ofNat_of_zero_le (a := h) (by omega)
  exact impl_X (m := m) (by omega) (by omega) W 0 [] (by omega) (by simp; omega)
theorem allWin_len {w h m : Int} (c : shapeOk w h m = true) : (allWin w h m).length ≤ 1296 := by
  obtain ⟨h1, h2, h3, h4, h5, h6, h7, h8⟩ := shapeOk_facts c
  have := allX_len w.toNat h.toNat m (by omega) (by omega) w.toNat 0 []
  simp at this
  unfold allWin
  omega

end Go.Proofs.Ytoildabjnioafaa.PA

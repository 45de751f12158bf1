/- Degrees: both texts. -/
import Derived.Test.YtcdajmbnijmdfaaPAx14
import Derived.Test.YtcdajmbnijmdfaaPAx16
import Derived.Test.YtcdajmbnijmdfaaLibK
namespace Go.Proofs.Ytcdajmbnijmdfaa.PA
open Go.RowKit Go.Proofs.YtcdajmbnijmdfaaW.PrintWords Go.Proofs.YtcdajmbnijmdfaaW.PrintLast Go.Proofs.YtcdajmbnijmdfaaW.PrintMore
set_option linter.unusedVariables false
set_option linter.unusedSimpArgs false

/-! degrees, DegreesOf, OddPoints -/
structure LineOk (n : Nat) (r : List Int) : Prop where
  len : r.length = 2
  a0 : 0 ≤ rd r 0
  a1 : rd r 0 < n
  b0 : 0 ≤ rd r 1
  b1 : rd r 1 < n
  ne : ¬ rd r 0 = rd r 1
theorem drawOk_lines {n : Nat} {l : List (List Int)} (c : drawOk (n : Int) l = true) : 1 ≤ n ∧ n ≤ 8 ∧ l.length ≤ 12 ∧ ∀ r ∈ l, LineOk n r := by
  obtain ⟨⟨h1, h2, h3⟩, h4⟩ := drawOk_iff.1 c
  refine ⟨by omega, by omega, h3, fun r hr => ?_⟩
  obtain ⟨a, b, c, d, e, f⟩ := of_decide_eq_true (h4 r hr)
  exact ⟨a, b, by omega, d, by omega, f⟩
/-- One line more at each of its points. -/
def incr (d : List Int) (i : Nat) : List Int := d.set i (d.getD i 0 + 1)
theorem incr_len (d : List Int) (i : Nat) : (incr d i).length = d.length := by simp [incr]
def degL : List (List Int) → List Int → List Int
  | [], d => d
  | r :: l, d => degL l (incr (incr d (rd r 0).toNat) (rd r 1).toNat)
theorem degL_len : ∀ (l : List (List Int)) (d : List Int), (degL l d).length = d.length := by
  intro l
  induction l with
  | nil => intro d; rfl
  | cons r l ih => intro d; simp [degL, ih, incr_len]
theorem incr_bd {d : List Int} {B : Int} (h : ∀ x ∈ d, 0 ≤ x ∧ x ≤ B) (hB : 0 ≤ B) (i : Nat) : ∀ x ∈ incr d i, 0 ≤ x ∧ x ≤ B + 1 := by
  intro x hx
  unfold incr at hx
  rcases List.mem_or_eq_of_mem_set hx with h1 | h1
  · have := h x h1; omega
  · rw [h1]
    by_cases hi : i < d.length
    · have := h d[i] (List.getElem_mem hi)
      simp [List.getD_eq_getElem?_getD, hi]
      omega
    · simp [List.getD_eq_getElem?_getD, hi]
      omega
theorem degL_bd : ∀ (l : List (List Int)) (d : List Int) (B : Int), (∀ x ∈ d, 0 ≤ x ∧ x ≤ B) → 0 ≤ B → ∀ x ∈ degL l d, 0 ≤ x ∧ x ≤ B + 2 * (l.length : Int) := by
  intro l
  induction l with
  | nil => intro d B h hB x hx; have := h x hx; simp; exact this
  | cons r l ih =>
    intro d B h hB x hx
    simp only [degL] at hx
    have := ih _ (B + 2) (fun y hy => by have := incr_bd (incr_bd h hB (rd r 0).toNat) (by omega) (rd r 1).toNat y hy; omega) (by omega) x hx
    simp only [List.length_cons]
    omega
def degs (n : Nat) (l : List (List Int)) : List Int := degL l (List.replicate n 0)
theorem degs_len (n : Nat) (l : List (List Int)) : (degs n l).length = n := by simp [degs, degL_len]
theorem degs_bd (n : Nat) (l : List (List Int)) : ∀ x ∈ degs n l, 0 ≤ x ∧ x ≤ 2 * (l.length : Int) := by
  intro x hx
  have := degL_bd l (List.replicate n 0) 0 (fun y hy => by rw [List.eq_of_mem_replicate hy]; omega) (by omega) x hx
  omega

theorem spec_deg_l {n : Nat} (l : List (List Int)) (hl : l.length ≤ 12) (hr : ∀ r ∈ l, LineOk n r) : ∀ (m i : Nat) (d : List Int), i + m = l.length → d.length = n → (∀ x ∈ d, 0 ≤ x ∧ x ≤ 2 * (i : Int)) →
    Ev (fun k => spec_l23Degrees.l0 k d l (l.length : Int) (i : Int)) (degL (l.drop i) d) := by
  intro m
  induction m with
  | zero =>
    intro i d hi hd hb
    refine Ev.step (f := fun _ => some (degL (l.drop i) d)) (fun k => ?_) (Ev.now _)
    simp only [spec_l23Degrees.l0]
    rw [if_neg (by omega), List.drop_of_length_le (by omega)]
    rfl
  | succ m ih =>
    intro i d hi hd hb
    have hlt : i < l.length := by omega
    obtain ⟨hL, a0, a1, b0, b1, hne⟩ := hr l[i] (List.getElem_mem hlt)
    rw [List.drop_eq_getElem_cons hlt]
    simp only [degL]
    have hb1 := incr_bd hb (by omega) (rd l[i] 0).toNat
    have hb2 := incr_bd hb1 (by omega) (rd l[i] 1).toNat
    obtain ⟨x, hx⟩ := Int.eq_ofNat_of_zero_le a0
    obtain ⟨y, hy⟩ := Int.eq_ofNat_of_zero_le b0
    have e1 : d.set (rd l[i] 0).toNat (wrap64 (rd d (rd l[i] 0) + 1)) = incr d (rd l[i] 0).toNat := by
      rw [hx, Int.toNat_natCast, rd_nat]
      have hxd : x < d.length := by omega
      have := hb d[x] (List.getElem_mem hxd)
      have e : d.getD x 0 = d[x] := by simp [List.getD_eq_getElem?_getD, hxd]
      rw [w64 (by omega) (by omega)]
      rfl
    have e2 : (incr d (rd l[i] 0).toNat).set (rd l[i] 1).toNat (wrap64 (rd (incr d (rd l[i] 0).toNat) (rd l[i] 1) + 1)) = incr (incr d (rd l[i] 0).toNat) (rd l[i] 1).toNat := by
      generalize hz : incr d (rd l[i] 0).toNat = d1 at hb1
      have hd1 : d1.length = n := by rw [← hz, incr_len, hd]
      rw [hy, Int.toNat_natCast, rd_nat]
      have hyd : y < d1.length := by omega
      have := hb1 d1[y] (List.getElem_mem hyd)
      have e : d1.getD y 0 = d1[y] := by simp [List.getD_eq_getElem?_getD, hyd]
      rw [w64 (by omega) (by omega)]
      rfl
    refine Ev.step (f := fun k => spec_l23Degrees.l0 k (incr (incr d (rd l[i] 0).toNat) (rd l[i] 1).toNat) l (l.length : Int) ((i + 1 : Nat) : Int)) (fun k => ?_) (ih (i + 1) _ (by omega) ((incr_len _ _).trans ((incr_len _ _).trans hd)) (fun z hz => by have := hb2 z hz; omega))
    simp only [spec_l23Degrees.l0, Option.bind_some]
    rw [if_pos (by omega), if_pos (by omega), if_pos (by omega), rdL_get hlt, if_pos (by omega), if_pos (by omega), if_pos (by omega), e1, if_pos (by omega), if_pos (by omega), if_pos (by omega), e2, w64 (by omega) (by omega)]
    rfl
theorem spec_deg_ev {n : Nat} (l : List (List Int)) (hn : n ≤ 8) (hl : l.length ≤ 12) (hr : ∀ r ∈ l, LineOk n r) : Ev (fun k => spec_l23Degrees.f k (n : Int) l) (degs n l) := by
  refine Ev.congr (fun k => ?_) (spec_deg_l l hl hr l.length 0 (List.replicate n 0) (by omega) (by simp) (fun x hx => by rw [List.eq_of_mem_replicate hx]; omega))
  unfold spec_l23Degrees.f
  rw [if_pos (by omega), if_pos (by simp; omega), Int.toNat_natCast]
  rfl
theorem spec_DegreesOf_ev (n : Int) (l : List (List Int)) : Ev (fun k => spec_DegreesOf.f k n l) (if drawOk n l then degs n.toNat l else []) := by
  unfold spec_DegreesOf.f
  refine Ev.bind (spec_IsDrawing_ev n l) ?_
  by_cases c : drawOk n l = true
  · rw [if_pos c]
    refine Ev.congr (fun k => if_pos c) ?_
    obtain ⟨m, rfl⟩ := Int.eq_ofNat_of_zero_le (a := n) (by have := (drawOk_iff.1 c).1; omega)
    obtain ⟨h1, h2, h3, h4⟩ := drawOk_lines c
    rw [Int.toNat_natCast]
    exact Ev.bind (spec_deg_ev l h2 h3 h4) (Ev.now _)
  · rw [if_neg c]
    exact Ev.congr (fun k => if_neg c) (Ev.now _)

theorem impl_deg_l {n : Nat} (l : List (List Int)) (hl : l.length ≤ 12) (hr : ∀ r ∈ l, LineOk n r) : ∀ (m i : Nat) (d : List Int), i + m = l.length → d.length = n → (∀ x ∈ d, 0 ≤ x ∧ x ≤ 2 * (i : Int)) →
    Ev (fun k => impl_degrees.l0 k d l (l.length : Int) (i : Int)) (degL (l.drop i) d) := by
  intro m
  induction m with
  | zero =>
    intro i d hi hd hb
    refine Ev.step (f := fun _ => some (degL (l.drop i) d)) (fun k => ?_) (Ev.now _)
    simp only [impl_degrees.l0]
    rw [if_neg (by omega), List.drop_of_length_le (by omega)]
    rfl
  | succ m ih =>
    intro i d hi hd hb
    have hlt : i < l.length := by omega
    obtain ⟨hL, a0, a1, b0, b1, hne⟩ := hr l[i] (List.getElem_mem hlt)
    rw [List.drop_eq_getElem_cons hlt]
    simp only [degL]
    have hb1 := incr_bd hb (by omega) (rd l[i] 0).toNat
    have hb2 := incr_bd hb1 (by omega) (rd l[i] 1).toNat
    obtain ⟨x, hx⟩ := Int.eq_ofNat_of_zero_le a0
    obtain ⟨y, hy⟩ := Int.eq_ofNat_of_zero_le b0
    have e1 : d.set (rd l[i] 0).toNat (wrap64 (rd d (rd l[i] 0) + 1)) = incr d (rd l[i] 0).toNat := by
      rw [hx, Int.toNat_natCast, rd_nat]
      have hxd : x < d.length := by omega
      have := hb d[x] (List.getElem_mem hxd)
      have e : d.getD x 0 = d[x] := by simp [List.getD_eq_getElem?_getD, hxd]
      rw [w64 (by omega) (by omega)]
      rfl
    have e2 : (incr d (rd l[i] 0).toNat).set (rd l[i] 1).toNat (wrap64 (rd (incr d (rd l[i] 0).toNat) (rd l[i] 1) + 1)) = incr (incr d (rd l[i] 0).toNat) (rd l[i] 1).toNat := by
      generalize hz : incr d (rd l[i] 0).toNat = d1 at hb1
      have hd1 : d1.length = n := by rw [← hz, incr_len, hd]
      rw [hy, Int.toNat_natCast, rd_nat]
      have hyd : y < d1.length := by omega
      have := hb1 d1[y] (List.getElem_mem hyd)
      have e : d1.getD y 0 = d1[y] := by simp [List.getD_eq_getElem?_getD, hyd]
      rw [w64 (by omega) (by omega)]
      rfl
    refine Ev.step (f := fun k => impl_degrees.l0 k (incr (incr d (rd l[i] 0).toNat) (rd l[i] 1).toNat) l (l.length : Int) ((i + 1 : Nat) : Int)) (fun k => ?_) (ih (i + 1) _ (by omega) ((incr_len _ _).trans ((incr_len _ _).trans hd)) (fun z hz => by have := hb2 z hz; omega))
    simp only [impl_degrees.l0, Option.bind_some]
    rw [if_pos (by omega), if_pos (by omega), if_pos (by omega), rdL_get hlt, if_pos (by omega), if_pos (by omega), if_pos (by omega), e1, if_pos (by omega), if_pos (by omega), if_pos (by omega), e2, w64 (by omega) (by omega)]
    rfl
theorem impl_deg_ev {n : Nat} (l : List (List Int)) (hn : n ≤ 8) (hl : l.length ≤ 12) (hr : ∀ r ∈ l, LineOk n r) : Ev (fun k => impl_degrees.f k (n : Int) l) (degs n l) := by
  refine Ev.congr (fun k => ?_) (impl_deg_l l hl hr l.length 0 (List.replicate n 0) (by omega) (by simp) (fun x hx => by rw [List.eq_of_mem_replicate hx]; omega))
  unfold impl_degrees.f
  rw [if_pos (by omega), if_pos (by simp; omega), Int.toNat_natCast]
  rfl
theorem impl_DegreesOf_ev (n : Int) (l : List (List Int)) : Ev (fun k => impl_DegreesOf.f k n l) (if drawOk n l then degs n.toNat l else []) := by
  unfold impl_DegreesOf.f
  refine Ev.bind (impl_IsDrawing_ev n l) ?_
  by_cases c : drawOk n l = true
  · rw [if_pos c]
    refine Ev.congr (fun k => if_pos c) ?_
    obtain ⟨m, rfl⟩ := Int.eq_ofNat_of_zero_le (a := n) (by have := (drawOk_iff.1 c).1; omega)
    obtain ⟨h1, h2, h3, h4⟩ := drawOk_lines c
    rw [Int.toNat_natCast]
    exact Ev.bind (impl_deg_ev l h2 h3 h4) (Ev.now _)
  · rw [if_neg c]
    exact Ev.congr (fun k => if_neg c) (Ev.now _)

end Go.Proofs.Ytcdajmbnijmdfaa.PA

/- OddPoints: both texts. -/
import Derived.Test.YtcdajmbnijmdfaaPAx18
import Derived.Test.YtcdajmbnijmdfaaPAx19
import Derived.Test.YtcdajmbnijmdfaaLibG
namespace Go.Proofs.Ytcdajmbnijmdfaa.PA
open Go.RowKit Go.Proofs.YtcdajmbnijmdfaaW.PrintWords Go.Proofs.YtcdajmbnijmdfaaW.PrintLast Go.Proofs.YtcdajmbnijmdfaaW.PrintMore
set_option linter.unusedVariables false
set_option linter.unusedSimpArgs false

/-! OddPoints -/
def oddL : List Int → Nat → List Int
  | [], _ => []
  | d :: l, i => if d % 2 = 1 then (i : Int) :: oddL l (i + 1) else oddL l (i + 1)
theorem oddL_len : ∀ (l : List Int) (i : Nat), (oddL l i).length ≤ l.length := by
  intro l
  induction l with
  | nil => intro i; simp [oddL]
  | cons d l ih =>
    intro i
    simp only [oddL]
    have := ih (i + 1)
    split <;> simp <;> omega
def odds (n : Nat) (l : List (List Int)) : List Int := oddL (degs n l) 0
theorem odds_len (n : Nat) (l : List (List Int)) : (odds n l).length ≤ n := by
  have := oddL_len (degs n l) 0
  rw [degs_len] at this
  exact this

theorem spec_odd_l (ds : List Int) (hl : ds.length ≤ 8) (hb : ∀ x ∈ ds, 0 ≤ x) : ∀ (m i : Nat) (acc : List Int), i + m = ds.length → acc.length ≤ i →
    Ev (fun k => spec_OddPoints.l0 k acc ds (ds.length : Int) (i : Int)) (acc ++ oddL (ds.drop i) i) := by
  intro m
  induction m with
  | zero =>
    intro i acc hi ha
    refine Ev.step (f := fun _ => some (acc ++ oddL (ds.drop i) i)) (fun k => ?_) (Ev.now _)
    simp only [spec_OddPoints.l0]
    rw [if_neg (by omega), List.drop_of_length_le (by omega)]
    simp [oddL]
  | succ m ih =>
    intro i acc hi ha
    have hlt : i < ds.length := by omega
    have hx := hb ds[i] (List.getElem_mem hlt)
    rw [List.drop_eq_getElem_cons hlt]
    simp only [oddL]
    have ht : Int.tmod ds[i] 2 = ds[i] % 2 := Int.tmod_eq_emod_of_nonneg hx
    by_cases c : ds[i] % 2 = 1
    · rw [if_pos c]
      have h := ih (i + 1) (acc ++ [(i : Int)]) (by omega) (by simp; omega)
      rw [List.append_assoc, List.singleton_append] at h
      refine Ev.step (f := fun k => spec_OddPoints.l0 k (acc ++ [(i : Int)]) ds (ds.length : Int) ((i + 1 : Nat) : Int)) (fun k => ?_) h
      simp only [spec_OddPoints.l0]
      rw [if_pos (by omega), if_pos (by omega), if_pos (by omega), rd_get hlt, ht, if_pos c, if_pos (by omega), w64 (by omega) (by omega)]
      rfl
    · rw [if_neg c]
      refine Ev.step (f := fun k => spec_OddPoints.l0 k acc ds (ds.length : Int) ((i + 1 : Nat) : Int)) (fun k => ?_) (ih (i + 1) acc (by omega) (by omega))
      simp only [spec_OddPoints.l0]
      rw [if_pos (by omega), if_pos (by omega), if_pos (by omega), rd_get hlt, ht, if_neg c, w64 (by omega) (by omega)]
      rfl
theorem spec_OddPoints_ev (n : Int) (l : List (List Int)) : Ev (fun k => spec_OddPoints.f k n l) (if drawOk n l then odds n.toNat l else []) := by
  unfold spec_OddPoints.f
  refine Ev.bind (spec_IsDrawing_ev n l) ?_
  by_cases c : drawOk n l = true
  · rw [if_pos c]
    refine Ev.congr (fun k => if_pos c) ?_
    obtain ⟨m, rfl⟩ := Int.eq_ofNat_of_zero_le (a := n) (by have := (drawOk_iff.1 c).1; omega)
    obtain ⟨h1, h2, h3, h4⟩ := drawOk_lines c
    rw [Int.toNat_natCast]
    refine Ev.bind (spec_deg_ev l h2 h3 h4) ?_
    exact spec_odd_l (degs m l) (by rw [degs_len]; omega) (fun x hx => (degs_bd m l x hx).1) (degs m l).length 0 [] (by omega) (by simp)
  · rw [if_neg c]
    exact Ev.congr (fun k => if_neg c) (Ev.now _)

theorem impl_odd_l (ds : List Int) (hl : ds.length ≤ 8) (hb : ∀ x ∈ ds, 0 ≤ x) : ∀ (m i : Nat) (acc : List Int), i + m = ds.length → acc.length ≤ i →
    Ev (fun k => impl_OddPoints.l0 k acc ds (ds.length : Int) (i : Int)) (acc ++ oddL (ds.drop i) i) := by
  intro m
  induction m with
  | zero =>
    intro i acc hi ha
    refine Ev.step (f := fun _ => some (acc ++ oddL (ds.drop i) i)) (fun k => ?_) (Ev.now _)
    simp only [impl_OddPoints.l0]
    rw [if_neg (by omega), List.drop_of_length_le (by omega)]
    simp [oddL]
  | succ m ih =>
    intro i acc hi ha
    have hlt : i < ds.length := by omega
    have hx := hb ds[i] (List.getElem_mem hlt)
    rw [List.drop_eq_getElem_cons hlt]
    simp only [oddL]
    have ht : Int.tmod ds[i] 2 = ds[i] % 2 := Int.tmod_eq_emod_of_nonneg hx
    by_cases c : ds[i] % 2 = 1
    · rw [if_pos c]
      have h := ih (i + 1) (acc ++ [(i : Int)]) (by omega) (by simp; omega)
      rw [List.append_assoc, List.singleton_append] at h
      refine Ev.step (f := fun k => impl_OddPoints.l0 k (acc ++ [(i : Int)]) ds (ds.length : Int) ((i + 1 : Nat) : Int)) (fun k => ?_) h
      simp only [impl_OddPoints.l0]
      rw [if_pos (by omega), if_pos (by omega), if_pos (by omega), rd_get hlt, ht, if_pos c, if_pos (by omega), w64 (by omega) (by omega)]
      rfl
    · rw [if_neg c]
      refine Ev.step (f := fun k => impl_OddPoints.l0 k acc ds (ds.length : Int) ((i + 1 : Nat) : Int)) (fun k => ?_) (ih (i + 1) acc (by omega) (by omega))
      simp only [impl_OddPoints.l0]
      rw [if_pos (by omega), if_pos (by omega), if_pos (by omega), rd_get hlt, ht, if_neg c, w64 (by omega) (by omega)]
      rfl
theorem impl_OddPoints_ev (n : Int) (l : List (List Int)) : Ev (fun k => impl_OddPoints.f k n l) (if drawOk n l then odds n.toNat l else []) := by
  unfold impl_OddPoints.f
  refine Ev.bind (impl_IsDrawing_ev n l) ?_
  by_cases c : drawOk n l = true
  · rw [if_pos c]
    refine Ev.congr (fun k => if_pos c) ?_
    obtain ⟨m, rfl⟩ := Int.eq_ofNat_of_zero_le (a := n) (by have := (drawOk_iff.1 c).1; omega)
    obtain ⟨h1, h2, h3, h4⟩ := drawOk_lines c
    rw [Int.toNat_natCast]
    refine Ev.bind (impl_deg_ev l h2 h3 h4) ?_
    exact impl_odd_l (degs m l) (by rw [degs_len]; omega) (fun x hx => (degs_bd m l x hx).1) (degs m l).length 0 [] (by omega) (by simp)
  · rw [if_neg c]
    exact Ev.congr (fun k => if_neg c) (Ev.now _)

end Go.Proofs.Ytcdajmbnijmdfaa.PA

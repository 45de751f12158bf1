/- shapes -/
import Derived.Test.YtoildabjnioafaaLibAw
import Derived.Test.YtoildabjnioafaaPAx3
import Derived.Test.YtoildabjnioafaaPAx4
namespace Go.Proofs.Ytoildabjnioafaa.PA
open Go.RowKit Go.Proofs.YtoildabjnioafaaW.PrintWords Go.Proofs.YtoildabjnioafaaW.PrintLast Go.Proofs.YtoildabjnioafaaW.PrintMore
set_option linter.unusedVariables false
set_option linter.unusedSimpArgs false

/-! ShapeOk -/
def shapeOk (w h m : Int) : Bool := decide (1 ≤ w ∧ w ≤ 6 ∧ 1 ≤ h ∧ h ≤ 6 ∧ 0 ≤ m ∧ m < ((2 ^ (w * h).toNat : Nat) : Int))
theorem wh_bounds {w h : Int} (h1 : 1 ≤ w) (h2 : w ≤ 6) (h3 : 1 ≤ h) (h4 : h ≤ 6) : 1 ≤ w * h ∧ w * h ≤ 36 := by
  have p1 : 1 * 1 ≤ w * h := Int.mul_le_mul h1 h3 (by omega) (by omega)
  have p2 : w * h ≤ 6 * 6 := Int.mul_le_mul h2 h4 (by omega) (by omega)
  omega
theorem pow_wh {w h : Int} (h1 : 1 ≤ w) (h2 : w ≤ 6) (h3 : 1 ≤ h) (h4 : h ≤ 6) : (2 : Nat) ^ (w * h).toNat ≤ 2 ^ 36 ∧ 1 ≤ (2 : Nat) ^ (w * h).toNat := by
  have := wh_bounds h1 h2 h3 h4
  exact ⟨Nat.pow_le_pow_right (by omega) (by omega), Nat.one_le_two_pow⟩
theorem shapeOk_facts {w h m : Int} (c : shapeOk w h m = true) : 1 ≤ w ∧ w ≤ 6 ∧ 1 ≤ h ∧ h ≤ 6 ∧ 0 ≤ m ∧ m < ((2 ^ (w * h).toNat : Nat) : Int) ∧ m < 68719476736 ∧ ∀ n : Nat, m = n → n < 2 ^ 36 := by
  unfold shapeOk at c
  obtain ⟨h1, h2, h3, h4, h5, h6⟩ := of_decide_eq_true c
  have hp := (pow_wh h1 h2 h3 h4).1
  have : ((2 ^ (w * h).toNat : Nat) : Int) ≤ ((2 ^ 36 : Nat) : Int) := Int.ofNat_le.2 hp
  have e : ((2 ^ 36 : Nat) : Int) = 68719476736 := rfl
  exact ⟨h1, h2, h3, h4, h5, h6, by omega, fun n hn => by omega⟩
theorem shl_wh {w h : Int} (h1 : 1 ≤ w) (h2 : w ≤ 6) (h3 : 1 ≤ h) (h4 : h ≤ 6) : shl .i64 1 (w * h) = ((2 ^ (w * h).toNat : Nat) : Int) := by
  have hb := wh_bounds h1 h2 h3 h4
  have := shl_one (w * h).toNat (by omega)
  rw [Int.toNat_of_nonneg (by omega)] at this
  exact this
theorem spec_ShapeOk_eq (w h m : Int) : spec_ShapeOk.f w h m = some (shapeOk w h m) := by
  unfold spec_ShapeOk.f
  simp only [l01In_eq, Option.bind_some]
  by_cases c0 : 1 ≤ w ∧ w ≤ 6
  · rw [if_pos (by simpa using c0)]
    by_cases c1 : 1 ≤ h ∧ h ≤ 6
    · have hb := wh_bounds c0.1 c0.2 c1.1 c1.2
      have hp := pow_wh c0.1 c0.2 c1.1 c1.2
      rw [if_pos (by simpa using c1), w64 (x := w * h) (by omega) (by omega), if_pos (by omega), shl_wh c0.1 c0.2 c1.1 c1.2, w64 (by omega) (by omega)]
      congr 1
      unfold shapeOk
      rw [decide_eq_decide]
      omega
    · rw [if_neg (by simpa using c1)]
      congr 1
      exact (decide_eq_false (fun z => c1 ⟨z.2.2.1, z.2.2.2.1⟩)).symm
  · rw [if_neg (by simpa using c0)]
    congr 1
    exact (decide_eq_false (fun z => c0 ⟨z.1, z.2.1⟩)).symm
theorem impl_ShapeOk_eq (w h m : Int) : impl_ShapeOk.f w h m = some (shapeOk w h m) := by
  unfold impl_ShapeOk.f impl_isTable.f
  simp only [within_eq, Option.bind_some]
  by_cases c0 : 1 ≤ w ∧ w ≤ 6
  · rw [if_pos (by simpa using c0)]
    simp only [Option.bind_some]
    by_cases c1 : 1 ≤ h ∧ h ≤ 6
    · have hb := wh_bounds c0.1 c0.2 c1.1 c1.2
      have hp := pow_wh c0.1 c0.2 c1.1 c1.2
      rw [if_pos (by simpa using c1)]
      by_cases c2 : m ≥ 0
      · rw [if_pos c2, w64 (x := w * h) (by omega) (by omega), if_pos (by omega), shl_wh c0.1 c0.2 c1.1 c1.2]
        congr 1
        unfold shapeOk
        rw [decide_eq_decide]
        omega
      · rw [if_neg c2]
        congr 1
        exact (decide_eq_false (fun z => c2 z.2.2.2.2.1)).symm
    · rw [if_neg (by simpa using c1)]
      congr 1
      exact (decide_eq_false (fun z => c1 ⟨z.2.2.1, z.2.2.2.1⟩)).symm
  · rw [if_neg (by simpa using c0)]
    simp only [Option.bind_some]
    rw [if_neg (by simp)]
    congr 1
    exact (decide_eq_false (fun z => c0 ⟨z.1, z.2.1⟩)).symm

end Go.Proofs.Ytoildabjnioafaa.PA

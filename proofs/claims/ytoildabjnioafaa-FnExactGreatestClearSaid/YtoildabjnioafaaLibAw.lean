/- windows -/
import Derived.Test.YtoildabjnioafaaLibAb
import Derived.Test.YtoildabjnioafaaPAx1
import Derived.Test.YtoildabjnioafaaPAx4
import Derived.Test.YtoildabjnioafaaPAx6
import Derived.Test.YtoildabjnioafaaPAx7
import Derived.Test.YtoildabjnioafaaPAx8
namespace Go.Proofs.Ytoildabjnioafaa.PA
open Go.RowKit Go.Proofs.YtoildabjnioafaaW.PrintWords Go.Proofs.YtoildabjnioafaaW.PrintLast Go.Proofs.YtoildabjnioafaaW.PrintMore
set_option linter.unusedVariables false
set_option linter.unusedSimpArgs false

/-! WindowOk -/
theorem l01In_eq (a b c : Int) : spec_l01In.f a b c = some (decide (b ≤ a ∧ a ≤ c)) := by
  unfold spec_l01In.f
  by_cases h : a ≥ b
  · rw [if_pos h]; simp [h]
  · rw [if_neg h]; simp [h]
theorem within_eq (a b c : Int) : impl_within.f a b c = some (decide (b ≤ a ∧ a ≤ c)) := l01In_eq a b c
def winOk (w h : Int) (l : List Int) : Bool :=
  decide (1 ≤ w ∧ w ≤ 6 ∧ 1 ≤ h ∧ h ≤ 6 ∧ l.length = 4 ∧ 0 ≤ rd l 0 ∧ rd l 0 ≤ w - 1 ∧ 0 ≤ rd l 1 ∧ rd l 1 ≤ h - 1 ∧ 1 ≤ rd l 2 ∧ rd l 2 ≤ w - rd l 0 ∧ 1 ≤ rd l 3 ∧ rd l 3 ≤ h - rd l 1)
theorem spec_WindowOk_j (w h : Int) (l : List Int) (k : Nat) (hw : 1 ≤ w ∧ w ≤ 6 ∧ 1 ≤ h ∧ h ≤ 6) (hl : l.length = 4) : spec_WindowOk.j0 (k + 1) w h l false = some (winOk w h l) := by
  simp only [spec_WindowOk.j0, l01In_eq, Option.bind_some]
  rw [if_neg (by simp), if_pos (by omega)]
  rw [w64 (x := w - 1) (by omega) (by omega), w64 (x := h - 1) (by omega) (by omega)]
  by_cases c0 : 0 ≤ rd l 0 ∧ rd l 0 ≤ w - 1
  · rw [if_pos (by simpa using c0), if_pos (by omega)]
    by_cases c1 : 0 ≤ rd l 1 ∧ rd l 1 ≤ h - 1
    · rw [if_pos (by simpa using c1), if_pos (by omega), w64 (x := w - rd l 0) (by omega) (by omega), w64 (x := h - rd l 1) (by omega) (by omega)]
      by_cases c2 : 1 ≤ rd l 2 ∧ rd l 2 ≤ w - rd l 0
      · rw [if_pos (by simpa using c2), if_pos (by omega)]
        congr 1
        unfold winOk
        rw [decide_eq_decide]
        constructor
        · rintro ⟨h1, h2⟩
          omega
        · rintro ⟨_, _, _, _, _, _, _, _, _, _, _, h1, h2⟩
          exact ⟨h1, h2⟩
      · rw [if_neg (by simpa using c2)]
        congr 1
        refine (decide_eq_false ?_).symm
        rintro ⟨_, _, _, _, _, _, _, _, _, h1, h2, _⟩
        exact c2 ⟨h1, h2⟩
    · rw [if_neg (by simpa using c1)]
      congr 1
      refine (decide_eq_false ?_).symm
      rintro ⟨_, _, _, _, _, _, _, h1, h2, _⟩
      exact c1 ⟨h1, h2⟩
  · rw [if_neg (by simpa using c0)]
    congr 1
    refine (decide_eq_false ?_).symm
    rintro ⟨_, _, _, _, _, h1, h2, _⟩
    exact c0 ⟨h1, h2⟩
theorem spec_WindowOk_no (w h : Int) (l : List Int) (k : Nat) (c : ¬ (1 ≤ w ∧ w ≤ 6 ∧ 1 ≤ h ∧ h ≤ 6 ∧ l.length = 4)) : spec_WindowOk.j0 (k + 1) w h l true = some (winOk w h l) := by
  simp only [spec_WindowOk.j0]
  rw [if_pos trivial]
  congr 1
  refine (decide_eq_false ?_).symm
  rintro ⟨h1, h2, h3, h4, h5, _⟩
  exact c ⟨h1, h2, h3, h4, h5⟩
theorem spec_WindowOk_ev (w h : Int) (l : List Int) : Ev (fun k => spec_WindowOk.f k w h l) (winOk w h l) := by
  refine ⟨1, fun n hn => ?_⟩
  obtain ⟨k, rfl⟩ : ∃ m, n = m + 1 := ⟨n - 1, by omega⟩
  unfold spec_WindowOk.f
  simp only [l01In_eq, Option.bind_some]
  by_cases c0 : 1 ≤ w ∧ w ≤ 6
  · rw [if_pos (by simpa using c0)]
    by_cases c1 : 1 ≤ h ∧ h ≤ 6
    · rw [if_pos (by simpa using c1)]
      by_cases c2 : l.length = 4
      · rw [show ((l.length : Int) != 4) = false by simp; omega]
        exact spec_WindowOk_j w h l k ⟨c0.1, c0.2, c1.1, c1.2⟩ c2
      · rw [show ((l.length : Int) != 4) = true by simp; omega]
        exact spec_WindowOk_no w h l k (fun z => c2 z.2.2.2.2)
    · rw [if_neg (by simpa using c1)]
      exact spec_WindowOk_no w h l k (fun z => c1 ⟨z.2.2.1, z.2.2.2.1⟩)
  · rw [if_neg (by simpa using c0)]
    exact spec_WindowOk_no w h l k (fun z => c0 ⟨z.1, z.2.1⟩)
theorem four {l : List Int} (h : l.length = 4) : ∃ x y v u, l = [x, y, v, u] := by
  match l, h with
  | [x, y, v, u], _ => exact ⟨x, y, v, u, rfl⟩
theorem rd4 (x y v u : Int) : rd [x, y, v, u] 0 = x ∧ rd [x, y, v, u] 1 = y ∧ rd [x, y, v, u] 2 = v ∧ rd [x, y, v, u] 3 = u := ⟨rfl, rfl, rfl, rfl⟩
theorem impl_WindowOk_eq (w h : Int) (l : List Int) : impl_WindowOk.f w h l = some (winOk w h l) := by
  unfold impl_WindowOk.f impl_isTable.f impl_areWithin.f
  simp only [within_eq, Option.bind_some]
  by_cases c0 : 1 ≤ w ∧ w ≤ 6
  · rw [if_pos (by simpa using c0)]
    simp only [Option.bind_some]
    by_cases c1 : 1 ≤ h ∧ h ≤ 6
    · rw [if_pos (by simpa using c1)]
      by_cases c2 : l.length = 4
      · rw [if_pos (by omega)]
        obtain ⟨x, y, v, u, rfl⟩ := four c2
        obtain ⟨r0, r1, r2, r3⟩ := rd4 x y v u
        rw [r0, r1, r2, r3]
        by_cases c3 : ([x, y, v, u].all fun n => decide (0 ≤ n) && decide (n ≤ 6)) = true
        · rw [if_pos c3]
          simp at c3
          rw [if_pos (by simp), if_pos (by simp), if_pos (by simp), if_pos (by simp), w64 (x := x + v) (by omega) (by omega), w64 (x := y + u) (by omega) (by omega)]
          unfold winOk
          rw [r0, r1, r2, r3]
          by_cases c4 : v ≥ 1
          · rw [if_pos c4]
            by_cases c5 : u ≥ 1
            · rw [if_pos c5]
              by_cases c6 : x + v ≤ w
              · rw [if_pos c6]
                congr 1
                rw [decide_eq_decide]
                simp
                omega
              · rw [if_neg c6]
                congr 1
                exact (decide_eq_false (by simp; omega)).symm
            · rw [if_neg c5]
              congr 1
              exact (decide_eq_false (by simp; omega)).symm
          · rw [if_neg c4]
            congr 1
            exact (decide_eq_false (by simp; omega)).symm
        · rw [if_neg c3]
          congr 1
          refine (decide_eq_false ?_).symm
          rw [r0, r1, r2, r3]
          intro z
          exact c3 (by simp; omega)
      · rw [if_neg (by omega)]
        congr 1
        exact (decide_eq_false (fun z => c2 z.2.2.2.2.1)).symm
    · rw [if_neg (by simpa using c1)]
      congr 1
      exact (decide_eq_false (fun z => c1 ⟨z.2.2.1, z.2.2.2.1⟩)).symm
  · rw [if_neg (by simpa using c0)]
    simp only [Option.bind_some]
    rw [if_neg (by simp)]
    congr 1
    exact (decide_eq_false (fun z => c0 ⟨z.1, z.2.1⟩)).symm

end Go.Proofs.Ytoildabjnioafaa.PA

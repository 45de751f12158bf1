/- The program's RoundUp returns what the reference's returns, for all arguments; no condition. -/
import Derived.Test.YtoildabjnioafaaPFnExactRoundUpx1
namespace Go.Proofs.Ytoildabjnioafaa.Pure
open Go.RowKit Go.Proofs.Ytoildabjnioafaa.PFnExactRoundUp Go.Proofs.YtoildabjnioafaaW.PrintWords Go.Proofs.YtoildabjnioafaaW.PrintLast

theorem FnExactRoundUp : laws_FnExactRoundUp.Pure := by
  intro a0 a1 _ _
  unfold laws_FnExactRoundUp.f
  have e : impl_RoundUp.f a0 a1 = spec_RoundUp.f a0 a1 := rfl
  rw [e]
  have : ∃ r, spec_RoundUp.f a0 a1 = some r := by
    unfold spec_RoundUp.f spec_l01In.f
    by_cases h0 : a0 ≥ 0
    · by_cases h1 : a0 ≤ 100000000
      · by_cases h2 : a1 ≥ 1
        · by_cases h3 : a1 ≤ 1000
          · have : ¬ a1 = 0 := by omega
            simp [h0, h1, h2, h3, this]
          · simp [h0, h1, h2, h3]
        · simp [h0, h1, h2]
      · simp [h0, h1]
    · simp [h0]
  obtain ⟨r, hr⟩ := this
  rw [hr]
  simp

end Go.Proofs.Ytoildabjnioafaa.Pure

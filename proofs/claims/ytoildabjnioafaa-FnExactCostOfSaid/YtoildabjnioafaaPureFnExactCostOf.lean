/- The program's CostOf returns what the reference's returns, for all arguments; no condition. -/
import Derived.Test.YtoildabjnioafaaPFnExactCostOfx1
namespace Go.Proofs.Ytoildabjnioafaa.Pure
open Go.RowKit Go.Proofs.Ytoildabjnioafaa.PFnExactCostOf Go.Proofs.YtoildabjnioafaaW.PrintWords Go.Proofs.YtoildabjnioafaaW.PrintLast

theorem FnExactCostOf : laws_FnExactCostOf.Pure := by
  intro a0 a1 a2 a3 _ _ _ _
  unfold laws_FnExactCostOf.f
  have e : impl_CostOf.f a0 a1 a2 a3 = spec_CostOf.f a0 a1 a2 a3 := rfl
  rw [e]
  have : ∃ r, spec_CostOf.f a0 a1 a2 a3 = some r := by
    unfold spec_CostOf.f spec_l01In.f
    repeat' split
    all_goals simp
    all_goals repeat' split
    all_goals simp
    all_goals repeat' split
    all_goals simp
    all_goals repeat' split
    all_goals simp
  obtain ⟨r, hr⟩ := this
  rw [hr]
  simp

end Go.Proofs.Ytoildabjnioafaa.Pure

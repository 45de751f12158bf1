/- The law FnRulers holds of the program, for every input. -/
import Derived.Test.YtjjdahnjindgaaaGreatDoorPAx16
import Derived.Test.YtjjdahnjindgaaaGreatDoorLibC
namespace Go.Proofs.YtjjdahnjindgaaaGreatDoor.Pure
open Go.RowKit Go.Proofs.YtjjdahnjindgaaaGreatDoor.PA Go.Proofs.YtjjdahnjindgaaaGreatDoorW.PrintWords Go.Proofs.YtjjdahnjindgaaaGreatDoorW.PrintLast Go.Proofs.YtjjdahnjindgaaaGreatDoorW.PrintMore
set_option linter.unusedVariables false
set_option linter.unusedSimpArgs false

theorem FnRulers : laws_FnRulers.Pure := by
  intro l0 _ _ _
  by_cases c : (l0.length : Int) > 1048576
  · exact ⟨0, by unfold laws_FnRulers.f; rw [if_pos c]⟩
  · exact Ev.rounds (g := fun k => laws_FnRulers.f k l0) (laws_FnRulers_ev l0 (by omega))

end Go.Proofs.YtjjdahnjindgaaaGreatDoor.Pure

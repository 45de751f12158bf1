/-
  DERIVED. GIVEN WITH THE SEED: THE CARDS: each row of YtjjdahnjindgaaaGreatDoorRows.lean that lists a variable, with what it lists TIED to the program's text (the seventh form; the later family's looks); each row that meets fmt, with fmt's text TOLD by the authors' own Lean function (tested against real Go, not proved from fmt's source: count such statements apart). THE CARD IS WHAT COUNTS. Prove the row's statement (the work); the ties are given (YtjjdahnjindgaaaGreatDoorTie.lean); close each card by the builder's one call (the guide's Derived/Test/ToyasCard.lean, 'card_holds'). Laid BY PROGRAM, IN A SANDBOX (cutbox-door.mjs). By AI agents, Wed Nov 11 2026. No macro, syntax, notation, axiom, sorry.
-/
import Derived.Test.YtjjdahnjindgaaaGreatDoorRows
import GoSem.ClaimSeven
namespace Go.Proofs.YtjjdahnjindgaaaGreatDoor
namespace Rows

/-- THE TIED CARD OF 'laws.FnRulers'. -/
def fnRulersCard : Claim7 := { stood := { row := fnRulersRow, standIns := [], harness := (true, "d062103d753125abe04b30527994ee090c8ec7c1e3809c786cc143be3992b293"), looks := true }, kinds := [], alts := [], laidByText := true, laidKinds := [.data, .pinned], laidTests := true, laidLooks := .later }
def FnRulersCardSaid : Prop := Claim7.holds Tryz.pinned (.plain (OpenSpec.ofChange fnRulersSpec)) fnRulersCard

/-- THE SECOND FORM's CARD OF 'laws.FnRulers'. -/
def fnRulersUptoCard : Claim7 := { stood := { row := fnRulersUptoRow, standIns := [], harness := (true, "d062103d753125abe04b30527994ee090c8ec7c1e3809c786cc143be3992b293"), looks := true }, kinds := [], alts := [], laidByText := true, laidKinds := [.data, .pinned], laidTests := true, laidLooks := .later }
def FnRulersUptoCardSaid : Prop := Claim7.holds Tryz.pinned (.plain (OpenSpec.upto fnRulersSpec)) fnRulersUptoCard
end Rows
end Go.Proofs.YtjjdahnjindgaaaGreatDoor

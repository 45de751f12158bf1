/-
  DERIVED. GIVEN WITH THE SEED: THE CARDS: each row of YtjjdahnjindgaaaDoorRows.lean that lists a variable, with what it lists TIED to the program's text (the seventh form; the later family's looks); each row that meets fmt, with fmt's text TOLD by the authors' own Lean function (tested against real Go, not proved from fmt's source: count such statements apart). THE CARD IS WHAT COUNTS. Prove the row's statement (the work); the ties are given (YtjjdahnjindgaaaDoorTie.lean); close each card by the builder's one call (the guide's Derived/Test/ToyasCard.lean, 'card_holds'). Laid BY PROGRAM, IN A SANDBOX (cutbox-door.mjs). By AI agents, Wed Nov 11 2026. No macro, syntax, notation, axiom, sorry.
-/
import Derived.Test.YtjjdahnjindgaaaDoorRows
import GoSem.ClaimSeven
namespace Go.Proofs.YtjjdahnjindgaaaDoor
namespace Rows

/-- THE TIED CARD OF 'laws.FnExactEndsOf'. -/
def fnExactEndsOfCard : Claim7 := { stood := { row := fnExactEndsOfRow, standIns := [], harness := (true, "ac86ee17ccaddaa906bfc4db5849297c87679ee177b228d7d1d4c23bccba56dd"), looks := true }, kinds := [], alts := [], laidByText := true, laidKinds := [.data, .pinned], laidTests := true, laidLooks := .later }
def FnExactEndsOfCardSaid : Prop := Claim7.holds Tryd.pinned (.plain (OpenSpec.ofChange fnExactEndsOfSpec)) fnExactEndsOfCard

/-- THE TIED CARD OF 'laws.FnExactRoomOf'. -/
def fnExactRoomOfCard : Claim7 := { stood := { row := fnExactRoomOfRow, standIns := [], harness := (true, "ac86ee17ccaddaa906bfc4db5849297c87679ee177b228d7d1d4c23bccba56dd"), looks := true }, kinds := [], alts := [], laidByText := true, laidKinds := [.data, .pinned], laidTests := true, laidLooks := .later }
def FnExactRoomOfCardSaid : Prop := Claim7.holds Tryd.pinned (.plain (OpenSpec.ofChange fnExactRoomOfSpec)) fnExactRoomOfCard

/-- THE TIED CARD OF 'laws.FnExactCountLayings'. -/
def fnExactCountLayingsCard : Claim7 := { stood := { row := fnExactCountLayingsRow, standIns := [], harness := (true, "ac86ee17ccaddaa906bfc4db5849297c87679ee177b228d7d1d4c23bccba56dd"), looks := true }, kinds := [], alts := [], laidByText := true, laidKinds := [.data, .pinned], laidTests := true, laidLooks := .later }
def FnExactCountLayingsCardSaid : Prop := Claim7.holds Tryd.pinned (.plain (OpenSpec.ofChange fnExactCountLayingsSpec)) fnExactCountLayingsCard

/-- THE TIED CARD OF 'laws.FnExactMirrorLaying'. -/
def fnExactMirrorLayingCard : Claim7 := { stood := { row := fnExactMirrorLayingRow, standIns := [], harness := (true, "ac86ee17ccaddaa906bfc4db5849297c87679ee177b228d7d1d4c23bccba56dd"), looks := true }, kinds := [], alts := [], laidByText := true, laidKinds := [.data, .pinned], laidTests := true, laidLooks := .later }
def FnExactMirrorLayingCardSaid : Prop := Claim7.holds Tryd.pinned (.plain (OpenSpec.ofChange fnExactMirrorLayingSpec)) fnExactMirrorLayingCard

/-- THE SECOND FORM's CARD OF 'laws.FnExactEndsOf'. -/
def fnExactEndsOfUptoCard : Claim7 := { stood := { row := fnExactEndsOfUptoRow, standIns := [], harness := (true, "ac86ee17ccaddaa906bfc4db5849297c87679ee177b228d7d1d4c23bccba56dd"), looks := true }, kinds := [], alts := [], laidByText := true, laidKinds := [.data, .pinned], laidTests := true, laidLooks := .later }
def FnExactEndsOfUptoCardSaid : Prop := Claim7.holds Tryd.pinned (.plain (OpenSpec.upto fnExactEndsOfSpec)) fnExactEndsOfUptoCard

/-- THE SECOND FORM's CARD OF 'laws.FnExactRoomOf'. -/
def fnExactRoomOfUptoCard : Claim7 := { stood := { row := fnExactRoomOfUptoRow, standIns := [], harness := (true, "ac86ee17ccaddaa906bfc4db5849297c87679ee177b228d7d1d4c23bccba56dd"), looks := true }, kinds := [], alts := [], laidByText := true, laidKinds := [.data, .pinned], laidTests := true, laidLooks := .later }
def FnExactRoomOfUptoCardSaid : Prop := Claim7.holds Tryd.pinned (.plain (OpenSpec.upto fnExactRoomOfSpec)) fnExactRoomOfUptoCard

/-- THE SECOND FORM's CARD OF 'laws.FnExactCountLayings'. -/
def fnExactCountLayingsUptoCard : Claim7 := { stood := { row := fnExactCountLayingsUptoRow, standIns := [], harness := (true, "ac86ee17ccaddaa906bfc4db5849297c87679ee177b228d7d1d4c23bccba56dd"), looks := true }, kinds := [], alts := [], laidByText := true, laidKinds := [.data, .pinned], laidTests := true, laidLooks := .later }
def FnExactCountLayingsUptoCardSaid : Prop := Claim7.holds Tryd.pinned (.plain (OpenSpec.upto fnExactCountLayingsSpec)) fnExactCountLayingsUptoCard

/-- THE SECOND FORM's CARD OF 'laws.FnExactMirrorLaying'. -/
def fnExactMirrorLayingUptoCard : Claim7 := { stood := { row := fnExactMirrorLayingUptoRow, standIns := [], harness := (true, "ac86ee17ccaddaa906bfc4db5849297c87679ee177b228d7d1d4c23bccba56dd"), looks := true }, kinds := [], alts := [], laidByText := true, laidKinds := [.data, .pinned], laidTests := true, laidLooks := .later }
def FnExactMirrorLayingUptoCardSaid : Prop := Claim7.holds Tryd.pinned (.plain (OpenSpec.upto fnExactMirrorLayingSpec)) fnExactMirrorLayingUptoCard
end Rows
end Go.Proofs.YtjjdahnjindgaaaDoor

/-
  No cell of these rows narrows 'for every input' (looked for: loops, veiled, ifaces, maps, wideKeys, modest, calm, conditions, laid).
  DERIVED. THE GIVEN ROWS OF THIS SEAT. 9 by the template 'for every input the law returns true; each argument reads behind the call as it read before'; 0 by the template 'total and deterministic' (their statements: YtebjpafnfmmjeaaTotals.lean).
  GIVEN WITH THE SEED: the statements are not yours to turn. If you find one false, say at which input.
  Laid BY PROGRAM, IN A SANDBOX (cutbox-rows.mjs): the forced cells as the released guide's own fill.sh prints them over the translation 571123ddb110547f… (all of the seat's roots in one cut). By AI agents, Wed Nov 11 2026. No macro, syntax, notation, axiom, sorry.
-/
import Derived.Test.YtebjpafnfmmjeaaChecked
import GoSem.Claim
import GoSem.ClaimJoined
import GoSem.ClaimMapViews
import Derived.JoinedTies
import Derived.KernelRfl
namespace Go.Proofs.Ytebjpafnfmmjeaa
/- THE CELL 'sum', in the pinned program and in every row, IS THE sha256 OF THE DUMP (.gsa) THAT YtebjpafnfmmjeaaProg.lean LOADS. Nothing in Lean hashes anything: it is a label: what it is worth is what the hold of that sum in a sandbox is worth. -/
noncomputable def Try.pinned : Pinned := { name := "ytebjpafnfmmjeaa", sum := "571123ddb110547f8aa507560b492953e7b4be686993fb17165d3fce9f30d0ef", checked := Try.checked }
namespace Rows
def none {H : Type} : Left H := { results := [], args := [] }

/-- 'laws.FnExactStoreOk': WHATEVER THE INPUT: true; the input reads as it did. -/
def fnExactStoreOkSpec : ChangeSpec := { name := "fnExactStoreOk", fn := fun _ => fun
  | [d] => { results := [.lit (.bool true)], args := [d] }
  | _ => none }
def fnExactStoreOkRow : OpenClaim := { program := "ytebjpafnfmmjeaa", sum := "571123ddb110547f8aa507560b492953e7b4be686993fb17165d3fce9f30d0ef", func := "loop.example/g03208/laws.FnExactStoreOk", spec := "fnExactStoreOk", unfollowed := true, recurses := true, apart := false }
def FnExactStoreOkSaid : Prop := fnExactStoreOkRow.holds Try.pinned (OpenSpec.ofChange fnExactStoreOkSpec)

/-- ITS FALSE NEIGHBOUR: 'it returns false'. Refute it at one input. -/
def fnExactStoreOkWrong : ChangeSpec := { name := "fnExactStoreOk", fn := fun _ => fun
  | [d] => { results := [.lit (.bool false)], args := [d] }
  | _ => none }
def FnExactStoreOkWrongFalsely : Prop := fnExactStoreOkRow.holds Try.pinned (OpenSpec.ofChange fnExactStoreOkWrong)

/-- 'laws.FnExactSmallestFor': WHATEVER THE INPUT: true; the input reads as it did. -/
def fnExactSmallestForSpec : ChangeSpec := { name := "fnExactSmallestFor", fn := fun _ => fun
  | [d1, d2, d3] => { results := [.lit (.bool true)], args := [d1, d2, d3] }
  | _ => none }
def fnExactSmallestForRow : OpenClaim := { program := "ytebjpafnfmmjeaa", sum := "571123ddb110547f8aa507560b492953e7b4be686993fb17165d3fce9f30d0ef", func := "loop.example/g03208/laws.FnExactSmallestFor", spec := "fnExactSmallestFor", unfollowed := true, recurses := true, apart := false }
def FnExactSmallestForSaid : Prop := fnExactSmallestForRow.holds Try.pinned (OpenSpec.ofChange fnExactSmallestForSpec)

/-- ITS FALSE NEIGHBOUR: 'it returns false'. Refute it at one input. -/
def fnExactSmallestForWrong : ChangeSpec := { name := "fnExactSmallestFor", fn := fun _ => fun
  | [d1, d2, d3] => { results := [.lit (.bool false)], args := [d1, d2, d3] }
  | _ => none }
def FnExactSmallestForWrongFalsely : Prop := fnExactSmallestForRow.holds Try.pinned (OpenSpec.ofChange fnExactSmallestForWrong)

/-- 'laws.FnExactStoreArea': WHATEVER THE INPUT: true; the input reads as it did. -/
def fnExactStoreAreaSpec : ChangeSpec := { name := "fnExactStoreArea", fn := fun _ => fun
  | [d] => { results := [.lit (.bool true)], args := [d] }
  | _ => none }
def fnExactStoreAreaRow : OpenClaim := { program := "ytebjpafnfmmjeaa", sum := "571123ddb110547f8aa507560b492953e7b4be686993fb17165d3fce9f30d0ef", func := "loop.example/g03208/laws.FnExactStoreArea", spec := "fnExactStoreArea", unfollowed := true, recurses := true, apart := false }
def FnExactStoreAreaSaid : Prop := fnExactStoreAreaRow.holds Try.pinned (OpenSpec.ofChange fnExactStoreAreaSpec)

/-- ITS FALSE NEIGHBOUR: 'it returns false'. Refute it at one input. -/
def fnExactStoreAreaWrong : ChangeSpec := { name := "fnExactStoreArea", fn := fun _ => fun
  | [d] => { results := [.lit (.bool false)], args := [d] }
  | _ => none }
def FnExactStoreAreaWrongFalsely : Prop := fnExactStoreAreaRow.holds Try.pinned (OpenSpec.ofChange fnExactStoreAreaWrong)

/-- 'laws.FnExactCanMake': WHATEVER THE INPUT: true; the input reads as it did. -/
def fnExactCanMakeSpec : ChangeSpec := { name := "fnExactCanMake", fn := fun _ => fun
  | [d1, d2, d3, d4] => { results := [.lit (.bool true)], args := [d1, d2, d3, d4] }
  | _ => none }
def fnExactCanMakeRow : OpenClaim := { program := "ytebjpafnfmmjeaa", sum := "571123ddb110547f8aa507560b492953e7b4be686993fb17165d3fce9f30d0ef", func := "loop.example/g03208/laws.FnExactCanMake", spec := "fnExactCanMake", unfollowed := true, recurses := true, apart := false }
def FnExactCanMakeSaid : Prop := fnExactCanMakeRow.holds Try.pinned (OpenSpec.ofChange fnExactCanMakeSpec)

/-- ITS FALSE NEIGHBOUR: 'it returns false'. Refute it at one input. -/
def fnExactCanMakeWrong : ChangeSpec := { name := "fnExactCanMake", fn := fun _ => fun
  | [d1, d2, d3, d4] => { results := [.lit (.bool false)], args := [d1, d2, d3, d4] }
  | _ => none }
def FnExactCanMakeWrongFalsely : Prop := fnExactCanMakeRow.holds Try.pinned (OpenSpec.ofChange fnExactCanMakeWrong)

/-- 'laws.FnExactAddRemnant': WHATEVER THE INPUT: true; the input reads as it did. -/
def fnExactAddRemnantSpec : ChangeSpec := { name := "fnExactAddRemnant", fn := fun _ => fun
  | [d1, d2, d3] => { results := [.lit (.bool true)], args := [d1, d2, d3] }
  | _ => none }
def fnExactAddRemnantRow : OpenClaim := { program := "ytebjpafnfmmjeaa", sum := "571123ddb110547f8aa507560b492953e7b4be686993fb17165d3fce9f30d0ef", func := "loop.example/g03208/laws.FnExactAddRemnant", spec := "fnExactAddRemnant", unfollowed := true, recurses := true, apart := false }
def FnExactAddRemnantSaid : Prop := fnExactAddRemnantRow.holds Try.pinned (OpenSpec.ofChange fnExactAddRemnantSpec)

/-- ITS FALSE NEIGHBOUR: 'it returns false'. Refute it at one input. -/
def fnExactAddRemnantWrong : ChangeSpec := { name := "fnExactAddRemnant", fn := fun _ => fun
  | [d1, d2, d3] => { results := [.lit (.bool false)], args := [d1, d2, d3] }
  | _ => none }
def FnExactAddRemnantWrongFalsely : Prop := fnExactAddRemnantRow.holds Try.pinned (OpenSpec.ofChange fnExactAddRemnantWrong)

/-- 'laws.FnExactTakePiece': WHATEVER THE INPUT: true; the input reads as it did. -/
def fnExactTakePieceSpec : ChangeSpec := { name := "fnExactTakePiece", fn := fun _ => fun
  | [d1, d2, d3] => { results := [.lit (.bool true)], args := [d1, d2, d3] }
  | _ => none }
def fnExactTakePieceRow : OpenClaim := { program := "ytebjpafnfmmjeaa", sum := "571123ddb110547f8aa507560b492953e7b4be686993fb17165d3fce9f30d0ef", func := "loop.example/g03208/laws.FnExactTakePiece", spec := "fnExactTakePiece", unfollowed := true, recurses := true, apart := false }
def FnExactTakePieceSaid : Prop := fnExactTakePieceRow.holds Try.pinned (OpenSpec.ofChange fnExactTakePieceSpec)

/-- ITS FALSE NEIGHBOUR: 'it returns false'. Refute it at one input. -/
def fnExactTakePieceWrong : ChangeSpec := { name := "fnExactTakePiece", fn := fun _ => fun
  | [d1, d2, d3] => { results := [.lit (.bool false)], args := [d1, d2, d3] }
  | _ => none }
def FnExactTakePieceWrongFalsely : Prop := fnExactTakePieceRow.holds Try.pinned (OpenSpec.ofChange fnExactTakePieceWrong)

/-- 'laws.FnExactTakeAll': WHATEVER THE INPUT: true; the input reads as it did. -/
def fnExactTakeAllSpec : ChangeSpec := { name := "fnExactTakeAll", fn := fun _ => fun
  | [d1, d2] => { results := [.lit (.bool true)], args := [d1, d2] }
  | _ => none }
def fnExactTakeAllRow : OpenClaim := { program := "ytebjpafnfmmjeaa", sum := "571123ddb110547f8aa507560b492953e7b4be686993fb17165d3fce9f30d0ef", func := "loop.example/g03208/laws.FnExactTakeAll", spec := "fnExactTakeAll", unfollowed := true, recurses := true, apart := false }
def FnExactTakeAllSaid : Prop := fnExactTakeAllRow.holds Try.pinned (OpenSpec.ofChange fnExactTakeAllSpec)

/-- ITS FALSE NEIGHBOUR: 'it returns false'. Refute it at one input. -/
def fnExactTakeAllWrong : ChangeSpec := { name := "fnExactTakeAll", fn := fun _ => fun
  | [d1, d2] => { results := [.lit (.bool false)], args := [d1, d2] }
  | _ => none }
def FnExactTakeAllWrongFalsely : Prop := fnExactTakeAllRow.holds Try.pinned (OpenSpec.ofChange fnExactTakeAllWrong)

/-- 'laws.FnExactSortStore': WHATEVER THE INPUT: true; the input reads as it did. -/
def fnExactSortStoreSpec : ChangeSpec := { name := "fnExactSortStore", fn := fun _ => fun
  | [d] => { results := [.lit (.bool true)], args := [d] }
  | _ => none }
def fnExactSortStoreRow : OpenClaim := { program := "ytebjpafnfmmjeaa", sum := "571123ddb110547f8aa507560b492953e7b4be686993fb17165d3fce9f30d0ef", func := "loop.example/g03208/laws.FnExactSortStore", spec := "fnExactSortStore", unfollowed := true, recurses := true, apart := false }
def FnExactSortStoreSaid : Prop := fnExactSortStoreRow.holds Try.pinned (OpenSpec.ofChange fnExactSortStoreSpec)

/-- ITS FALSE NEIGHBOUR: 'it returns false'. Refute it at one input. -/
def fnExactSortStoreWrong : ChangeSpec := { name := "fnExactSortStore", fn := fun _ => fun
  | [d] => { results := [.lit (.bool false)], args := [d] }
  | _ => none }
def FnExactSortStoreWrongFalsely : Prop := fnExactSortStoreRow.holds Try.pinned (OpenSpec.ofChange fnExactSortStoreWrong)

/-- 'laws.FnRemnants': WHATEVER THE INPUT: true; the input reads as it did. -/
def fnRemnantsSpec : ChangeSpec := { name := "fnRemnants", fn := fun _ => fun
  | [d] => { results := [.lit (.bool true)], args := [d] }
  | _ => none }
def fnRemnantsRow : OpenClaim := { program := "ytebjpafnfmmjeaa", sum := "571123ddb110547f8aa507560b492953e7b4be686993fb17165d3fce9f30d0ef", func := "loop.example/g03208/laws.FnRemnants", spec := "fnRemnants", unfollowed := true, recurses := true, apart := false }
def FnRemnantsSaid : Prop := fnRemnantsRow.holds Try.pinned (OpenSpec.ofChange fnRemnantsSpec)

/-- ITS FALSE NEIGHBOUR: 'it returns false'. Refute it at one input. -/
def fnRemnantsWrong : ChangeSpec := { name := "fnRemnants", fn := fun _ => fun
  | [d] => { results := [.lit (.bool false)], args := [d] }
  | _ => none }
def FnRemnantsWrongFalsely : Prop := fnRemnantsRow.holds Try.pinned (OpenSpec.ofChange fnRemnantsWrong)

/- THE SECOND FORM. 'bulk': how many values and letters a reading holds, each counted each time it is reached (what is shared counts as often as it is met; a slice's spare places count too). A statement '..UptoSaid' is the law's where the arguments, and the package variables that the reading takes, are together of bulk at most 1048576: NARROWER than '..Said'. Prove '..Said' where nothing that the law and all that it calls make is longer than what came in: it says more and counts as full. Else prove '..UptoSaid'. A law counts once. -/
mutual
def uptoBulk {H : Type} : DataW H → Nat
  | .lit (.string bytes) => bytes.length + 1
  | .lit _ => 1
  | .nil => 1
  | .ptr d => uptoBulk d + 1
  | .slice elems spare => uptoBulkAll elems + uptoBulkAll spare + 1
  | .agg parts => uptoBulkAll parts + 1
  | .iface _ d => uptoBulk d + 1
  | .map entries => uptoBulkEntries entries + 1
  | .held _ => 1
def uptoBulkAll {H : Type} : List (DataW H) → Nat
  | [] => 0
  | d :: r => uptoBulk d + uptoBulkAll r
def uptoBulkEntries {H : Type} : List (Lit × DataW H) → Nat
  | [] => 0
  | x :: r => uptoBulkEntry x + uptoBulkEntries r
def uptoBulkEntry {H : Type} : Lit × DataW H → Nat
  | (.string bytes, d) => bytes.length + uptoBulk d + 1
  | (_, d) => uptoBulk d + 1
 end
def uptoSmall : (H : Type) → List (DataW H) → Bool := fun _ ds => decide (uptoBulkAll ds ≤ 1048576)
def OpenSpec.upto (s : _root_.Go.ChangeSpec) : _root_.Go.OpenSpec := { _root_.Go.OpenSpec.ofChange s with cond := some uptoSmall }

/-- 'laws.FnExactStoreOk', WHERE WHAT IT READS IS OF BULK AT MOST 1048576: true; the input reads as it did. -/
def fnExactStoreOkUptoRow : OpenClaim := { program := "ytebjpafnfmmjeaa", sum := "571123ddb110547f8aa507560b492953e7b4be686993fb17165d3fce9f30d0ef", func := "loop.example/g03208/laws.FnExactStoreOk", spec := "fnExactStoreOk", unfollowed := true, recurses := true, apart := false, narrowed := true }
def FnExactStoreOkUptoSaid : Prop := fnExactStoreOkUptoRow.holds Try.pinned (OpenSpec.upto fnExactStoreOkSpec)

/-- 'laws.FnExactSmallestFor', WHERE WHAT IT READS IS OF BULK AT MOST 1048576: true; the input reads as it did. -/
def fnExactSmallestForUptoRow : OpenClaim := { program := "ytebjpafnfmmjeaa", sum := "571123ddb110547f8aa507560b492953e7b4be686993fb17165d3fce9f30d0ef", func := "loop.example/g03208/laws.FnExactSmallestFor", spec := "fnExactSmallestFor", unfollowed := true, recurses := true, apart := false, narrowed := true }
def FnExactSmallestForUptoSaid : Prop := fnExactSmallestForUptoRow.holds Try.pinned (OpenSpec.upto fnExactSmallestForSpec)

/-- 'laws.FnExactStoreArea', WHERE WHAT IT READS IS OF BULK AT MOST 1048576: true; the input reads as it did. -/
def fnExactStoreAreaUptoRow : OpenClaim := { program := "ytebjpafnfmmjeaa", sum := "571123ddb110547f8aa507560b492953e7b4be686993fb17165d3fce9f30d0ef", func := "loop.example/g03208/laws.FnExactStoreArea", spec := "fnExactStoreArea", unfollowed := true, recurses := true, apart := false, narrowed := true }
def FnExactStoreAreaUptoSaid : Prop := fnExactStoreAreaUptoRow.holds Try.pinned (OpenSpec.upto fnExactStoreAreaSpec)

/-- 'laws.FnExactCanMake', WHERE WHAT IT READS IS OF BULK AT MOST 1048576: true; the input reads as it did. -/
def fnExactCanMakeUptoRow : OpenClaim := { program := "ytebjpafnfmmjeaa", sum := "571123ddb110547f8aa507560b492953e7b4be686993fb17165d3fce9f30d0ef", func := "loop.example/g03208/laws.FnExactCanMake", spec := "fnExactCanMake", unfollowed := true, recurses := true, apart := false, narrowed := true }
def FnExactCanMakeUptoSaid : Prop := fnExactCanMakeUptoRow.holds Try.pinned (OpenSpec.upto fnExactCanMakeSpec)

/-- 'laws.FnExactAddRemnant', WHERE WHAT IT READS IS OF BULK AT MOST 1048576: true; the input reads as it did. -/
def fnExactAddRemnantUptoRow : OpenClaim := { program := "ytebjpafnfmmjeaa", sum := "571123ddb110547f8aa507560b492953e7b4be686993fb17165d3fce9f30d0ef", func := "loop.example/g03208/laws.FnExactAddRemnant", spec := "fnExactAddRemnant", unfollowed := true, recurses := true, apart := false, narrowed := true }
def FnExactAddRemnantUptoSaid : Prop := fnExactAddRemnantUptoRow.holds Try.pinned (OpenSpec.upto fnExactAddRemnantSpec)

/-- 'laws.FnExactTakePiece', WHERE WHAT IT READS IS OF BULK AT MOST 1048576: true; the input reads as it did. -/
def fnExactTakePieceUptoRow : OpenClaim := { program := "ytebjpafnfmmjeaa", sum := "571123ddb110547f8aa507560b492953e7b4be686993fb17165d3fce9f30d0ef", func := "loop.example/g03208/laws.FnExactTakePiece", spec := "fnExactTakePiece", unfollowed := true, recurses := true, apart := false, narrowed := true }
def FnExactTakePieceUptoSaid : Prop := fnExactTakePieceUptoRow.holds Try.pinned (OpenSpec.upto fnExactTakePieceSpec)

/-- 'laws.FnExactTakeAll', WHERE WHAT IT READS IS OF BULK AT MOST 1048576: true; the input reads as it did. -/
def fnExactTakeAllUptoRow : OpenClaim := { program := "ytebjpafnfmmjeaa", sum := "571123ddb110547f8aa507560b492953e7b4be686993fb17165d3fce9f30d0ef", func := "loop.example/g03208/laws.FnExactTakeAll", spec := "fnExactTakeAll", unfollowed := true, recurses := true, apart := false, narrowed := true }
def FnExactTakeAllUptoSaid : Prop := fnExactTakeAllUptoRow.holds Try.pinned (OpenSpec.upto fnExactTakeAllSpec)

/-- 'laws.FnExactSortStore', WHERE WHAT IT READS IS OF BULK AT MOST 1048576: true; the input reads as it did. -/
def fnExactSortStoreUptoRow : OpenClaim := { program := "ytebjpafnfmmjeaa", sum := "571123ddb110547f8aa507560b492953e7b4be686993fb17165d3fce9f30d0ef", func := "loop.example/g03208/laws.FnExactSortStore", spec := "fnExactSortStore", unfollowed := true, recurses := true, apart := false, narrowed := true }
def FnExactSortStoreUptoSaid : Prop := fnExactSortStoreUptoRow.holds Try.pinned (OpenSpec.upto fnExactSortStoreSpec)

/-- 'laws.FnRemnants', WHERE WHAT IT READS IS OF BULK AT MOST 1048576: true; the input reads as it did. -/
def fnRemnantsUptoRow : OpenClaim := { program := "ytebjpafnfmmjeaa", sum := "571123ddb110547f8aa507560b492953e7b4be686993fb17165d3fce9f30d0ef", func := "loop.example/g03208/laws.FnRemnants", spec := "fnRemnants", unfollowed := true, recurses := true, apart := false, narrowed := true }
def FnRemnantsUptoSaid : Prop := fnRemnantsUptoRow.holds Try.pinned (OpenSpec.upto fnRemnantsSpec)

end Rows
end Go.Proofs.Ytebjpafnfmmjeaa

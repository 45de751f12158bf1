/-
  No cell of these rows narrows 'for every input' (looked for: loops, veiled, ifaces, maps, wideKeys, modest, calm, conditions, laid).
  DERIVED. THE GIVEN ROWS OF THIS SEAT. 10 by the template 'for every input the law returns true; each argument reads behind the call as it read before'; 0 by the template 'total and deterministic' (their statements: YtcdajmbnijmdfaaTotals.lean).
  GIVEN WITH THE SEED: the statements are not yours to turn. If you find one false, say at which input.
  Laid BY PROGRAM, IN A SANDBOX (cutbox-rows.mjs): the forced cells as the released guide's own fill.sh prints them over the translation 9dd9d03a0b0a6152… (all of the seat's roots in one cut). By AI agents, Wed Nov 11 2026. No macro, syntax, notation, axiom, sorry.
-/
import Derived.Test.YtcdajmbnijmdfaaChecked
import GoSem.Claim
import GoSem.ClaimJoined
import GoSem.ClaimMapViews
import Derived.JoinedTies
import Derived.KernelRfl
namespace Go.Proofs.Ytcdajmbnijmdfaa
/- THE CELL 'sum', in the pinned program and in every row, IS THE sha256 OF THE DUMP (.gsa) THAT YtcdajmbnijmdfaaProg.lean LOADS. Nothing in Lean hashes anything: it is a label: what it is worth is what the hold of that sum in a sandbox is worth. -/
noncomputable def Try.pinned : Pinned := { name := "ytcdajmbnijmdfaa", sum := "9dd9d03a0b0a61522a4c28b0ea40f92e16d69e4605a940c8849f7e6cb82885ff", checked := Try.checked }
namespace Rows
def none {H : Type} : Left H := { results := [], args := [] }

/-- 'laws.FnExactIsDrawing': WHATEVER THE INPUT: true; the input reads as it did. -/
def fnExactIsDrawingSpec : ChangeSpec := { name := "fnExactIsDrawing", fn := fun _ => fun
  | [d1, d2] => { results := [.lit (.bool true)], args := [d1, d2] }
  | _ => none }
def fnExactIsDrawingRow : OpenClaim := { program := "ytcdajmbnijmdfaa", sum := "9dd9d03a0b0a61522a4c28b0ea40f92e16d69e4605a940c8849f7e6cb82885ff", func := "loop.example/g03208/laws.FnExactIsDrawing", spec := "fnExactIsDrawing", plainKeys := false, apart := false }
def FnExactIsDrawingSaid : Prop := fnExactIsDrawingRow.holds Try.pinned (OpenSpec.ofChange fnExactIsDrawingSpec)

/-- ITS FALSE NEIGHBOUR: 'it returns false'. Refute it at one input. -/
def fnExactIsDrawingWrong : ChangeSpec := { name := "fnExactIsDrawing", fn := fun _ => fun
  | [d1, d2] => { results := [.lit (.bool false)], args := [d1, d2] }
  | _ => none }
def FnExactIsDrawingWrongFalsely : Prop := fnExactIsDrawingRow.holds Try.pinned (OpenSpec.ofChange fnExactIsDrawingWrong)

/-- 'laws.FnExactIsStroke': WHATEVER THE INPUT: true; the input reads as it did. -/
def fnExactIsStrokeSpec : ChangeSpec := { name := "fnExactIsStroke", fn := fun _ => fun
  | [d1, d2, d3, d4] => { results := [.lit (.bool true)], args := [d1, d2, d3, d4] }
  | _ => none }
def fnExactIsStrokeRow : OpenClaim := { program := "ytcdajmbnijmdfaa", sum := "9dd9d03a0b0a61522a4c28b0ea40f92e16d69e4605a940c8849f7e6cb82885ff", func := "loop.example/g03208/laws.FnExactIsStroke", spec := "fnExactIsStroke", plainKeys := false, apart := false }
def FnExactIsStrokeSaid : Prop := fnExactIsStrokeRow.holds Try.pinned (OpenSpec.ofChange fnExactIsStrokeSpec)

/-- ITS FALSE NEIGHBOUR: 'it returns false'. Refute it at one input. -/
def fnExactIsStrokeWrong : ChangeSpec := { name := "fnExactIsStroke", fn := fun _ => fun
  | [d1, d2, d3, d4] => { results := [.lit (.bool false)], args := [d1, d2, d3, d4] }
  | _ => none }
def FnExactIsStrokeWrongFalsely : Prop := fnExactIsStrokeRow.holds Try.pinned (OpenSpec.ofChange fnExactIsStrokeWrong)

/-- 'laws.FnExactDegreesOf': WHATEVER THE INPUT: true; the input reads as it did. -/
def fnExactDegreesOfSpec : ChangeSpec := { name := "fnExactDegreesOf", fn := fun _ => fun
  | [d1, d2] => { results := [.lit (.bool true)], args := [d1, d2] }
  | _ => none }
def fnExactDegreesOfRow : OpenClaim := { program := "ytcdajmbnijmdfaa", sum := "9dd9d03a0b0a61522a4c28b0ea40f92e16d69e4605a940c8849f7e6cb82885ff", func := "loop.example/g03208/laws.FnExactDegreesOf", spec := "fnExactDegreesOf", plainKeys := false, apart := false }
def FnExactDegreesOfSaid : Prop := fnExactDegreesOfRow.holds Try.pinned (OpenSpec.ofChange fnExactDegreesOfSpec)

/-- ITS FALSE NEIGHBOUR: 'it returns false'. Refute it at one input. -/
def fnExactDegreesOfWrong : ChangeSpec := { name := "fnExactDegreesOf", fn := fun _ => fun
  | [d1, d2] => { results := [.lit (.bool false)], args := [d1, d2] }
  | _ => none }
def FnExactDegreesOfWrongFalsely : Prop := fnExactDegreesOfRow.holds Try.pinned (OpenSpec.ofChange fnExactDegreesOfWrong)

/-- 'laws.FnExactOddPoints': WHATEVER THE INPUT: true; the input reads as it did. -/
def fnExactOddPointsSpec : ChangeSpec := { name := "fnExactOddPoints", fn := fun _ => fun
  | [d1, d2] => { results := [.lit (.bool true)], args := [d1, d2] }
  | _ => none }
def fnExactOddPointsRow : OpenClaim := { program := "ytcdajmbnijmdfaa", sum := "9dd9d03a0b0a61522a4c28b0ea40f92e16d69e4605a940c8849f7e6cb82885ff", func := "loop.example/g03208/laws.FnExactOddPoints", spec := "fnExactOddPoints", plainKeys := false, apart := false }
def FnExactOddPointsSaid : Prop := fnExactOddPointsRow.holds Try.pinned (OpenSpec.ofChange fnExactOddPointsSpec)

/-- ITS FALSE NEIGHBOUR: 'it returns false'. Refute it at one input. -/
def fnExactOddPointsWrong : ChangeSpec := { name := "fnExactOddPoints", fn := fun _ => fun
  | [d1, d2] => { results := [.lit (.bool false)], args := [d1, d2] }
  | _ => none }
def FnExactOddPointsWrongFalsely : Prop := fnExactOddPointsRow.holds Try.pinned (OpenSpec.ofChange fnExactOddPointsWrong)

/-- 'laws.FnExactWithLine': WHATEVER THE INPUT: true; the input reads as it did. -/
def fnExactWithLineSpec : ChangeSpec := { name := "fnExactWithLine", fn := fun _ => fun
  | [d1, d2, d3, d4] => { results := [.lit (.bool true)], args := [d1, d2, d3, d4] }
  | _ => none }
def fnExactWithLineRow : OpenClaim := { program := "ytcdajmbnijmdfaa", sum := "9dd9d03a0b0a61522a4c28b0ea40f92e16d69e4605a940c8849f7e6cb82885ff", func := "loop.example/g03208/laws.FnExactWithLine", spec := "fnExactWithLine", plainKeys := false, apart := false }
def FnExactWithLineSaid : Prop := fnExactWithLineRow.holds Try.pinned (OpenSpec.ofChange fnExactWithLineSpec)

/-- ITS FALSE NEIGHBOUR: 'it returns false'. Refute it at one input. -/
def fnExactWithLineWrong : ChangeSpec := { name := "fnExactWithLine", fn := fun _ => fun
  | [d1, d2, d3, d4] => { results := [.lit (.bool false)], args := [d1, d2, d3, d4] }
  | _ => none }
def FnExactWithLineWrongFalsely : Prop := fnExactWithLineRow.holds Try.pinned (OpenSpec.ofChange fnExactWithLineWrong)

/-- 'laws.FnExactCanTrace': WHATEVER THE INPUT: true; the input reads as it did. -/
def fnExactCanTraceSpec : ChangeSpec := { name := "fnExactCanTrace", fn := fun _ => fun
  | [d1, d2] => { results := [.lit (.bool true)], args := [d1, d2] }
  | _ => none }
def fnExactCanTraceRow : OpenClaim := { program := "ytcdajmbnijmdfaa", sum := "9dd9d03a0b0a61522a4c28b0ea40f92e16d69e4605a940c8849f7e6cb82885ff", func := "loop.example/g03208/laws.FnExactCanTrace", spec := "fnExactCanTrace", unfollowed := true, recurses := true, plainKeys := false, apart := false }
def FnExactCanTraceSaid : Prop := fnExactCanTraceRow.holds Try.pinned (OpenSpec.ofChange fnExactCanTraceSpec)

/-- ITS FALSE NEIGHBOUR: 'it returns false'. Refute it at one input. -/
def fnExactCanTraceWrong : ChangeSpec := { name := "fnExactCanTrace", fn := fun _ => fun
  | [d1, d2] => { results := [.lit (.bool false)], args := [d1, d2] }
  | _ => none }
def FnExactCanTraceWrongFalsely : Prop := fnExactCanTraceRow.holds Try.pinned (OpenSpec.ofChange fnExactCanTraceWrong)

/-- 'laws.FnExactFirstStroke': WHATEVER THE INPUT: true; the input reads as it did. -/
def fnExactFirstStrokeSpec : ChangeSpec := { name := "fnExactFirstStroke", fn := fun _ => fun
  | [d1, d2, d3] => { results := [.lit (.bool true)], args := [d1, d2, d3] }
  | _ => none }
def fnExactFirstStrokeRow : OpenClaim := { program := "ytcdajmbnijmdfaa", sum := "9dd9d03a0b0a61522a4c28b0ea40f92e16d69e4605a940c8849f7e6cb82885ff", func := "loop.example/g03208/laws.FnExactFirstStroke", spec := "fnExactFirstStroke", unfollowed := true, recurses := true, plainKeys := false, apart := false }
def FnExactFirstStrokeSaid : Prop := fnExactFirstStrokeRow.holds Try.pinned (OpenSpec.ofChange fnExactFirstStrokeSpec)

/-- ITS FALSE NEIGHBOUR: 'it returns false'. Refute it at one input. -/
def fnExactFirstStrokeWrong : ChangeSpec := { name := "fnExactFirstStroke", fn := fun _ => fun
  | [d1, d2, d3] => { results := [.lit (.bool false)], args := [d1, d2, d3] }
  | _ => none }
def FnExactFirstStrokeWrongFalsely : Prop := fnExactFirstStrokeRow.holds Try.pinned (OpenSpec.ofChange fnExactFirstStrokeWrong)

/-- 'laws.FnExactStrokesNeeded': WHATEVER THE INPUT: true; the input reads as it did. -/
def fnExactStrokesNeededSpec : ChangeSpec := { name := "fnExactStrokesNeeded", fn := fun _ => fun
  | [d1, d2] => { results := [.lit (.bool true)], args := [d1, d2] }
  | _ => none }
def fnExactStrokesNeededRow : OpenClaim := { program := "ytcdajmbnijmdfaa", sum := "9dd9d03a0b0a61522a4c28b0ea40f92e16d69e4605a940c8849f7e6cb82885ff", func := "loop.example/g03208/laws.FnExactStrokesNeeded", spec := "fnExactStrokesNeeded", plainKeys := false, apart := false }
def FnExactStrokesNeededSaid : Prop := fnExactStrokesNeededRow.holds Try.pinned (OpenSpec.ofChange fnExactStrokesNeededSpec)

/-- ITS FALSE NEIGHBOUR: 'it returns false'. Refute it at one input. -/
def fnExactStrokesNeededWrong : ChangeSpec := { name := "fnExactStrokesNeeded", fn := fun _ => fun
  | [d1, d2] => { results := [.lit (.bool false)], args := [d1, d2] }
  | _ => none }
def FnExactStrokesNeededWrongFalsely : Prop := fnExactStrokesNeededRow.holds Try.pinned (OpenSpec.ofChange fnExactStrokesNeededWrong)

/-- 'laws.FnExactLineParts': WHATEVER THE INPUT: true; the input reads as it did. -/
def fnExactLinePartsSpec : ChangeSpec := { name := "fnExactLineParts", fn := fun _ => fun
  | [d1, d2] => { results := [.lit (.bool true)], args := [d1, d2] }
  | _ => none }
def fnExactLinePartsRow : OpenClaim := { program := "ytcdajmbnijmdfaa", sum := "9dd9d03a0b0a61522a4c28b0ea40f92e16d69e4605a940c8849f7e6cb82885ff", func := "loop.example/g03208/laws.FnExactLineParts", spec := "fnExactLineParts", plainKeys := false, apart := false }
def FnExactLinePartsSaid : Prop := fnExactLinePartsRow.holds Try.pinned (OpenSpec.ofChange fnExactLinePartsSpec)

/-- ITS FALSE NEIGHBOUR: 'it returns false'. Refute it at one input. -/
def fnExactLinePartsWrong : ChangeSpec := { name := "fnExactLineParts", fn := fun _ => fun
  | [d1, d2] => { results := [.lit (.bool false)], args := [d1, d2] }
  | _ => none }
def FnExactLinePartsWrongFalsely : Prop := fnExactLinePartsRow.holds Try.pinned (OpenSpec.ofChange fnExactLinePartsWrong)

/-- 'laws.FnStrokes': WHATEVER THE INPUT: true; the input reads as it did. -/
def fnStrokesSpec : ChangeSpec := { name := "fnStrokes", fn := fun _ => fun
  | [d] => { results := [.lit (.bool true)], args := [d] }
  | _ => none }
def fnStrokesRow : OpenClaim := { program := "ytcdajmbnijmdfaa", sum := "9dd9d03a0b0a61522a4c28b0ea40f92e16d69e4605a940c8849f7e6cb82885ff", func := "loop.example/g03208/laws.FnStrokes", spec := "fnStrokes", unfollowed := true, recurses := true, plainKeys := false, apart := false }
def FnStrokesSaid : Prop := fnStrokesRow.holds Try.pinned (OpenSpec.ofChange fnStrokesSpec)

/-- ITS FALSE NEIGHBOUR: 'it returns false'. Refute it at one input. -/
def fnStrokesWrong : ChangeSpec := { name := "fnStrokes", fn := fun _ => fun
  | [d] => { results := [.lit (.bool false)], args := [d] }
  | _ => none }
def FnStrokesWrongFalsely : Prop := fnStrokesRow.holds Try.pinned (OpenSpec.ofChange fnStrokesWrong)

/- THE SECOND FORM. 'bulk': how many values and letters a reading holds, each counted each time it is reached (what is shared counts as often as it is met; a slice's spare places count too). A statement '..UptoSaid' is the law's where the arguments, and the package variables that the reading takes, are together of bulk at most 1048576: NARROWER than '..Said'. Prove '..Said' where nothing that the law and all that it calls make is longer than what came in: it says more and counts as full. Else prove '..UptoSaid'. A law counts once. -/
mutual
def uptoBulk {H : Type} : DataW H → Nat
  | .lit (.string bytes) => bytes.length + 1
  | .lit _ => 1
  | .nil => 1
  | .ptr d => uptoBulk d + 1
  | .slice elems spare => uptoBulkAll elems + uptoBulkAll spare + 1
  | .agg parts => uptoBulkAll parts + 1
  | .iface _ d => uptoBulk d + 1
  | .map entries => uptoBulkEntries entries + 1
  | .held _ => 1
def uptoBulkAll {H : Type} : List (DataW H) → Nat
  | [] => 0
  | d :: r => uptoBulk d + uptoBulkAll r
def uptoBulkEntries {H : Type} : List (Lit × DataW H) → Nat
  | [] => 0
  | x :: r => uptoBulkEntry x + uptoBulkEntries r
def uptoBulkEntry {H : Type} : Lit × DataW H → Nat
  | (.string bytes, d) => bytes.length + uptoBulk d + 1
  | (_, d) => uptoBulk d + 1
 end
def uptoSmall : (H : Type) → List (DataW H) → Bool := fun _ ds => decide (uptoBulkAll ds ≤ 1048576)
def OpenSpec.upto (s : _root_.Go.ChangeSpec) : _root_.Go.OpenSpec := { _root_.Go.OpenSpec.ofChange s with cond := some uptoSmall }

/-- 'laws.FnExactIsDrawing', WHERE WHAT IT READS IS OF BULK AT MOST 1048576: true; the input reads as it did. -/
def fnExactIsDrawingUptoRow : OpenClaim := { program := "ytcdajmbnijmdfaa", sum := "9dd9d03a0b0a61522a4c28b0ea40f92e16d69e4605a940c8849f7e6cb82885ff", func := "loop.example/g03208/laws.FnExactIsDrawing", spec := "fnExactIsDrawing", plainKeys := false, apart := false, narrowed := true }
def FnExactIsDrawingUptoSaid : Prop := fnExactIsDrawingUptoRow.holds Try.pinned (OpenSpec.upto fnExactIsDrawingSpec)

/-- 'laws.FnExactIsStroke', WHERE WHAT IT READS IS OF BULK AT MOST 1048576: true; the input reads as it did. -/
def fnExactIsStrokeUptoRow : OpenClaim := { program := "ytcdajmbnijmdfaa", sum := "9dd9d03a0b0a61522a4c28b0ea40f92e16d69e4605a940c8849f7e6cb82885ff", func := "loop.example/g03208/laws.FnExactIsStroke", spec := "fnExactIsStroke", plainKeys := false, apart := false, narrowed := true }
def FnExactIsStrokeUptoSaid : Prop := fnExactIsStrokeUptoRow.holds Try.pinned (OpenSpec.upto fnExactIsStrokeSpec)

/-- 'laws.FnExactDegreesOf', WHERE WHAT IT READS IS OF BULK AT MOST 1048576: true; the input reads as it did. -/
def fnExactDegreesOfUptoRow : OpenClaim := { program := "ytcdajmbnijmdfaa", sum := "9dd9d03a0b0a61522a4c28b0ea40f92e16d69e4605a940c8849f7e6cb82885ff", func := "loop.example/g03208/laws.FnExactDegreesOf", spec := "fnExactDegreesOf", plainKeys := false, apart := false, narrowed := true }
def FnExactDegreesOfUptoSaid : Prop := fnExactDegreesOfUptoRow.holds Try.pinned (OpenSpec.upto fnExactDegreesOfSpec)

/-- 'laws.FnExactOddPoints', WHERE WHAT IT READS IS OF BULK AT MOST 1048576: true; the input reads as it did. -/
def fnExactOddPointsUptoRow : OpenClaim := { program := "ytcdajmbnijmdfaa", sum := "9dd9d03a0b0a61522a4c28b0ea40f92e16d69e4605a940c8849f7e6cb82885ff", func := "loop.example/g03208/laws.FnExactOddPoints", spec := "fnExactOddPoints", plainKeys := false, apart := false, narrowed := true }
def FnExactOddPointsUptoSaid : Prop := fnExactOddPointsUptoRow.holds Try.pinned (OpenSpec.upto fnExactOddPointsSpec)

/-- 'laws.FnExactWithLine', WHERE WHAT IT READS IS OF BULK AT MOST 1048576: true; the input reads as it did. -/
def fnExactWithLineUptoRow : OpenClaim := { program := "ytcdajmbnijmdfaa", sum := "9dd9d03a0b0a61522a4c28b0ea40f92e16d69e4605a940c8849f7e6cb82885ff", func := "loop.example/g03208/laws.FnExactWithLine", spec := "fnExactWithLine", plainKeys := false, apart := false, narrowed := true }
def FnExactWithLineUptoSaid : Prop := fnExactWithLineUptoRow.holds Try.pinned (OpenSpec.upto fnExactWithLineSpec)

/-- 'laws.FnExactCanTrace', WHERE WHAT IT READS IS OF BULK AT MOST 1048576: true; the input reads as it did. -/
def fnExactCanTraceUptoRow : OpenClaim := { program := "ytcdajmbnijmdfaa", sum := "9dd9d03a0b0a61522a4c28b0ea40f92e16d69e4605a940c8849f7e6cb82885ff", func := "loop.example/g03208/laws.FnExactCanTrace", spec := "fnExactCanTrace", unfollowed := true, recurses := true, plainKeys := false, apart := false, narrowed := true }
def FnExactCanTraceUptoSaid : Prop := fnExactCanTraceUptoRow.holds Try.pinned (OpenSpec.upto fnExactCanTraceSpec)

/-- 'laws.FnExactFirstStroke', WHERE WHAT IT READS IS OF BULK AT MOST 1048576: true; the input reads as it did. -/
def fnExactFirstStrokeUptoRow : OpenClaim := { program := "ytcdajmbnijmdfaa", sum := "9dd9d03a0b0a61522a4c28b0ea40f92e16d69e4605a940c8849f7e6cb82885ff", func := "loop.example/g03208/laws.FnExactFirstStroke", spec := "fnExactFirstStroke", unfollowed := true, recurses := true, plainKeys := false, apart := false, narrowed := true }
def FnExactFirstStrokeUptoSaid : Prop := fnExactFirstStrokeUptoRow.holds Try.pinned (OpenSpec.upto fnExactFirstStrokeSpec)

/-- 'laws.FnExactStrokesNeeded', WHERE WHAT IT READS IS OF BULK AT MOST 1048576: true; the input reads as it did. -/
def fnExactStrokesNeededUptoRow : OpenClaim := { program := "ytcdajmbnijmdfaa", sum := "9dd9d03a0b0a61522a4c28b0ea40f92e16d69e4605a940c8849f7e6cb82885ff", func := "loop.example/g03208/laws.FnExactStrokesNeeded", spec := "fnExactStrokesNeeded", plainKeys := false, apart := false, narrowed := true }
def FnExactStrokesNeededUptoSaid : Prop := fnExactStrokesNeededUptoRow.holds Try.pinned (OpenSpec.upto fnExactStrokesNeededSpec)

/-- 'laws.FnExactLineParts', WHERE WHAT IT READS IS OF BULK AT MOST 1048576: true; the input reads as it did. -/
def fnExactLinePartsUptoRow : OpenClaim := { program := "ytcdajmbnijmdfaa", sum := "9dd9d03a0b0a61522a4c28b0ea40f92e16d69e4605a940c8849f7e6cb82885ff", func := "loop.example/g03208/laws.FnExactLineParts", spec := "fnExactLineParts", plainKeys := false, apart := false, narrowed := true }
def FnExactLinePartsUptoSaid : Prop := fnExactLinePartsUptoRow.holds Try.pinned (OpenSpec.upto fnExactLinePartsSpec)

/-- 'laws.FnStrokes', WHERE WHAT IT READS IS OF BULK AT MOST 1048576: true; the input reads as it did. -/
def fnStrokesUptoRow : OpenClaim := { program := "ytcdajmbnijmdfaa", sum := "9dd9d03a0b0a61522a4c28b0ea40f92e16d69e4605a940c8849f7e6cb82885ff", func := "loop.example/g03208/laws.FnStrokes", spec := "fnStrokes", unfollowed := true, recurses := true, plainKeys := false, apart := false, narrowed := true }
def FnStrokesUptoSaid : Prop := fnStrokesUptoRow.holds Try.pinned (OpenSpec.upto fnStrokesSpec)

end Rows
end Go.Proofs.Ytcdajmbnijmdfaa

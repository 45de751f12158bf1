/-
  No cell of these rows narrows 'for every input' (looked for: loops, veiled, ifaces, maps, wideKeys, modest, calm, conditions, laid).
  DERIVED. THE GIVEN ROWS OF THIS SEAT. 5 by the template 'for every input the law returns true; each argument reads behind the call as it read before'; 0 by the template 'total and deterministic' (their statements: YtghnaclpjdhilaaTotals.lean).
  GIVEN WITH THE SEED: the statements are not yours to turn. If you find one false, say at which input.
  Laid BY PROGRAM, IN A SANDBOX (cutbox-rows.mjs): the forced cells as the released guide's own fill.sh prints them over the translation 5c8b6d3a4904e8e0… (all of the seat's roots in one cut). By AI agents, Wed Nov 11 2026. No macro, syntax, notation, axiom, sorry.
-/
import Derived.Test.YtghnaclpjdhilaaChecked
import GoSem.Claim
import GoSem.ClaimJoined
import GoSem.ClaimMapViews
import Derived.JoinedTies
import Derived.KernelRfl
namespace Go.Proofs.Ytghnaclpjdhilaa
/- THE CELL 'sum', in the pinned program and in every row, IS THE sha256 OF THE DUMP (.gsa) THAT YtghnaclpjdhilaaProg.lean LOADS. Nothing in Lean hashes anything: it is a label: what it is worth is what the hold of that sum in a sandbox is worth. -/
noncomputable def Try.pinned : Pinned := { name := "ytghnaclpjdhilaa", sum := "5c8b6d3a4904e8e035e8e9baddaea9fb10101025e824de8aae4fab30f73482aa", checked := Try.checked }
namespace Rows
def none {H : Type} : Left H := { results := [], args := [] }

/-- 'laws.FnExactLayersFor': WHATEVER THE INPUT: true; the input reads as it did. -/
def fnExactLayersForSpec : ChangeSpec := { name := "fnExactLayersFor", fn := fun _ => fun
  | [d1, d2] => { results := [.lit (.bool true)], args := [d1, d2] }
  | _ => none }
def fnExactLayersForRow : OpenClaim := { program := "ytghnaclpjdhilaa", sum := "5c8b6d3a4904e8e035e8e9baddaea9fb10101025e824de8aae4fab30f73482aa", func := "loop.example/g03208/laws.FnExactLayersFor", spec := "fnExactLayersFor", unfollowed := true, recurses := true, apart := false }
def FnExactLayersForSaid : Prop := fnExactLayersForRow.holds Try.pinned (OpenSpec.ofChange fnExactLayersForSpec)

/-- ITS FALSE NEIGHBOUR: 'it returns false'. Refute it at one input. -/
def fnExactLayersForWrong : ChangeSpec := { name := "fnExactLayersFor", fn := fun _ => fun
  | [d1, d2] => { results := [.lit (.bool false)], args := [d1, d2] }
  | _ => none }
def FnExactLayersForWrongFalsely : Prop := fnExactLayersForRow.holds Try.pinned (OpenSpec.ofChange fnExactLayersForWrong)

/-- 'laws.FnExactExtraOf': WHATEVER THE INPUT: true; the input reads as it did. -/
def fnExactExtraOfSpec : ChangeSpec := { name := "fnExactExtraOf", fn := fun _ => fun
  | [d1, d2, d3] => { results := [.lit (.bool true)], args := [d1, d2, d3] }
  | _ => none }
def fnExactExtraOfRow : OpenClaim := { program := "ytghnaclpjdhilaa", sum := "5c8b6d3a4904e8e035e8e9baddaea9fb10101025e824de8aae4fab30f73482aa", func := "loop.example/g03208/laws.FnExactExtraOf", spec := "fnExactExtraOf", unfollowed := true, recurses := true, apart := false }
def FnExactExtraOfSaid : Prop := fnExactExtraOfRow.holds Try.pinned (OpenSpec.ofChange fnExactExtraOfSpec)

/-- ITS FALSE NEIGHBOUR: 'it returns false'. Refute it at one input. -/
def fnExactExtraOfWrong : ChangeSpec := { name := "fnExactExtraOf", fn := fun _ => fun
  | [d1, d2, d3] => { results := [.lit (.bool false)], args := [d1, d2, d3] }
  | _ => none }
def FnExactExtraOfWrongFalsely : Prop := fnExactExtraOfRow.holds Try.pinned (OpenSpec.ofChange fnExactExtraOfWrong)

/-- 'laws.FnExactAfterLayers': WHATEVER THE INPUT: true; the input reads as it did. -/
def fnExactAfterLayersSpec : ChangeSpec := { name := "fnExactAfterLayers", fn := fun _ => fun
  | [d1, d2, d3] => { results := [.lit (.bool true)], args := [d1, d2, d3] }
  | _ => none }
def fnExactAfterLayersRow : OpenClaim := { program := "ytghnaclpjdhilaa", sum := "5c8b6d3a4904e8e035e8e9baddaea9fb10101025e824de8aae4fab30f73482aa", func := "loop.example/g03208/laws.FnExactAfterLayers", spec := "fnExactAfterLayers", unfollowed := true, recurses := true, apart := false }
def FnExactAfterLayersSaid : Prop := fnExactAfterLayersRow.holds Try.pinned (OpenSpec.ofChange fnExactAfterLayersSpec)

/-- ITS FALSE NEIGHBOUR: 'it returns false'. Refute it at one input. -/
def fnExactAfterLayersWrong : ChangeSpec := { name := "fnExactAfterLayers", fn := fun _ => fun
  | [d1, d2, d3] => { results := [.lit (.bool false)], args := [d1, d2, d3] }
  | _ => none }
def FnExactAfterLayersWrongFalsely : Prop := fnExactAfterLayersRow.holds Try.pinned (OpenSpec.ofChange fnExactAfterLayersWrong)

/-- 'laws.FnExactBestMarker': WHATEVER THE INPUT: true; the input reads as it did. -/
def fnExactBestMarkerSpec : ChangeSpec := { name := "fnExactBestMarker", fn := fun _ => fun
  | [d1, d2] => { results := [.lit (.bool true)], args := [d1, d2] }
  | _ => none }
def fnExactBestMarkerRow : OpenClaim := { program := "ytghnaclpjdhilaa", sum := "5c8b6d3a4904e8e035e8e9baddaea9fb10101025e824de8aae4fab30f73482aa", func := "loop.example/g03208/laws.FnExactBestMarker", spec := "fnExactBestMarker", unfollowed := true, recurses := true, apart := false }
def FnExactBestMarkerSaid : Prop := fnExactBestMarkerRow.holds Try.pinned (OpenSpec.ofChange fnExactBestMarkerSpec)

/-- ITS FALSE NEIGHBOUR: 'it returns false'. Refute it at one input. -/
def fnExactBestMarkerWrong : ChangeSpec := { name := "fnExactBestMarker", fn := fun _ => fun
  | [d1, d2] => { results := [.lit (.bool false)], args := [d1, d2] }
  | _ => none }
def FnExactBestMarkerWrongFalsely : Prop := fnExactBestMarkerRow.holds Try.pinned (OpenSpec.ofChange fnExactBestMarkerWrong)

/-- 'laws.FnPlies': WHATEVER THE INPUT: true; the input reads as it did. -/
def fnPliesSpec : ChangeSpec := { name := "fnPlies", fn := fun _ => fun
  | [d] => { results := [.lit (.bool true)], args := [d] }
  | _ => none }
def fnPliesRow : OpenClaim := { program := "ytghnaclpjdhilaa", sum := "5c8b6d3a4904e8e035e8e9baddaea9fb10101025e824de8aae4fab30f73482aa", func := "loop.example/g03208/laws.FnPlies", spec := "fnPlies", unfollowed := true, recurses := true, apart := false }
def FnPliesSaid : Prop := fnPliesRow.holds Try.pinned (OpenSpec.ofChange fnPliesSpec)

/-- ITS FALSE NEIGHBOUR: 'it returns false'. Refute it at one input. -/
def fnPliesWrong : ChangeSpec := { name := "fnPlies", fn := fun _ => fun
  | [d] => { results := [.lit (.bool false)], args := [d] }
  | _ => none }
def FnPliesWrongFalsely : Prop := fnPliesRow.holds Try.pinned (OpenSpec.ofChange fnPliesWrong)

/- THE SECOND FORM. 'bulk': how many values and letters a reading holds, each counted each time it is reached (what is shared counts as often as it is met; a slice's spare places count too). A statement '..UptoSaid' is the law's where the arguments, and the package variables that the reading takes, are together of bulk at most 1048576: NARROWER than '..Said'. Prove '..Said' where nothing that the law and all that it calls make is longer than what came in: it says more and counts as full. Else prove '..UptoSaid'. A law counts once. -/
mutual
def uptoBulk {H : Type} : DataW H → Nat
  | .lit (.string bytes) => bytes.length + 1
  | .lit _ => 1
  | .nil => 1
  | .ptr d => uptoBulk d + 1
  | .slice elems spare => uptoBulkAll elems + uptoBulkAll spare + 1
  | .agg parts => uptoBulkAll parts + 1
  | .iface _ d => uptoBulk d + 1
  | .map entries => uptoBulkEntries entries + 1
  | .held _ => 1
def uptoBulkAll {H : Type} : List (DataW H) → Nat
  | [] => 0
  | d :: r => uptoBulk d + uptoBulkAll r
def uptoBulkEntries {H : Type} : List (Lit × DataW H) → Nat
  | [] => 0
  | x :: r => uptoBulkEntry x + uptoBulkEntries r
def uptoBulkEntry {H : Type} : Lit × DataW H → Nat
  | (.string bytes, d) => bytes.length + uptoBulk d + 1
  | (_, d) => uptoBulk d + 1
 end
def uptoSmall : (H : Type) → List (DataW H) → Bool := fun _ ds => decide (uptoBulkAll ds ≤ 1048576)
def OpenSpec.upto (s : _root_.Go.ChangeSpec) : _root_.Go.OpenSpec := { _root_.Go.OpenSpec.ofChange s with cond := some uptoSmall }

/-- 'laws.FnExactLayersFor', WHERE WHAT IT READS IS OF BULK AT MOST 1048576: true; the input reads as it did. -/
def fnExactLayersForUptoRow : OpenClaim := { program := "ytghnaclpjdhilaa", sum := "5c8b6d3a4904e8e035e8e9baddaea9fb10101025e824de8aae4fab30f73482aa", func := "loop.example/g03208/laws.FnExactLayersFor", spec := "fnExactLayersFor", unfollowed := true, recurses := true, apart := false, narrowed := true }
def FnExactLayersForUptoSaid : Prop := fnExactLayersForUptoRow.holds Try.pinned (OpenSpec.upto fnExactLayersForSpec)

/-- 'laws.FnExactExtraOf', WHERE WHAT IT READS IS OF BULK AT MOST 1048576: true; the input reads as it did. -/
def fnExactExtraOfUptoRow : OpenClaim := { program := "ytghnaclpjdhilaa", sum := "5c8b6d3a4904e8e035e8e9baddaea9fb10101025e824de8aae4fab30f73482aa", func := "loop.example/g03208/laws.FnExactExtraOf", spec := "fnExactExtraOf", unfollowed := true, recurses := true, apart := false, narrowed := true }
def FnExactExtraOfUptoSaid : Prop := fnExactExtraOfUptoRow.holds Try.pinned (OpenSpec.upto fnExactExtraOfSpec)

/-- 'laws.FnExactAfterLayers', WHERE WHAT IT READS IS OF BULK AT MOST 1048576: true; the input reads as it did. -/
def fnExactAfterLayersUptoRow : OpenClaim := { program := "ytghnaclpjdhilaa", sum := "5c8b6d3a4904e8e035e8e9baddaea9fb10101025e824de8aae4fab30f73482aa", func := "loop.example/g03208/laws.FnExactAfterLayers", spec := "fnExactAfterLayers", unfollowed := true, recurses := true, apart := false, narrowed := true }
def FnExactAfterLayersUptoSaid : Prop := fnExactAfterLayersUptoRow.holds Try.pinned (OpenSpec.upto fnExactAfterLayersSpec)

/-- 'laws.FnExactBestMarker', WHERE WHAT IT READS IS OF BULK AT MOST 1048576: true; the input reads as it did. -/
def fnExactBestMarkerUptoRow : OpenClaim := { program := "ytghnaclpjdhilaa", sum := "5c8b6d3a4904e8e035e8e9baddaea9fb10101025e824de8aae4fab30f73482aa", func := "loop.example/g03208/laws.FnExactBestMarker", spec := "fnExactBestMarker", unfollowed := true, recurses := true, apart := false, narrowed := true }
def FnExactBestMarkerUptoSaid : Prop := fnExactBestMarkerUptoRow.holds Try.pinned (OpenSpec.upto fnExactBestMarkerSpec)

/-- 'laws.FnPlies', WHERE WHAT IT READS IS OF BULK AT MOST 1048576: true; the input reads as it did. -/
def fnPliesUptoRow : OpenClaim := { program := "ytghnaclpjdhilaa", sum := "5c8b6d3a4904e8e035e8e9baddaea9fb10101025e824de8aae4fab30f73482aa", func := "loop.example/g03208/laws.FnPlies", spec := "fnPlies", unfollowed := true, recurses := true, apart := false, narrowed := true }
def FnPliesUptoSaid : Prop := fnPliesUptoRow.holds Try.pinned (OpenSpec.upto fnPliesSpec)

end Rows
end Go.Proofs.Ytghnaclpjdhilaa

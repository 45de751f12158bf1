/-
  No cell of these rows narrows 'for every input' (looked for: loops, veiled, ifaces, maps, wideKeys, modest, calm, conditions, laid).
  DERIVED. THE GIVEN ROWS OF THIS SEAT. 5 by the template 'for every input the law returns true; each argument reads behind the call as it read before'; 0 by the template 'total and deterministic' (their statements: YtjjdahnjindgaaaTotals.lean).
  GIVEN WITH THE SEED: the statements are not yours to turn. If you find one false, say at which input.
  Laid BY PROGRAM, IN A SANDBOX (cutbox-rows.mjs): the forced cells as the released guide's own fill.sh prints them over the translation 1c04dd10db1fa7a4… (all of the seat's roots in one cut). By AI agents, Wed Nov 11 2026. No macro, syntax, notation, axiom, sorry.
-/
import Derived.Test.YtjjdahnjindgaaaChecked
import GoSem.Claim
import GoSem.ClaimJoined
import GoSem.ClaimMapViews
import Derived.JoinedTies
import Derived.KernelRfl
namespace Go.Proofs.Ytjjdahnjindgaaa
/- THE CELL 'sum', in the pinned program and in every row, IS THE sha256 OF THE DUMP (.gsa) THAT YtjjdahnjindgaaaProg.lean LOADS. Nothing in Lean hashes anything: it is a label: what it is worth is what the hold of that sum in a sandbox is worth. -/
noncomputable def Try.pinned : Pinned := { name := "ytjjdahnjindgaaa", sum := "1c04dd10db1fa7a43cb0307a31cdeb603d1dbdf80c984b9616d3e9b36ded20be", checked := Try.checked }
namespace Rows
def none {H : Type} : Left H := { results := [], args := [] }

/-- 'laws.FnExactRulerOk': WHATEVER THE INPUT: true; the input reads as it did. -/
def fnExactRulerOkSpec : ChangeSpec := { name := "fnExactRulerOk", fn := fun _ => fun
  | [d] => { results := [.lit (.bool true)], args := [d] }
  | _ => none }
def fnExactRulerOkRow : OpenClaim := { program := "ytjjdahnjindgaaa", sum := "1c04dd10db1fa7a43cb0307a31cdeb603d1dbdf80c984b9616d3e9b36ded20be", func := "loop.example/g03208/laws.FnExactRulerOk", spec := "fnExactRulerOk", unfollowed := true, recurses := true, apart := false }
def FnExactRulerOkSaid : Prop := fnExactRulerOkRow.holds Try.pinned (OpenSpec.ofChange fnExactRulerOkSpec)

/-- ITS FALSE NEIGHBOUR: 'it returns false'. Refute it at one input. -/
def fnExactRulerOkWrong : ChangeSpec := { name := "fnExactRulerOk", fn := fun _ => fun
  | [d] => { results := [.lit (.bool false)], args := [d] }
  | _ => none }
def FnExactRulerOkWrongFalsely : Prop := fnExactRulerOkRow.holds Try.pinned (OpenSpec.ofChange fnExactRulerOkWrong)

/-- 'laws.FnExactGreedyLaying': WHATEVER THE INPUT: true; the input reads as it did. -/
def fnExactGreedyLayingSpec : ChangeSpec := { name := "fnExactGreedyLaying", fn := fun _ => fun
  | [d] => { results := [.lit (.bool true)], args := [d] }
  | _ => none }
def fnExactGreedyLayingRow : OpenClaim := { program := "ytjjdahnjindgaaa", sum := "1c04dd10db1fa7a43cb0307a31cdeb603d1dbdf80c984b9616d3e9b36ded20be", func := "loop.example/g03208/laws.FnExactGreedyLaying", spec := "fnExactGreedyLaying", unfollowed := true, recurses := true, apart := false }
def FnExactGreedyLayingSaid : Prop := fnExactGreedyLayingRow.holds Try.pinned (OpenSpec.ofChange fnExactGreedyLayingSpec)

/-- ITS FALSE NEIGHBOUR: 'it returns false'. Refute it at one input. -/
def fnExactGreedyLayingWrong : ChangeSpec := { name := "fnExactGreedyLaying", fn := fun _ => fun
  | [d] => { results := [.lit (.bool false)], args := [d] }
  | _ => none }
def FnExactGreedyLayingWrongFalsely : Prop := fnExactGreedyLayingRow.holds Try.pinned (OpenSpec.ofChange fnExactGreedyLayingWrong)

/-- 'laws.FnExactBestLaying': WHATEVER THE INPUT: true; the input reads as it did. -/
def fnExactBestLayingSpec : ChangeSpec := { name := "fnExactBestLaying", fn := fun _ => fun
  | [d] => { results := [.lit (.bool true)], args := [d] }
  | _ => none }
def fnExactBestLayingRow : OpenClaim := { program := "ytjjdahnjindgaaa", sum := "1c04dd10db1fa7a43cb0307a31cdeb603d1dbdf80c984b9616d3e9b36ded20be", func := "loop.example/g03208/laws.FnExactBestLaying", spec := "fnExactBestLaying", unfollowed := true, recurses := true, apart := false }
def FnExactBestLayingSaid : Prop := fnExactBestLayingRow.holds Try.pinned (OpenSpec.ofChange fnExactBestLayingSpec)

/-- ITS FALSE NEIGHBOUR: 'it returns false'. Refute it at one input. -/
def fnExactBestLayingWrong : ChangeSpec := { name := "fnExactBestLaying", fn := fun _ => fun
  | [d] => { results := [.lit (.bool false)], args := [d] }
  | _ => none }
def FnExactBestLayingWrongFalsely : Prop := fnExactBestLayingRow.holds Try.pinned (OpenSpec.ofChange fnExactBestLayingWrong)

/-- 'laws.FnExactLeastRoom': WHATEVER THE INPUT: true; the input reads as it did. -/
def fnExactLeastRoomSpec : ChangeSpec := { name := "fnExactLeastRoom", fn := fun _ => fun
  | [d] => { results := [.lit (.bool true)], args := [d] }
  | _ => none }
def fnExactLeastRoomRow : OpenClaim := { program := "ytjjdahnjindgaaa", sum := "1c04dd10db1fa7a43cb0307a31cdeb603d1dbdf80c984b9616d3e9b36ded20be", func := "loop.example/g03208/laws.FnExactLeastRoom", spec := "fnExactLeastRoom", unfollowed := true, recurses := true, apart := false }
def FnExactLeastRoomSaid : Prop := fnExactLeastRoomRow.holds Try.pinned (OpenSpec.ofChange fnExactLeastRoomSpec)

/-- ITS FALSE NEIGHBOUR: 'it returns false'. Refute it at one input. -/
def fnExactLeastRoomWrong : ChangeSpec := { name := "fnExactLeastRoom", fn := fun _ => fun
  | [d] => { results := [.lit (.bool false)], args := [d] }
  | _ => none }
def FnExactLeastRoomWrongFalsely : Prop := fnExactLeastRoomRow.holds Try.pinned (OpenSpec.ofChange fnExactLeastRoomWrong)

/-- 'laws.FnExactReachOf': WHATEVER THE INPUT: true; the input reads as it did. -/
def fnExactReachOfSpec : ChangeSpec := { name := "fnExactReachOf", fn := fun _ => fun
  | [d] => { results := [.lit (.bool true)], args := [d] }
  | _ => none }
def fnExactReachOfRow : OpenClaim := { program := "ytjjdahnjindgaaa", sum := "1c04dd10db1fa7a43cb0307a31cdeb603d1dbdf80c984b9616d3e9b36ded20be", func := "loop.example/g03208/laws.FnExactReachOf", spec := "fnExactReachOf", unfollowed := true, recurses := true, apart := false }
def FnExactReachOfSaid : Prop := fnExactReachOfRow.holds Try.pinned (OpenSpec.ofChange fnExactReachOfSpec)

/-- ITS FALSE NEIGHBOUR: 'it returns false'. Refute it at one input. -/
def fnExactReachOfWrong : ChangeSpec := { name := "fnExactReachOf", fn := fun _ => fun
  | [d] => { results := [.lit (.bool false)], args := [d] }
  | _ => none }
def FnExactReachOfWrongFalsely : Prop := fnExactReachOfRow.holds Try.pinned (OpenSpec.ofChange fnExactReachOfWrong)

/- THE SECOND FORM. 'bulk': how many values and letters a reading holds, each counted each time it is reached (what is shared counts as often as it is met; a slice's spare places count too). A statement '..UptoSaid' is the law's where the arguments, and the package variables that the reading takes, are together of bulk at most 1048576: NARROWER than '..Said'. Prove '..Said' where nothing that the law and all that it calls make is longer than what came in: it says more and counts as full. Else prove '..UptoSaid'. A law counts once. -/
mutual
def uptoBulk {H : Type} : DataW H → Nat
  | .lit (.string bytes) => bytes.length + 1
  | .lit _ => 1
  | .nil => 1
  | .ptr d => uptoBulk d + 1
  | .slice elems spare => uptoBulkAll elems + uptoBulkAll spare + 1
  | .agg parts => uptoBulkAll parts + 1
  | .iface _ d => uptoBulk d + 1
  | .map entries => uptoBulkEntries entries + 1
  | .held _ => 1
def uptoBulkAll {H : Type} : List (DataW H) → Nat
  | [] => 0
  | d :: r => uptoBulk d + uptoBulkAll r
def uptoBulkEntries {H : Type} : List (Lit × DataW H) → Nat
  | [] => 0
  | x :: r => uptoBulkEntry x + uptoBulkEntries r
def uptoBulkEntry {H : Type} : Lit × DataW H → Nat
  | (.string bytes, d) => bytes.length + uptoBulk d + 1
  | (_, d) => uptoBulk d + 1
 end
def uptoSmall : (H : Type) → List (DataW H) → Bool := fun _ ds => decide (uptoBulkAll ds ≤ 1048576)
def OpenSpec.upto (s : _root_.Go.ChangeSpec) : _root_.Go.OpenSpec := { _root_.Go.OpenSpec.ofChange s with cond := some uptoSmall }

/-- 'laws.FnExactRulerOk', WHERE WHAT IT READS IS OF BULK AT MOST 1048576: true; the input reads as it did. -/
def fnExactRulerOkUptoRow : OpenClaim := { program := "ytjjdahnjindgaaa", sum := "1c04dd10db1fa7a43cb0307a31cdeb603d1dbdf80c984b9616d3e9b36ded20be", func := "loop.example/g03208/laws.FnExactRulerOk", spec := "fnExactRulerOk", unfollowed := true, recurses := true, apart := false, narrowed := true }
def FnExactRulerOkUptoSaid : Prop := fnExactRulerOkUptoRow.holds Try.pinned (OpenSpec.upto fnExactRulerOkSpec)

/-- 'laws.FnExactGreedyLaying', WHERE WHAT IT READS IS OF BULK AT MOST 1048576: true; the input reads as it did. -/
def fnExactGreedyLayingUptoRow : OpenClaim := { program := "ytjjdahnjindgaaa", sum := "1c04dd10db1fa7a43cb0307a31cdeb603d1dbdf80c984b9616d3e9b36ded20be", func := "loop.example/g03208/laws.FnExactGreedyLaying", spec := "fnExactGreedyLaying", unfollowed := true, recurses := true, apart := false, narrowed := true }
def FnExactGreedyLayingUptoSaid : Prop := fnExactGreedyLayingUptoRow.holds Try.pinned (OpenSpec.upto fnExactGreedyLayingSpec)

/-- 'laws.FnExactBestLaying', WHERE WHAT IT READS IS OF BULK AT MOST 1048576: true; the input reads as it did. -/
def fnExactBestLayingUptoRow : OpenClaim := { program := "ytjjdahnjindgaaa", sum := "1c04dd10db1fa7a43cb0307a31cdeb603d1dbdf80c984b9616d3e9b36ded20be", func := "loop.example/g03208/laws.FnExactBestLaying", spec := "fnExactBestLaying", unfollowed := true, recurses := true, apart := false, narrowed := true }
def FnExactBestLayingUptoSaid : Prop := fnExactBestLayingUptoRow.holds Try.pinned (OpenSpec.upto fnExactBestLayingSpec)

/-- 'laws.FnExactLeastRoom', WHERE WHAT IT READS IS OF BULK AT MOST 1048576: true; the input reads as it did. -/
def fnExactLeastRoomUptoRow : OpenClaim := { program := "ytjjdahnjindgaaa", sum := "1c04dd10db1fa7a43cb0307a31cdeb603d1dbdf80c984b9616d3e9b36ded20be", func := "loop.example/g03208/laws.FnExactLeastRoom", spec := "fnExactLeastRoom", unfollowed := true, recurses := true, apart := false, narrowed := true }
def FnExactLeastRoomUptoSaid : Prop := fnExactLeastRoomUptoRow.holds Try.pinned (OpenSpec.upto fnExactLeastRoomSpec)

/-- 'laws.FnExactReachOf', WHERE WHAT IT READS IS OF BULK AT MOST 1048576: true; the input reads as it did. -/
def fnExactReachOfUptoRow : OpenClaim := { program := "ytjjdahnjindgaaa", sum := "1c04dd10db1fa7a43cb0307a31cdeb603d1dbdf80c984b9616d3e9b36ded20be", func := "loop.example/g03208/laws.FnExactReachOf", spec := "fnExactReachOf", unfollowed := true, recurses := true, apart := false, narrowed := true }
def FnExactReachOfUptoSaid : Prop := fnExactReachOfUptoRow.holds Try.pinned (OpenSpec.upto fnExactReachOfSpec)

end Rows
end Go.Proofs.Ytjjdahnjindgaaa

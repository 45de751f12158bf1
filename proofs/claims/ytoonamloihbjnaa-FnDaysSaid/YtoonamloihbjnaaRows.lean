/-
  No cell of these rows narrows 'for every input' (looked for: loops, veiled, ifaces, maps, wideKeys, modest, calm, conditions, laid).
  DERIVED. THE GIVEN ROWS OF THIS SEAT. 11 by the template 'for every input the law returns true; each argument reads behind the call as it read before'; 0 by the template 'total and deterministic' (their statements: YtoonamloihbjnaaTotals.lean).
  GIVEN WITH THE SEED: the statements are not yours to turn. If you find one false, say at which input.
  Laid BY PROGRAM, IN A SANDBOX (cutbox-rows.mjs): the forced cells as the released guide's own fill.sh prints them over the translation 072ee3a040a53a29… (all of the seat's roots in one cut). By AI agents, Wed Nov 11 2026. No macro, syntax, notation, axiom, sorry.
-/
import Derived.Test.YtoonamloihbjnaaChecked
import GoSem.Claim
import GoSem.ClaimJoined
import GoSem.ClaimMapViews
import Derived.JoinedTies
import Derived.KernelRfl
namespace Go.Proofs.Ytoonamloihbjnaa
/- THE CELL 'sum', in the pinned program and in every row, IS THE sha256 OF THE DUMP (.gsa) THAT YtoonamloihbjnaaProg.lean LOADS. Nothing in Lean hashes anything: it is a label: what it is worth is what the hold of that sum in a sandbox is worth. -/
noncomputable def Try.pinned : Pinned := { name := "ytoonamloihbjnaa", sum := "072ee3a040a53a29999dd07463bef79c9edda857b356c72f1f0a0822091e8518", checked := Try.checked }
namespace Rows
def none {H : Type} : Left H := { results := [], args := [] }

/-- 'laws.FnExactWorksOk': WHATEVER THE INPUT: true; the input reads as it did. -/
def fnExactWorksOkSpec : ChangeSpec := { name := "fnExactWorksOk", fn := fun _ => fun
  | [d] => { results := [.lit (.bool true)], args := [d] }
  | _ => none }
def fnExactWorksOkRow : OpenClaim := { program := "ytoonamloihbjnaa", sum := "072ee3a040a53a29999dd07463bef79c9edda857b356c72f1f0a0822091e8518", func := "loop.example/g03208/laws.FnExactWorksOk", spec := "fnExactWorksOk", unfollowed := true, recurses := true, apart := false }
def FnExactWorksOkSaid : Prop := fnExactWorksOkRow.holds Try.pinned (OpenSpec.ofChange fnExactWorksOkSpec)

/-- ITS FALSE NEIGHBOUR: 'it returns false'. Refute it at one input. -/
def fnExactWorksOkWrong : ChangeSpec := { name := "fnExactWorksOk", fn := fun _ => fun
  | [d] => { results := [.lit (.bool false)], args := [d] }
  | _ => none }
def FnExactWorksOkWrongFalsely : Prop := fnExactWorksOkRow.holds Try.pinned (OpenSpec.ofChange fnExactWorksOkWrong)

/-- 'laws.FnExactDueOrder': WHATEVER THE INPUT: true; the input reads as it did. -/
def fnExactDueOrderSpec : ChangeSpec := { name := "fnExactDueOrder", fn := fun _ => fun
  | [d] => { results := [.lit (.bool true)], args := [d] }
  | _ => none }
def fnExactDueOrderRow : OpenClaim := { program := "ytoonamloihbjnaa", sum := "072ee3a040a53a29999dd07463bef79c9edda857b356c72f1f0a0822091e8518", func := "loop.example/g03208/laws.FnExactDueOrder", spec := "fnExactDueOrder", unfollowed := true, recurses := true, apart := false }
def FnExactDueOrderSaid : Prop := fnExactDueOrderRow.holds Try.pinned (OpenSpec.ofChange fnExactDueOrderSpec)

/-- ITS FALSE NEIGHBOUR: 'it returns false'. Refute it at one input. -/
def fnExactDueOrderWrong : ChangeSpec := { name := "fnExactDueOrder", fn := fun _ => fun
  | [d] => { results := [.lit (.bool false)], args := [d] }
  | _ => none }
def FnExactDueOrderWrongFalsely : Prop := fnExactDueOrderRow.holds Try.pinned (OpenSpec.ofChange fnExactDueOrderWrong)

/-- 'laws.FnExactShortOrder': WHATEVER THE INPUT: true; the input reads as it did. -/
def fnExactShortOrderSpec : ChangeSpec := { name := "fnExactShortOrder", fn := fun _ => fun
  | [d] => { results := [.lit (.bool true)], args := [d] }
  | _ => none }
def fnExactShortOrderRow : OpenClaim := { program := "ytoonamloihbjnaa", sum := "072ee3a040a53a29999dd07463bef79c9edda857b356c72f1f0a0822091e8518", func := "loop.example/g03208/laws.FnExactShortOrder", spec := "fnExactShortOrder", unfollowed := true, recurses := true, apart := false }
def FnExactShortOrderSaid : Prop := fnExactShortOrderRow.holds Try.pinned (OpenSpec.ofChange fnExactShortOrderSpec)

/-- ITS FALSE NEIGHBOUR: 'it returns false'. Refute it at one input. -/
def fnExactShortOrderWrong : ChangeSpec := { name := "fnExactShortOrder", fn := fun _ => fun
  | [d] => { results := [.lit (.bool false)], args := [d] }
  | _ => none }
def FnExactShortOrderWrongFalsely : Prop := fnExactShortOrderRow.holds Try.pinned (OpenSpec.ofChange fnExactShortOrderWrong)

/-- 'laws.FnExactOnTimeOrder': WHATEVER THE INPUT: true; the input reads as it did. -/
def fnExactOnTimeOrderSpec : ChangeSpec := { name := "fnExactOnTimeOrder", fn := fun _ => fun
  | [d] => { results := [.lit (.bool true)], args := [d] }
  | _ => none }
def fnExactOnTimeOrderRow : OpenClaim := { program := "ytoonamloihbjnaa", sum := "072ee3a040a53a29999dd07463bef79c9edda857b356c72f1f0a0822091e8518", func := "loop.example/g03208/laws.FnExactOnTimeOrder", spec := "fnExactOnTimeOrder", unfollowed := true, recurses := true, apart := false }
def FnExactOnTimeOrderSaid : Prop := fnExactOnTimeOrderRow.holds Try.pinned (OpenSpec.ofChange fnExactOnTimeOrderSpec)

/-- ITS FALSE NEIGHBOUR: 'it returns false'. Refute it at one input. -/
def fnExactOnTimeOrderWrong : ChangeSpec := { name := "fnExactOnTimeOrder", fn := fun _ => fun
  | [d] => { results := [.lit (.bool false)], args := [d] }
  | _ => none }
def FnExactOnTimeOrderWrongFalsely : Prop := fnExactOnTimeOrderRow.holds Try.pinned (OpenSpec.ofChange fnExactOnTimeOrderWrong)

/-- 'laws.FnExactWorkOrderOk': WHATEVER THE INPUT: true; the input reads as it did. -/
def fnExactWorkOrderOkSpec : ChangeSpec := { name := "fnExactWorkOrderOk", fn := fun _ => fun
  | [d1, d2] => { results := [.lit (.bool true)], args := [d1, d2] }
  | _ => none }
def fnExactWorkOrderOkRow : OpenClaim := { program := "ytoonamloihbjnaa", sum := "072ee3a040a53a29999dd07463bef79c9edda857b356c72f1f0a0822091e8518", func := "loop.example/g03208/laws.FnExactWorkOrderOk", spec := "fnExactWorkOrderOk", unfollowed := true, recurses := true, apart := false }
def FnExactWorkOrderOkSaid : Prop := fnExactWorkOrderOkRow.holds Try.pinned (OpenSpec.ofChange fnExactWorkOrderOkSpec)

/-- ITS FALSE NEIGHBOUR: 'it returns false'. Refute it at one input. -/
def fnExactWorkOrderOkWrong : ChangeSpec := { name := "fnExactWorkOrderOk", fn := fun _ => fun
  | [d1, d2] => { results := [.lit (.bool false)], args := [d1, d2] }
  | _ => none }
def FnExactWorkOrderOkWrongFalsely : Prop := fnExactWorkOrderOkRow.holds Try.pinned (OpenSpec.ofChange fnExactWorkOrderOkWrong)

/-- 'laws.FnExactLatestBy': WHATEVER THE INPUT: true; the input reads as it did. -/
def fnExactLatestBySpec : ChangeSpec := { name := "fnExactLatestBy", fn := fun _ => fun
  | [d1, d2] => { results := [.lit (.bool true)], args := [d1, d2] }
  | _ => none }
def fnExactLatestByRow : OpenClaim := { program := "ytoonamloihbjnaa", sum := "072ee3a040a53a29999dd07463bef79c9edda857b356c72f1f0a0822091e8518", func := "loop.example/g03208/laws.FnExactLatestBy", spec := "fnExactLatestBy", unfollowed := true, recurses := true, apart := false }
def FnExactLatestBySaid : Prop := fnExactLatestByRow.holds Try.pinned (OpenSpec.ofChange fnExactLatestBySpec)

/-- ITS FALSE NEIGHBOUR: 'it returns false'. Refute it at one input. -/
def fnExactLatestByWrong : ChangeSpec := { name := "fnExactLatestBy", fn := fun _ => fun
  | [d1, d2] => { results := [.lit (.bool false)], args := [d1, d2] }
  | _ => none }
def FnExactLatestByWrongFalsely : Prop := fnExactLatestByRow.holds Try.pinned (OpenSpec.ofChange fnExactLatestByWrong)

/-- 'laws.FnExactEndsAt': WHATEVER THE INPUT: true; the input reads as it did. -/
def fnExactEndsAtSpec : ChangeSpec := { name := "fnExactEndsAt", fn := fun _ => fun
  | [d1, d2] => { results := [.lit (.bool true)], args := [d1, d2] }
  | _ => none }
def fnExactEndsAtRow : OpenClaim := { program := "ytoonamloihbjnaa", sum := "072ee3a040a53a29999dd07463bef79c9edda857b356c72f1f0a0822091e8518", func := "loop.example/g03208/laws.FnExactEndsAt", spec := "fnExactEndsAt", unfollowed := true, recurses := true, apart := false }
def FnExactEndsAtSaid : Prop := fnExactEndsAtRow.holds Try.pinned (OpenSpec.ofChange fnExactEndsAtSpec)

/-- ITS FALSE NEIGHBOUR: 'it returns false'. Refute it at one input. -/
def fnExactEndsAtWrong : ChangeSpec := { name := "fnExactEndsAt", fn := fun _ => fun
  | [d1, d2] => { results := [.lit (.bool false)], args := [d1, d2] }
  | _ => none }
def FnExactEndsAtWrongFalsely : Prop := fnExactEndsAtRow.holds Try.pinned (OpenSpec.ofChange fnExactEndsAtWrong)

/-- 'laws.FnExactCountLate': WHATEVER THE INPUT: true; the input reads as it did. -/
def fnExactCountLateSpec : ChangeSpec := { name := "fnExactCountLate", fn := fun _ => fun
  | [d1, d2] => { results := [.lit (.bool true)], args := [d1, d2] }
  | _ => none }
def fnExactCountLateRow : OpenClaim := { program := "ytoonamloihbjnaa", sum := "072ee3a040a53a29999dd07463bef79c9edda857b356c72f1f0a0822091e8518", func := "loop.example/g03208/laws.FnExactCountLate", spec := "fnExactCountLate", unfollowed := true, recurses := true, apart := false }
def FnExactCountLateSaid : Prop := fnExactCountLateRow.holds Try.pinned (OpenSpec.ofChange fnExactCountLateSpec)

/-- ITS FALSE NEIGHBOUR: 'it returns false'. Refute it at one input. -/
def fnExactCountLateWrong : ChangeSpec := { name := "fnExactCountLate", fn := fun _ => fun
  | [d1, d2] => { results := [.lit (.bool false)], args := [d1, d2] }
  | _ => none }
def FnExactCountLateWrongFalsely : Prop := fnExactCountLateRow.holds Try.pinned (OpenSpec.ofChange fnExactCountLateWrong)

/-- 'laws.FnExactSlackOf': WHATEVER THE INPUT: true; the input reads as it did. -/
def fnExactSlackOfSpec : ChangeSpec := { name := "fnExactSlackOf", fn := fun _ => fun
  | [d] => { results := [.lit (.bool true)], args := [d] }
  | _ => none }
def fnExactSlackOfRow : OpenClaim := { program := "ytoonamloihbjnaa", sum := "072ee3a040a53a29999dd07463bef79c9edda857b356c72f1f0a0822091e8518", func := "loop.example/g03208/laws.FnExactSlackOf", spec := "fnExactSlackOf", unfollowed := true, recurses := true, apart := false }
def FnExactSlackOfSaid : Prop := fnExactSlackOfRow.holds Try.pinned (OpenSpec.ofChange fnExactSlackOfSpec)

/-- ITS FALSE NEIGHBOUR: 'it returns false'. Refute it at one input. -/
def fnExactSlackOfWrong : ChangeSpec := { name := "fnExactSlackOf", fn := fun _ => fun
  | [d] => { results := [.lit (.bool false)], args := [d] }
  | _ => none }
def FnExactSlackOfWrongFalsely : Prop := fnExactSlackOfRow.holds Try.pinned (OpenSpec.ofChange fnExactSlackOfWrong)

/-- 'laws.FnExactFewestLate': WHATEVER THE INPUT: true; the input reads as it did. -/
def fnExactFewestLateSpec : ChangeSpec := { name := "fnExactFewestLate", fn := fun _ => fun
  | [d] => { results := [.lit (.bool true)], args := [d] }
  | _ => none }
def fnExactFewestLateRow : OpenClaim := { program := "ytoonamloihbjnaa", sum := "072ee3a040a53a29999dd07463bef79c9edda857b356c72f1f0a0822091e8518", func := "loop.example/g03208/laws.FnExactFewestLate", spec := "fnExactFewestLate", unfollowed := true, recurses := true, apart := false }
def FnExactFewestLateSaid : Prop := fnExactFewestLateRow.holds Try.pinned (OpenSpec.ofChange fnExactFewestLateSpec)

/-- ITS FALSE NEIGHBOUR: 'it returns false'. Refute it at one input. -/
def fnExactFewestLateWrong : ChangeSpec := { name := "fnExactFewestLate", fn := fun _ => fun
  | [d] => { results := [.lit (.bool false)], args := [d] }
  | _ => none }
def FnExactFewestLateWrongFalsely : Prop := fnExactFewestLateRow.holds Try.pinned (OpenSpec.ofChange fnExactFewestLateWrong)

/-- 'laws.FnDays': WHATEVER THE INPUT: true; the input reads as it did. -/
def fnDaysSpec : ChangeSpec := { name := "fnDays", fn := fun _ => fun
  | [d] => { results := [.lit (.bool true)], args := [d] }
  | _ => none }
def fnDaysRow : OpenClaim := { program := "ytoonamloihbjnaa", sum := "072ee3a040a53a29999dd07463bef79c9edda857b356c72f1f0a0822091e8518", func := "loop.example/g03208/laws.FnDays", spec := "fnDays", unfollowed := true, recurses := true, apart := false }
def FnDaysSaid : Prop := fnDaysRow.holds Try.pinned (OpenSpec.ofChange fnDaysSpec)

/-- ITS FALSE NEIGHBOUR: 'it returns false'. Refute it at one input. -/
def fnDaysWrong : ChangeSpec := { name := "fnDays", fn := fun _ => fun
  | [d] => { results := [.lit (.bool false)], args := [d] }
  | _ => none }
def FnDaysWrongFalsely : Prop := fnDaysRow.holds Try.pinned (OpenSpec.ofChange fnDaysWrong)

/- THE SECOND FORM. 'bulk': how many values and letters a reading holds, each counted each time it is reached (what is shared counts as often as it is met; a slice's spare places count too). A statement '..UptoSaid' is the law's where the arguments, and the package variables that the reading takes, are together of bulk at most 1048576: NARROWER than '..Said'. Prove '..Said' where nothing that the law and all that it calls make is longer than what came in: it says more and counts as full. Else prove '..UptoSaid'. A law counts once. -/
mutual
def uptoBulk {H : Type} : DataW H → Nat
  | .lit (.string bytes) => bytes.length + 1
  | .lit _ => 1
  | .nil => 1
  | .ptr d => uptoBulk d + 1
  | .slice elems spare => uptoBulkAll elems + uptoBulkAll spare + 1
  | .agg parts => uptoBulkAll parts + 1
  | .iface _ d => uptoBulk d + 1
  | .map entries => uptoBulkEntries entries + 1
  | .held _ => 1
def uptoBulkAll {H : Type} : List (DataW H) → Nat
  | [] => 0
  | d :: r => uptoBulk d + uptoBulkAll r
def uptoBulkEntries {H : Type} : List (Lit × DataW H) → Nat
  | [] => 0
  | x :: r => uptoBulkEntry x + uptoBulkEntries r
def uptoBulkEntry {H : Type} : Lit × DataW H → Nat
  | (.string bytes, d) => bytes.length + uptoBulk d + 1
  | (_, d) => uptoBulk d + 1
 end
def uptoSmall : (H : Type) → List (DataW H) → Bool := fun _ ds => decide (uptoBulkAll ds ≤ 1048576)
def OpenSpec.upto (s : _root_.Go.ChangeSpec) : _root_.Go.OpenSpec := { _root_.Go.OpenSpec.ofChange s with cond := some uptoSmall }

/-- 'laws.FnExactWorksOk', WHERE WHAT IT READS IS OF BULK AT MOST 1048576: true; the input reads as it did. -/
def fnExactWorksOkUptoRow : OpenClaim := { program := "ytoonamloihbjnaa", sum := "072ee3a040a53a29999dd07463bef79c9edda857b356c72f1f0a0822091e8518", func := "loop.example/g03208/laws.FnExactWorksOk", spec := "fnExactWorksOk", unfollowed := true, recurses := true, apart := false, narrowed := true }
def FnExactWorksOkUptoSaid : Prop := fnExactWorksOkUptoRow.holds Try.pinned (OpenSpec.upto fnExactWorksOkSpec)

/-- 'laws.FnExactDueOrder', WHERE WHAT IT READS IS OF BULK AT MOST 1048576: true; the input reads as it did. -/
def fnExactDueOrderUptoRow : OpenClaim := { program := "ytoonamloihbjnaa", sum := "072ee3a040a53a29999dd07463bef79c9edda857b356c72f1f0a0822091e8518", func := "loop.example/g03208/laws.FnExactDueOrder", spec := "fnExactDueOrder", unfollowed := true, recurses := true, apart := false, narrowed := true }
def FnExactDueOrderUptoSaid : Prop := fnExactDueOrderUptoRow.holds Try.pinned (OpenSpec.upto fnExactDueOrderSpec)

/-- 'laws.FnExactShortOrder', WHERE WHAT IT READS IS OF BULK AT MOST 1048576: true; the input reads as it did. -/
def fnExactShortOrderUptoRow : OpenClaim := { program := "ytoonamloihbjnaa", sum := "072ee3a040a53a29999dd07463bef79c9edda857b356c72f1f0a0822091e8518", func := "loop.example/g03208/laws.FnExactShortOrder", spec := "fnExactShortOrder", unfollowed := true, recurses := true, apart := false, narrowed := true }
def FnExactShortOrderUptoSaid : Prop := fnExactShortOrderUptoRow.holds Try.pinned (OpenSpec.upto fnExactShortOrderSpec)

/-- 'laws.FnExactOnTimeOrder', WHERE WHAT IT READS IS OF BULK AT MOST 1048576: true; the input reads as it did. -/
def fnExactOnTimeOrderUptoRow : OpenClaim := { program := "ytoonamloihbjnaa", sum := "072ee3a040a53a29999dd07463bef79c9edda857b356c72f1f0a0822091e8518", func := "loop.example/g03208/laws.FnExactOnTimeOrder", spec := "fnExactOnTimeOrder", unfollowed := true, recurses := true, apart := false, narrowed := true }
def FnExactOnTimeOrderUptoSaid : Prop := fnExactOnTimeOrderUptoRow.holds Try.pinned (OpenSpec.upto fnExactOnTimeOrderSpec)

/-- 'laws.FnExactWorkOrderOk', WHERE WHAT IT READS IS OF BULK AT MOST 1048576: true; the input reads as it did. -/
def fnExactWorkOrderOkUptoRow : OpenClaim := { program := "ytoonamloihbjnaa", sum := "072ee3a040a53a29999dd07463bef79c9edda857b356c72f1f0a0822091e8518", func := "loop.example/g03208/laws.FnExactWorkOrderOk", spec := "fnExactWorkOrderOk", unfollowed := true, recurses := true, apart := false, narrowed := true }
def FnExactWorkOrderOkUptoSaid : Prop := fnExactWorkOrderOkUptoRow.holds Try.pinned (OpenSpec.upto fnExactWorkOrderOkSpec)

/-- 'laws.FnExactLatestBy', WHERE WHAT IT READS IS OF BULK AT MOST 1048576: true; the input reads as it did. -/
def fnExactLatestByUptoRow : OpenClaim := { program := "ytoonamloihbjnaa", sum := "072ee3a040a53a29999dd07463bef79c9edda857b356c72f1f0a0822091e8518", func := "loop.example/g03208/laws.FnExactLatestBy", spec := "fnExactLatestBy", unfollowed := true, recurses := true, apart := false, narrowed := true }
def FnExactLatestByUptoSaid : Prop := fnExactLatestByUptoRow.holds Try.pinned (OpenSpec.upto fnExactLatestBySpec)

/-- 'laws.FnExactEndsAt', WHERE WHAT IT READS IS OF BULK AT MOST 1048576: true; the input reads as it did. -/
def fnExactEndsAtUptoRow : OpenClaim := { program := "ytoonamloihbjnaa", sum := "072ee3a040a53a29999dd07463bef79c9edda857b356c72f1f0a0822091e8518", func := "loop.example/g03208/laws.FnExactEndsAt", spec := "fnExactEndsAt", unfollowed := true, recurses := true, apart := false, narrowed := true }
def FnExactEndsAtUptoSaid : Prop := fnExactEndsAtUptoRow.holds Try.pinned (OpenSpec.upto fnExactEndsAtSpec)

/-- 'laws.FnExactCountLate', WHERE WHAT IT READS IS OF BULK AT MOST 1048576: true; the input reads as it did. -/
def fnExactCountLateUptoRow : OpenClaim := { program := "ytoonamloihbjnaa", sum := "072ee3a040a53a29999dd07463bef79c9edda857b356c72f1f0a0822091e8518", func := "loop.example/g03208/laws.FnExactCountLate", spec := "fnExactCountLate", unfollowed := true, recurses := true, apart := false, narrowed := true }
def FnExactCountLateUptoSaid : Prop := fnExactCountLateUptoRow.holds Try.pinned (OpenSpec.upto fnExactCountLateSpec)

/-- 'laws.FnExactSlackOf', WHERE WHAT IT READS IS OF BULK AT MOST 1048576: true; the input reads as it did. -/
def fnExactSlackOfUptoRow : OpenClaim := { program := "ytoonamloihbjnaa", sum := "072ee3a040a53a29999dd07463bef79c9edda857b356c72f1f0a0822091e8518", func := "loop.example/g03208/laws.FnExactSlackOf", spec := "fnExactSlackOf", unfollowed := true, recurses := true, apart := false, narrowed := true }
def FnExactSlackOfUptoSaid : Prop := fnExactSlackOfUptoRow.holds Try.pinned (OpenSpec.upto fnExactSlackOfSpec)

/-- 'laws.FnExactFewestLate', WHERE WHAT IT READS IS OF BULK AT MOST 1048576: true; the input reads as it did. -/
def fnExactFewestLateUptoRow : OpenClaim := { program := "ytoonamloihbjnaa", sum := "072ee3a040a53a29999dd07463bef79c9edda857b356c72f1f0a0822091e8518", func := "loop.example/g03208/laws.FnExactFewestLate", spec := "fnExactFewestLate", unfollowed := true, recurses := true, apart := false, narrowed := true }
def FnExactFewestLateUptoSaid : Prop := fnExactFewestLateUptoRow.holds Try.pinned (OpenSpec.upto fnExactFewestLateSpec)

/-- 'laws.FnDays', WHERE WHAT IT READS IS OF BULK AT MOST 1048576: true; the input reads as it did. -/
def fnDaysUptoRow : OpenClaim := { program := "ytoonamloihbjnaa", sum := "072ee3a040a53a29999dd07463bef79c9edda857b356c72f1f0a0822091e8518", func := "loop.example/g03208/laws.FnDays", spec := "fnDays", unfollowed := true, recurses := true, apart := false, narrowed := true }
def FnDaysUptoSaid : Prop := fnDaysUptoRow.holds Try.pinned (OpenSpec.upto fnDaysSpec)

end Rows
end Go.Proofs.Ytoonamloihbjnaa

/-
  No cell of these rows narrows 'for every input' (looked for: loops, veiled, ifaces, maps, wideKeys, modest, calm, conditions, laid).
  DERIVED. THE GIVEN ROWS OF THIS SEAT. 11 by the template 'for every input the law returns true; each argument reads behind the call as it read before'; 0 by the template 'total and deterministic' (their statements: YtoildabjnioafaaTotals.lean).
  GIVEN WITH THE SEED: the statements are not yours to turn. If you find one false, say at which input.
  Laid BY PROGRAM, IN A SANDBOX (cutbox-rows.mjs): the forced cells as the released guide's own fill.sh prints them over the translation 03e9ad023d769c8e… (all of the seat's roots in one cut). By AI agents, Wed Nov 11 2026. No macro, syntax, notation, axiom, sorry.
-/
import Derived.Test.YtoildabjnioafaaChecked
import GoSem.Claim
import GoSem.ClaimJoined
import GoSem.ClaimMapViews
import Derived.JoinedTies
import Derived.KernelRfl
namespace Go.Proofs.Ytoildabjnioafaa
/- THE CELL 'sum', in the pinned program and in every row, IS THE sha256 OF THE DUMP (.gsa) THAT YtoildabjnioafaaProg.lean LOADS. Nothing in Lean hashes anything: it is a label: what it is worth is what the hold of that sum in a sandbox is worth. -/
noncomputable def Try.pinned : Pinned := { name := "ytoildabjnioafaa", sum := "03e9ad023d769c8e70edd01e8d8ac0c35050b168e976f080071f0505731e9825", checked := Try.checked }
namespace Rows
def none {H : Type} : Left H := { results := [], args := [] }

/-- 'laws.FnExactCostOf': WHATEVER THE INPUT: true; the input reads as it did. -/
def fnExactCostOfSpec : ChangeSpec := { name := "fnExactCostOf", fn := fun _ => fun
  | [d1, d2, d3, d4] => { results := [.lit (.bool true)], args := [d1, d2, d3, d4] }
  | _ => none }
def fnExactCostOfRow : OpenClaim := { program := "ytoildabjnioafaa", sum := "03e9ad023d769c8e70edd01e8d8ac0c35050b168e976f080071f0505731e9825", func := "loop.example/g03208/laws.FnExactCostOf", spec := "fnExactCostOf", apart := false }
def FnExactCostOfSaid : Prop := fnExactCostOfRow.holds Try.pinned (OpenSpec.ofChange fnExactCostOfSpec)

/-- ITS FALSE NEIGHBOUR: 'it returns false'. Refute it at one input. -/
def fnExactCostOfWrong : ChangeSpec := { name := "fnExactCostOf", fn := fun _ => fun
  | [d1, d2, d3, d4] => { results := [.lit (.bool false)], args := [d1, d2, d3, d4] }
  | _ => none }
def FnExactCostOfWrongFalsely : Prop := fnExactCostOfRow.holds Try.pinned (OpenSpec.ofChange fnExactCostOfWrong)

/-- 'laws.FnExactRoundUp': WHATEVER THE INPUT: true; the input reads as it did. -/
def fnExactRoundUpSpec : ChangeSpec := { name := "fnExactRoundUp", fn := fun _ => fun
  | [d1, d2] => { results := [.lit (.bool true)], args := [d1, d2] }
  | _ => none }
def fnExactRoundUpRow : OpenClaim := { program := "ytoildabjnioafaa", sum := "03e9ad023d769c8e70edd01e8d8ac0c35050b168e976f080071f0505731e9825", func := "loop.example/g03208/laws.FnExactRoundUp", spec := "fnExactRoundUp", apart := false }
def FnExactRoundUpSaid : Prop := fnExactRoundUpRow.holds Try.pinned (OpenSpec.ofChange fnExactRoundUpSpec)

/-- ITS FALSE NEIGHBOUR: 'it returns false'. Refute it at one input. -/
def fnExactRoundUpWrong : ChangeSpec := { name := "fnExactRoundUp", fn := fun _ => fun
  | [d1, d2] => { results := [.lit (.bool false)], args := [d1, d2] }
  | _ => none }
def FnExactRoundUpWrongFalsely : Prop := fnExactRoundUpRow.holds Try.pinned (OpenSpec.ofChange fnExactRoundUpWrong)

/-- 'laws.FnExactMarkFlaw': WHATEVER THE INPUT: true; the input reads as it did. -/
def fnExactMarkFlawSpec : ChangeSpec := { name := "fnExactMarkFlaw", fn := fun _ => fun
  | [d1, d2, d3, d4, d5] => { results := [.lit (.bool true)], args := [d1, d2, d3, d4, d5] }
  | _ => none }
def fnExactMarkFlawRow : OpenClaim := { program := "ytoildabjnioafaa", sum := "03e9ad023d769c8e70edd01e8d8ac0c35050b168e976f080071f0505731e9825", func := "loop.example/g03208/laws.FnExactMarkFlaw", spec := "fnExactMarkFlaw", apart := false }
def FnExactMarkFlawSaid : Prop := fnExactMarkFlawRow.holds Try.pinned (OpenSpec.ofChange fnExactMarkFlawSpec)

/-- ITS FALSE NEIGHBOUR: 'it returns false'. Refute it at one input. -/
def fnExactMarkFlawWrong : ChangeSpec := { name := "fnExactMarkFlaw", fn := fun _ => fun
  | [d1, d2, d3, d4, d5] => { results := [.lit (.bool false)], args := [d1, d2, d3, d4, d5] }
  | _ => none }
def FnExactMarkFlawWrongFalsely : Prop := fnExactMarkFlawRow.holds Try.pinned (OpenSpec.ofChange fnExactMarkFlawWrong)

/-- 'laws.FnExactWindowOk': WHATEVER THE INPUT: true; the input reads as it did. -/
def fnExactWindowOkSpec : ChangeSpec := { name := "fnExactWindowOk", fn := fun _ => fun
  | [d1, d2, d3] => { results := [.lit (.bool true)], args := [d1, d2, d3] }
  | _ => none }
def fnExactWindowOkRow : OpenClaim := { program := "ytoildabjnioafaa", sum := "03e9ad023d769c8e70edd01e8d8ac0c35050b168e976f080071f0505731e9825", func := "loop.example/g03208/laws.FnExactWindowOk", spec := "fnExactWindowOk", unfollowed := true, recurses := true, apart := false }
def FnExactWindowOkSaid : Prop := fnExactWindowOkRow.holds Try.pinned (OpenSpec.ofChange fnExactWindowOkSpec)

/-- ITS FALSE NEIGHBOUR: 'it returns false'. Refute it at one input. -/
def fnExactWindowOkWrong : ChangeSpec := { name := "fnExactWindowOk", fn := fun _ => fun
  | [d1, d2, d3] => { results := [.lit (.bool false)], args := [d1, d2, d3] }
  | _ => none }
def FnExactWindowOkWrongFalsely : Prop := fnExactWindowOkRow.holds Try.pinned (OpenSpec.ofChange fnExactWindowOkWrong)

/-- 'laws.FnExactWindowMask': WHATEVER THE INPUT: true; the input reads as it did. -/
def fnExactWindowMaskSpec : ChangeSpec := { name := "fnExactWindowMask", fn := fun _ => fun
  | [d1, d2, d3] => { results := [.lit (.bool true)], args := [d1, d2, d3] }
  | _ => none }
def fnExactWindowMaskRow : OpenClaim := { program := "ytoildabjnioafaa", sum := "03e9ad023d769c8e70edd01e8d8ac0c35050b168e976f080071f0505731e9825", func := "loop.example/g03208/laws.FnExactWindowMask", spec := "fnExactWindowMask", unfollowed := true, recurses := true, apart := false }
def FnExactWindowMaskSaid : Prop := fnExactWindowMaskRow.holds Try.pinned (OpenSpec.ofChange fnExactWindowMaskSpec)

/-- ITS FALSE NEIGHBOUR: 'it returns false'. Refute it at one input. -/
def fnExactWindowMaskWrong : ChangeSpec := { name := "fnExactWindowMask", fn := fun _ => fun
  | [d1, d2, d3] => { results := [.lit (.bool false)], args := [d1, d2, d3] }
  | _ => none }
def FnExactWindowMaskWrongFalsely : Prop := fnExactWindowMaskRow.holds Try.pinned (OpenSpec.ofChange fnExactWindowMaskWrong)

/-- 'laws.FnExactIsClear': WHATEVER THE INPUT: true; the input reads as it did. -/
def fnExactIsClearSpec : ChangeSpec := { name := "fnExactIsClear", fn := fun _ => fun
  | [d1, d2, d3, d4] => { results := [.lit (.bool true)], args := [d1, d2, d3, d4] }
  | _ => none }
def fnExactIsClearRow : OpenClaim := { program := "ytoildabjnioafaa", sum := "03e9ad023d769c8e70edd01e8d8ac0c35050b168e976f080071f0505731e9825", func := "loop.example/g03208/laws.FnExactIsClear", spec := "fnExactIsClear", unfollowed := true, recurses := true, apart := false }
def FnExactIsClearSaid : Prop := fnExactIsClearRow.holds Try.pinned (OpenSpec.ofChange fnExactIsClearSpec)

/-- ITS FALSE NEIGHBOUR: 'it returns false'. Refute it at one input. -/
def fnExactIsClearWrong : ChangeSpec := { name := "fnExactIsClear", fn := fun _ => fun
  | [d1, d2, d3, d4] => { results := [.lit (.bool false)], args := [d1, d2, d3, d4] }
  | _ => none }
def FnExactIsClearWrongFalsely : Prop := fnExactIsClearRow.holds Try.pinned (OpenSpec.ofChange fnExactIsClearWrong)

/-- 'laws.FnExactCountClear': WHATEVER THE INPUT: true; the input reads as it did. -/
def fnExactCountClearSpec : ChangeSpec := { name := "fnExactCountClear", fn := fun _ => fun
  | [d1, d2, d3] => { results := [.lit (.bool true)], args := [d1, d2, d3] }
  | _ => none }
def fnExactCountClearRow : OpenClaim := { program := "ytoildabjnioafaa", sum := "03e9ad023d769c8e70edd01e8d8ac0c35050b168e976f080071f0505731e9825", func := "loop.example/g03208/laws.FnExactCountClear", spec := "fnExactCountClear", unfollowed := true, recurses := true, apart := false }
def FnExactCountClearSaid : Prop := fnExactCountClearRow.holds Try.pinned (OpenSpec.ofChange fnExactCountClearSpec)

/-- ITS FALSE NEIGHBOUR: 'it returns false'. Refute it at one input. -/
def fnExactCountClearWrong : ChangeSpec := { name := "fnExactCountClear", fn := fun _ => fun
  | [d1, d2, d3] => { results := [.lit (.bool false)], args := [d1, d2, d3] }
  | _ => none }
def FnExactCountClearWrongFalsely : Prop := fnExactCountClearRow.holds Try.pinned (OpenSpec.ofChange fnExactCountClearWrong)

/-- 'laws.FnExactCutCloth': WHATEVER THE INPUT: true; the input reads as it did. -/
def fnExactCutClothSpec : ChangeSpec := { name := "fnExactCutCloth", fn := fun _ => fun
  | [d1, d2, d3] => { results := [.lit (.bool true)], args := [d1, d2, d3] }
  | _ => none }
def fnExactCutClothRow : OpenClaim := { program := "ytoildabjnioafaa", sum := "03e9ad023d769c8e70edd01e8d8ac0c35050b168e976f080071f0505731e9825", func := "loop.example/g03208/laws.FnExactCutCloth", spec := "fnExactCutCloth", unfollowed := true, recurses := true, apart := false }
def FnExactCutClothSaid : Prop := fnExactCutClothRow.holds Try.pinned (OpenSpec.ofChange fnExactCutClothSpec)

/-- ITS FALSE NEIGHBOUR: 'it returns false'. Refute it at one input. -/
def fnExactCutClothWrong : ChangeSpec := { name := "fnExactCutCloth", fn := fun _ => fun
  | [d1, d2, d3] => { results := [.lit (.bool false)], args := [d1, d2, d3] }
  | _ => none }
def FnExactCutClothWrongFalsely : Prop := fnExactCutClothRow.holds Try.pinned (OpenSpec.ofChange fnExactCutClothWrong)

/-- 'laws.FnExactClearFor': WHATEVER THE INPUT: true; the input reads as it did. -/
def fnExactClearForSpec : ChangeSpec := { name := "fnExactClearFor", fn := fun _ => fun
  | [d1, d2, d3, d4, d5] => { results := [.lit (.bool true)], args := [d1, d2, d3, d4, d5] }
  | _ => none }
def fnExactClearForRow : OpenClaim := { program := "ytoildabjnioafaa", sum := "03e9ad023d769c8e70edd01e8d8ac0c35050b168e976f080071f0505731e9825", func := "loop.example/g03208/laws.FnExactClearFor", spec := "fnExactClearFor", unfollowed := true, recurses := true, apart := false }
def FnExactClearForSaid : Prop := fnExactClearForRow.holds Try.pinned (OpenSpec.ofChange fnExactClearForSpec)

/-- ITS FALSE NEIGHBOUR: 'it returns false'. Refute it at one input. -/
def fnExactClearForWrong : ChangeSpec := { name := "fnExactClearFor", fn := fun _ => fun
  | [d1, d2, d3, d4, d5] => { results := [.lit (.bool false)], args := [d1, d2, d3, d4, d5] }
  | _ => none }
def FnExactClearForWrongFalsely : Prop := fnExactClearForRow.holds Try.pinned (OpenSpec.ofChange fnExactClearForWrong)

/-- 'laws.FnExactGreatestClear': WHATEVER THE INPUT: true; the input reads as it did. -/
def fnExactGreatestClearSpec : ChangeSpec := { name := "fnExactGreatestClear", fn := fun _ => fun
  | [d1, d2, d3] => { results := [.lit (.bool true)], args := [d1, d2, d3] }
  | _ => none }
def fnExactGreatestClearRow : OpenClaim := { program := "ytoildabjnioafaa", sum := "03e9ad023d769c8e70edd01e8d8ac0c35050b168e976f080071f0505731e9825", func := "loop.example/g03208/laws.FnExactGreatestClear", spec := "fnExactGreatestClear", unfollowed := true, recurses := true, apart := false }
def FnExactGreatestClearSaid : Prop := fnExactGreatestClearRow.holds Try.pinned (OpenSpec.ofChange fnExactGreatestClearSpec)

/-- ITS FALSE NEIGHBOUR: 'it returns false'. Refute it at one input. -/
def fnExactGreatestClearWrong : ChangeSpec := { name := "fnExactGreatestClear", fn := fun _ => fun
  | [d1, d2, d3] => { results := [.lit (.bool false)], args := [d1, d2, d3] }
  | _ => none }
def FnExactGreatestClearWrongFalsely : Prop := fnExactGreatestClearRow.holds Try.pinned (OpenSpec.ofChange fnExactGreatestClearWrong)

/-- 'laws.FnFlaws': WHATEVER THE INPUT: true; the input reads as it did. -/
def fnFlawsSpec : ChangeSpec := { name := "fnFlaws", fn := fun _ => fun
  | [d] => { results := [.lit (.bool true)], args := [d] }
  | _ => none }
def fnFlawsRow : OpenClaim := { program := "ytoildabjnioafaa", sum := "03e9ad023d769c8e70edd01e8d8ac0c35050b168e976f080071f0505731e9825", func := "loop.example/g03208/laws.FnFlaws", spec := "fnFlaws", unfollowed := true, recurses := true, apart := false }
def FnFlawsSaid : Prop := fnFlawsRow.holds Try.pinned (OpenSpec.ofChange fnFlawsSpec)

/-- ITS FALSE NEIGHBOUR: 'it returns false'. Refute it at one input. -/
def fnFlawsWrong : ChangeSpec := { name := "fnFlaws", fn := fun _ => fun
  | [d] => { results := [.lit (.bool false)], args := [d] }
  | _ => none }
def FnFlawsWrongFalsely : Prop := fnFlawsRow.holds Try.pinned (OpenSpec.ofChange fnFlawsWrong)

/- THE SECOND FORM. 'bulk': how many values and letters a reading holds, each counted each time it is reached (what is shared counts as often as it is met; a slice's spare places count too). A statement '..UptoSaid' is the law's where the arguments, and the package variables that the reading takes, are together of bulk at most 1048576: NARROWER than '..Said'. Prove '..Said' where nothing that the law and all that it calls make is longer than what came in: it says more and counts as full. Else prove '..UptoSaid'. A law counts once. -/
mutual
def uptoBulk {H : Type} : DataW H → Nat
  | .lit (.string bytes) => bytes.length + 1
  | .lit _ => 1
  | .nil => 1
  | .ptr d => uptoBulk d + 1
  | .slice elems spare => uptoBulkAll elems + uptoBulkAll spare + 1
  | .agg parts => uptoBulkAll parts + 1
  | .iface _ d => uptoBulk d + 1
  | .map entries => uptoBulkEntries entries + 1
  | .held _ => 1
def uptoBulkAll {H : Type} : List (DataW H) → Nat
  | [] => 0
  | d :: r => uptoBulk d + uptoBulkAll r
def uptoBulkEntries {H : Type} : List (Lit × DataW H) → Nat
  | [] => 0
  | x :: r => uptoBulkEntry x + uptoBulkEntries r
def uptoBulkEntry {H : Type} : Lit × DataW H → Nat
  | (.string bytes, d) => bytes.length + uptoBulk d + 1
  | (_, d) => uptoBulk d + 1
 end
def uptoSmall : (H : Type) → List (DataW H) → Bool := fun _ ds => decide (uptoBulkAll ds ≤ 1048576)
def OpenSpec.upto (s : _root_.Go.ChangeSpec) : _root_.Go.OpenSpec := { _root_.Go.OpenSpec.ofChange s with cond := some uptoSmall }

/-- 'laws.FnExactCostOf', WHERE WHAT IT READS IS OF BULK AT MOST 1048576: true; the input reads as it did. -/
def fnExactCostOfUptoRow : OpenClaim := { program := "ytoildabjnioafaa", sum := "03e9ad023d769c8e70edd01e8d8ac0c35050b168e976f080071f0505731e9825", func := "loop.example/g03208/laws.FnExactCostOf", spec := "fnExactCostOf", apart := false, narrowed := true }
def FnExactCostOfUptoSaid : Prop := fnExactCostOfUptoRow.holds Try.pinned (OpenSpec.upto fnExactCostOfSpec)

/-- 'laws.FnExactRoundUp', WHERE WHAT IT READS IS OF BULK AT MOST 1048576: true; the input reads as it did. -/
def fnExactRoundUpUptoRow : OpenClaim := { program := "ytoildabjnioafaa", sum := "03e9ad023d769c8e70edd01e8d8ac0c35050b168e976f080071f0505731e9825", func := "loop.example/g03208/laws.FnExactRoundUp", spec := "fnExactRoundUp", apart := false, narrowed := true }
def FnExactRoundUpUptoSaid : Prop := fnExactRoundUpUptoRow.holds Try.pinned (OpenSpec.upto fnExactRoundUpSpec)

/-- 'laws.FnExactMarkFlaw', WHERE WHAT IT READS IS OF BULK AT MOST 1048576: true; the input reads as it did. -/
def fnExactMarkFlawUptoRow : OpenClaim := { program := "ytoildabjnioafaa", sum := "03e9ad023d769c8e70edd01e8d8ac0c35050b168e976f080071f0505731e9825", func := "loop.example/g03208/laws.FnExactMarkFlaw", spec := "fnExactMarkFlaw", apart := false, narrowed := true }
def FnExactMarkFlawUptoSaid : Prop := fnExactMarkFlawUptoRow.holds Try.pinned (OpenSpec.upto fnExactMarkFlawSpec)

/-- 'laws.FnExactWindowOk', WHERE WHAT IT READS IS OF BULK AT MOST 1048576: true; the input reads as it did. -/
def fnExactWindowOkUptoRow : OpenClaim := { program := "ytoildabjnioafaa", sum := "03e9ad023d769c8e70edd01e8d8ac0c35050b168e976f080071f0505731e9825", func := "loop.example/g03208/laws.FnExactWindowOk", spec := "fnExactWindowOk", unfollowed := true, recurses := true, apart := false, narrowed := true }
def FnExactWindowOkUptoSaid : Prop := fnExactWindowOkUptoRow.holds Try.pinned (OpenSpec.upto fnExactWindowOkSpec)

/-- 'laws.FnExactWindowMask', WHERE WHAT IT READS IS OF BULK AT MOST 1048576: true; the input reads as it did. -/
def fnExactWindowMaskUptoRow : OpenClaim := { program := "ytoildabjnioafaa", sum := "03e9ad023d769c8e70edd01e8d8ac0c35050b168e976f080071f0505731e9825", func := "loop.example/g03208/laws.FnExactWindowMask", spec := "fnExactWindowMask", unfollowed := true, recurses := true, apart := false, narrowed := true }
def FnExactWindowMaskUptoSaid : Prop := fnExactWindowMaskUptoRow.holds Try.pinned (OpenSpec.upto fnExactWindowMaskSpec)

/-- 'laws.FnExactIsClear', WHERE WHAT IT READS IS OF BULK AT MOST 1048576: true; the input reads as it did. -/
def fnExactIsClearUptoRow : OpenClaim := { program := "ytoildabjnioafaa", sum := "03e9ad023d769c8e70edd01e8d8ac0c35050b168e976f080071f0505731e9825", func := "loop.example/g03208/laws.FnExactIsClear", spec := "fnExactIsClear", unfollowed := true, recurses := true, apart := false, narrowed := true }
def FnExactIsClearUptoSaid : Prop := fnExactIsClearUptoRow.holds Try.pinned (OpenSpec.upto fnExactIsClearSpec)

/-- 'laws.FnExactCountClear', WHERE WHAT IT READS IS OF BULK AT MOST 1048576: true; the input reads as it did. -/
def fnExactCountClearUptoRow : OpenClaim := { program := "ytoildabjnioafaa", sum := "03e9ad023d769c8e70edd01e8d8ac0c35050b168e976f080071f0505731e9825", func := "loop.example/g03208/laws.FnExactCountClear", spec := "fnExactCountClear", unfollowed := true, recurses := true, apart := false, narrowed := true }
def FnExactCountClearUptoSaid : Prop := fnExactCountClearUptoRow.holds Try.pinned (OpenSpec.upto fnExactCountClearSpec)

/-- 'laws.FnExactCutCloth', WHERE WHAT IT READS IS OF BULK AT MOST 1048576: true; the input reads as it did. -/
def fnExactCutClothUptoRow : OpenClaim := { program := "ytoildabjnioafaa", sum := "03e9ad023d769c8e70edd01e8d8ac0c35050b168e976f080071f0505731e9825", func := "loop.example/g03208/laws.FnExactCutCloth", spec := "fnExactCutCloth", unfollowed := true, recurses := true, apart := false, narrowed := true }
def FnExactCutClothUptoSaid : Prop := fnExactCutClothUptoRow.holds Try.pinned (OpenSpec.upto fnExactCutClothSpec)

/-- 'laws.FnExactClearFor', WHERE WHAT IT READS IS OF BULK AT MOST 1048576: true; the input reads as it did. -/
def fnExactClearForUptoRow : OpenClaim := { program := "ytoildabjnioafaa", sum := "03e9ad023d769c8e70edd01e8d8ac0c35050b168e976f080071f0505731e9825", func := "loop.example/g03208/laws.FnExactClearFor", spec := "fnExactClearFor", unfollowed := true, recurses := true, apart := false, narrowed := true }
def FnExactClearForUptoSaid : Prop := fnExactClearForUptoRow.holds Try.pinned (OpenSpec.upto fnExactClearForSpec)

/-- 'laws.FnExactGreatestClear', WHERE WHAT IT READS IS OF BULK AT MOST 1048576: true; the input reads as it did. -/
def fnExactGreatestClearUptoRow : OpenClaim := { program := "ytoildabjnioafaa", sum := "03e9ad023d769c8e70edd01e8d8ac0c35050b168e976f080071f0505731e9825", func := "loop.example/g03208/laws.FnExactGreatestClear", spec := "fnExactGreatestClear", unfollowed := true, recurses := true, apart := false, narrowed := true }
def FnExactGreatestClearUptoSaid : Prop := fnExactGreatestClearUptoRow.holds Try.pinned (OpenSpec.upto fnExactGreatestClearSpec)

/-- 'laws.FnFlaws', WHERE WHAT IT READS IS OF BULK AT MOST 1048576: true; the input reads as it did. -/
def fnFlawsUptoRow : OpenClaim := { program := "ytoildabjnioafaa", sum := "03e9ad023d769c8e70edd01e8d8ac0c35050b168e976f080071f0505731e9825", func := "loop.example/g03208/laws.FnFlaws", spec := "fnFlaws", unfollowed := true, recurses := true, apart := false, narrowed := true }
def FnFlawsUptoSaid : Prop := fnFlawsUptoRow.holds Try.pinned (OpenSpec.upto fnFlawsSpec)

end Rows
end Go.Proofs.Ytoildabjnioafaa

-- PRINTED BY print.sh 35421559b90ae4d0a3588c463048766b98c2df88dd9212a6774a882060cdf62d: not written by this session
import Derived.Test.YtoildabjnioafaaProg
import Derived.Below
import Derived.Deep.Draws
import Derived.Deep.AppendLies
import Derived.Maps.AppendAt
import Derived.OwnWalk
import Derived.Laws.BytesArg
import Derived.Laws.MakeOwn
import Derived.Laws.OwnMore
import Derived.Deep.OwnRows
import Derived.Tactics
import Derived.Lib.ConvBytes
import Derived.Laws.Slices
import Derived.WalkKit
import Derived.KernelRfl
import Derived.RowKit3
import Derived.Deep.LoopGhost
import Derived.Deep.QuietTactic
import Derived.BigQuiet
import Derived.WideLaws
import Derived.Deep.DeepCutAuto
import Derived.Deep.CutBlock
import Derived.Deep.RegionHeld3
import Derived.Laws.Rows
import Derived.Lib.AppendStr
import Derived.ArgAppend
import Derived.Laws.IdiomCopy
import Derived.OrdersHeld
import Derived.Laws.BitsLemmas
import Derived.RowKit
import Derived.Test.YtoildabjnioafaaWWords
import Derived.Test.YtoildabjnioafaaWLast
import Derived.Test.YtoildabjnioafaaWTab
import Derived.Test.YtoildabjnioafaaWFour
import Derived.Test.YtoildabjnioafaaWQPut
import Derived.Test.YtoildabjnioafaaWApart
import Derived.Test.YtoildabjnioafaaWArr
import Derived.Test.YtoildabjnioafaaWZeros
import Derived.Test.YtoildabjnioafaaWFoot
import Derived.Test.YtoildabjnioafaaWKept
import Derived.Test.YtoildabjnioafaaWShare
import Derived.Test.YtoildabjnioafaaWN
import Derived.Test.YtoildabjnioafaaWFootNe
import Derived.Test.YtoildabjnioafaaWAt
import Derived.Test.YtoildabjnioafaaWEqStruct
import Derived.Test.YtoildabjnioafaaWRepsOne
import Derived.Test.YtoildabjnioafaaWInv
import Derived.Test.YtoildabjnioafaaWInvWords
import Derived.Test.YtoildabjnioafaaWGuard
import Derived.Test.YtoildabjnioafaaWNEv
import Derived.Test.YtoildabjnioafaaWMore
namespace Go.Proofs.Ytoildabjnioafaa.PFnExactRoundUp
open Go.RowKit Go.Proofs.YtoildabjnioafaaW.PrintWords Go.Proofs.YtoildabjnioafaaW.PrintLast Go.Proofs.YtoildabjnioafaaW.PrintMore
attribute [local go_sem] max2_int min2_int max_two min_two max_three min_three max_four min_four   -- for this text's walks alone
set_option linter.unusedVariables false
set_option linter.unusedSimpArgs false



def errW : Option Int → Value
  | none => .nilIface
  | some c => .iface 0 (.int .i64 c)
theorem errW_none : errW none = .nilIface := rfl
theorem errW_some (c : Int) : errW (some c) = .iface 0 (.int .i64 c) := rfl

-- the values' own types

end Go.Proofs.Ytoildabjnioafaa.PFnExactRoundUp

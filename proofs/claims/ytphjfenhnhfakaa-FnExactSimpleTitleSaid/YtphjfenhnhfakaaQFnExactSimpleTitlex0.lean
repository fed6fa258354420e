/- The law FnExactSimpleTitle: at every input the call answers true (this text: contracts on its way, by a program of this session's; no condition of ours). -/
import Derived.Test.YtphjfenhnhfakaaProg
import Derived.Below
import Derived.Deep.Draws
import Derived.Deep.AppendLies
import Derived.Maps.AppendAt
import Derived.OwnWalk
import Derived.Laws.BytesArg
import Derived.Laws.MakeOwn
import Derived.Laws.OwnMore
import Derived.Deep.OwnRows
import Derived.Tactics
import Derived.Lib.ConvBytes
import Derived.Laws.Slices
import Derived.WalkKit
import Derived.KernelRfl
import Derived.RowKit3
import Derived.Deep.LoopGhost
import Derived.Deep.QuietTactic
import Derived.BigQuiet
import Derived.WideLaws
import Derived.Deep.DeepCutAuto
import Derived.Deep.CutBlock
import Derived.Deep.RegionHeld3
import Derived.Laws.Rows
import Derived.Lib.AppendStr
import Derived.ArgAppend
import Derived.Laws.IdiomCopy
import Derived.OrdersHeld
import Derived.Laws.BitsLemmas
import Derived.RowKit
import Derived.Deep.Light
import Derived.Test.YtphjfenhnhfakaaWWords
import Derived.Test.YtphjfenhnhfakaaWLast
import Derived.Test.YtphjfenhnhfakaaWTab
import Derived.Test.YtphjfenhnhfakaaWFour
import Derived.Test.YtphjfenhnhfakaaWQPut
import Derived.Test.YtphjfenhnhfakaaWApart
import Derived.Test.YtphjfenhnhfakaaWArr
import Derived.Test.YtphjfenhnhfakaaWZeros
import Derived.Test.YtphjfenhnhfakaaWFoot
import Derived.Test.YtphjfenhnhfakaaWKept
import Derived.Test.YtphjfenhnhfakaaWShare
import Derived.Test.YtphjfenhnhfakaaWN
import Derived.Test.YtphjfenhnhfakaaWFootNe
import Derived.Test.YtphjfenhnhfakaaWAt
import Derived.Test.YtphjfenhnhfakaaWEqStruct
import Derived.Test.YtphjfenhnhfakaaWRepsOne
import Derived.Test.YtphjfenhnhfakaaWInv
import Derived.Test.YtphjfenhnhfakaaWInvWords
import Derived.Test.YtphjfenhnhfakaaWGuard
import Derived.Test.YtphjfenhnhfakaaWNEv
import Derived.Test.YtphjfenhnhfakaaWMore
namespace Go.Proofs.Ytphjfenhnhfakaa.QFnExactSimpleTitle
open Go.RowKit Go.Proofs.YtphjfenhnhfakaaW.PrintWords Go.Proofs.YtphjfenhnhfakaaW.PrintLast Go.Proofs.YtphjfenhnhfakaaW.PrintMore
attribute [local go_sem] max2_int min2_int max_two min_two max_three min_three max_four min_four   -- for this text's walks alone
set_option linter.unusedVariables false
set_option linter.unusedSimpArgs false



def errW : Option Int → Value
  | none => .nilIface
  | some c => .iface 0 (.int .i64 c)
theorem errW_none : errW none = .nilIface := rfl
theorem errW_some (c : Int) : errW (some c) = .iface 0 (.int .i64 c) := rfl

-- the values' own types

end Go.Proofs.Ytphjfenhnhfakaa.QFnExactSimpleTitle

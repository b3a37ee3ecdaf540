-- Written by this session's program wip/myprint.py, after the kit's print.
import Derived.Test.YtmjmnmcpfpbkeaaProg
import Derived.Below
import Derived.Deep.Draws
import Derived.Deep.AppendLies
import Derived.Maps.AppendAt
import Derived.OwnWalk
import Derived.Laws.BytesArg
import Derived.Laws.MakeOwn
import Derived.Laws.OwnMore
import Derived.Deep.OwnRows
import Derived.Tactics
import Derived.Lib.ConvBytes
import Derived.Laws.Slices
import Derived.WalkKit
import Derived.KernelRfl
import Derived.RowKit3
import Derived.Deep.LoopGhost
import Derived.Deep.QuietTactic
import Derived.BigQuiet
import Derived.WideLaws
import Derived.Deep.DeepCutAuto
import Derived.Deep.CutBlock
import Derived.Deep.RegionHeld3
import Derived.Laws.Rows
import Derived.Lib.AppendStr
import Derived.ArgAppend
import Derived.Laws.IdiomCopy
import Derived.OrdersHeld
import Derived.Laws.BitsLemmas
import Derived.RowKit
import Derived.Laws.Tables
import Derived.Test.YtmjmnmcpfpbkeaaWWords
import Derived.Test.YtmjmnmcpfpbkeaaWLast
import Derived.Test.YtmjmnmcpfpbkeaaWTab
import Derived.Test.YtmjmnmcpfpbkeaaWFour
import Derived.Test.YtmjmnmcpfpbkeaaWQPut
import Derived.Test.YtmjmnmcpfpbkeaaWApart
import Derived.Test.YtmjmnmcpfpbkeaaWArr
import Derived.Test.YtmjmnmcpfpbkeaaWZeros
import Derived.Test.YtmjmnmcpfpbkeaaWFoot
import Derived.Test.YtmjmnmcpfpbkeaaWKept
import Derived.Test.YtmjmnmcpfpbkeaaWShare
import Derived.Test.YtmjmnmcpfpbkeaaWN
import Derived.Test.YtmjmnmcpfpbkeaaWFootNe
import Derived.Test.YtmjmnmcpfpbkeaaWAt
import Derived.Test.YtmjmnmcpfpbkeaaWEqStruct
import Derived.Test.YtmjmnmcpfpbkeaaWRepsOne
import Derived.Test.YtmjmnmcpfpbkeaaWInv
import Derived.Test.YtmjmnmcpfpbkeaaWInvWords
import Derived.Test.YtmjmnmcpfpbkeaaWGuard
import Derived.Test.YtmjmnmcpfpbkeaaWNEv
import Derived.Test.YtmjmnmcpfpbkeaaWMore
namespace Go.Proofs.Ytmjmnmcpfpbkeaa.PFnExactReadSig
open Go.RowKit Go.Proofs.YtmjmnmcpfpbkeaaW.PrintWords Go.Proofs.YtmjmnmcpfpbkeaaW.PrintLast Go.Proofs.YtmjmnmcpfpbkeaaW.PrintMore
attribute [local go_sem] max2_int min2_int max_two min_two max_three min_three max_four min_four   -- for this text's walks alone
set_option linter.unusedVariables false
set_option linter.unusedSimpArgs false



def errW : Option Int → Value
  | none => .nilIface
  | some c => .iface 0 (.int .i64 c)
theorem errW_none : errW none = .nilIface := rfl
theorem errW_some (c : Int) : errW (some c) = .iface 0 (.int .i64 c) := rfl

-- the values' own types

end Go.Proofs.Ytmjmnmcpfpbkeaa.PFnExactReadSig

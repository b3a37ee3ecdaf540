-- PRINTED BY print.sh 35421559b90ae4d0a3588c463048766b98c2df88dd9212a6774a882060cdf62d: not written by this session
import Derived.Test.YthffbhmmpcmklaaProg
import Derived.Below
import Derived.Deep.Draws
import Derived.Deep.AppendLies
import Derived.Maps.AppendAt
import Derived.OwnWalk
import Derived.Laws.BytesArg
import Derived.Laws.MakeOwn
import Derived.Laws.OwnMore
import Derived.Deep.OwnRows
import Derived.Tactics
import Derived.Lib.ConvBytes
import Derived.Laws.Slices
import Derived.WalkKit
import Derived.KernelRfl
import Derived.RowKit3
import Derived.Deep.LoopGhost
import Derived.Deep.QuietTactic
import Derived.BigQuiet
import Derived.WideLaws
import Derived.Deep.DeepCutAuto
import Derived.Deep.CutBlock
import Derived.Deep.RegionHeld3
import Derived.Laws.Rows
import Derived.Lib.AppendStr
import Derived.ArgAppend
import Derived.Laws.IdiomCopy
import Derived.OrdersHeld
import Derived.Laws.BitsLemmas
import Derived.RowKit
import Derived.Test.YthffbhmmpcmklaaWWords
import Derived.Test.YthffbhmmpcmklaaWLast
import Derived.Test.YthffbhmmpcmklaaWTab
import Derived.Test.YthffbhmmpcmklaaWFour
import Derived.Test.YthffbhmmpcmklaaWQPut
import Derived.Test.YthffbhmmpcmklaaWApart
import Derived.Test.YthffbhmmpcmklaaWArr
import Derived.Test.YthffbhmmpcmklaaWZeros
import Derived.Test.YthffbhmmpcmklaaWFoot
import Derived.Test.YthffbhmmpcmklaaWKept
import Derived.Test.YthffbhmmpcmklaaWShare
import Derived.Test.YthffbhmmpcmklaaWN
import Derived.Test.YthffbhmmpcmklaaWFootNe
import Derived.Test.YthffbhmmpcmklaaWAt
import Derived.Test.YthffbhmmpcmklaaWEqStruct
import Derived.Test.YthffbhmmpcmklaaWRepsOne
import Derived.Test.YthffbhmmpcmklaaWInv
import Derived.Test.YthffbhmmpcmklaaWInvWords
import Derived.Test.YthffbhmmpcmklaaWGuard
import Derived.Test.YthffbhmmpcmklaaWNEv
import Derived.Test.YthffbhmmpcmklaaWMore
namespace Go.Proofs.Ythffbhmmpcmklaa.PFnExactHasherOk
open Go.RowKit Go.Proofs.YthffbhmmpcmklaaW.PrintWords Go.Proofs.YthffbhmmpcmklaaW.PrintLast Go.Proofs.YthffbhmmpcmklaaW.PrintMore
attribute [local go_sem] max2_int min2_int max_two min_two max_three min_three max_four min_four   -- for this text's walks alone
set_option linter.unusedVariables false
set_option linter.unusedSimpArgs false



def errW : Option Int → Value
  | none => .nilIface
  | some c => .iface 0 (.int .i64 c)
theorem errW_none : errW none = .nilIface := rfl
theorem errW_some (c : Int) : errW (some c) = .iface 0 (.int .i64 c) := rfl

-- the values' own types

end Go.Proofs.Ythffbhmmpcmklaa.PFnExactHasherOk

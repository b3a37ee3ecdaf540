-- Written by this session's program wip/myprint.py, after the kit's print.
import Derived.Test.YtpdpoegaoomgpaaProg
import Derived.Below
import Derived.Deep.Draws
import Derived.Deep.AppendLies
import Derived.Maps.AppendAt
import Derived.OwnWalk
import Derived.Laws.BytesArg
import Derived.Laws.MakeOwn
import Derived.Laws.OwnMore
import Derived.Deep.OwnRows
import Derived.Tactics
import Derived.Lib.ConvBytes
import Derived.Laws.Slices
import Derived.WalkKit
import Derived.KernelRfl
import Derived.RowKit3
import Derived.Deep.LoopGhost
import Derived.Deep.QuietTactic
import Derived.BigQuiet
import Derived.WideLaws
import Derived.Deep.DeepCutAuto
import Derived.Deep.CutBlock
import Derived.Deep.RegionHeld3
import Derived.Laws.Rows
import Derived.Lib.AppendStr
import Derived.ArgAppend
import Derived.Laws.IdiomCopy
import Derived.OrdersHeld
import Derived.Laws.BitsLemmas
import Derived.RowKit
import Derived.Laws.Tables
import Derived.Test.YtpdpoegaoomgpaaWWords
import Derived.Test.YtpdpoegaoomgpaaWLast
import Derived.Test.YtpdpoegaoomgpaaWTab
import Derived.Test.YtpdpoegaoomgpaaWFour
import Derived.Test.YtpdpoegaoomgpaaWQPut
import Derived.Test.YtpdpoegaoomgpaaWApart
import Derived.Test.YtpdpoegaoomgpaaWArr
import Derived.Test.YtpdpoegaoomgpaaWZeros
import Derived.Test.YtpdpoegaoomgpaaWFoot
import Derived.Test.YtpdpoegaoomgpaaWKept
import Derived.Test.YtpdpoegaoomgpaaWShare
import Derived.Test.YtpdpoegaoomgpaaWN
import Derived.Test.YtpdpoegaoomgpaaWFootNe
import Derived.Test.YtpdpoegaoomgpaaWAt
import Derived.Test.YtpdpoegaoomgpaaWEqStruct
import Derived.Test.YtpdpoegaoomgpaaWRepsOne
import Derived.Test.YtpdpoegaoomgpaaWInv
import Derived.Test.YtpdpoegaoomgpaaWInvWords
import Derived.Test.YtpdpoegaoomgpaaWGuard
import Derived.Test.YtpdpoegaoomgpaaWNEv
import Derived.Test.YtpdpoegaoomgpaaWMore
namespace Go.Proofs.Ytpdpoegaoomgpaa.PFnExactHashMore
open Go.RowKit Go.Proofs.YtpdpoegaoomgpaaW.PrintWords Go.Proofs.YtpdpoegaoomgpaaW.PrintLast Go.Proofs.YtpdpoegaoomgpaaW.PrintMore
attribute [local go_sem] max2_int min2_int max_two min_two max_three min_three max_four min_four   -- for this text's walks alone
set_option linter.unusedVariables false
set_option linter.unusedSimpArgs false



def errW : Option Int → Value
  | none => .nilIface
  | some c => .iface 0 (.int .i64 c)
theorem errW_none : errW none = .nilIface := rfl
theorem errW_some (c : Int) : errW (some c) = .iface 0 (.int .i64 c) := rfl

theorem info3 : (Try.prog.info? 3).map (fun i => (i.zero, i.size, i.bytes)) = some (some (.int .i64 0), 1, 8) := by kernel_rfl
theorem info5 : (Try.prog.info? 5).map (fun i => (i.zero, i.size, i.bytes)) = some (some (.int .u8 0), 1, 1) := by kernel_rfl
theorem info43 : (Try.prog.info? 43).map (fun i => (i.zero, i.size, i.bytes)) = some (some (.int .u32 0), 1, 4) := by kernel_rfl
-- the values' own types

end Go.Proofs.Ytpdpoegaoomgpaa.PFnExactHashMore

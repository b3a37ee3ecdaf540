-- Written by this session's program wip/myprint.py, after the kit's print.
import Derived.Test.YthlakoofnnnlgaaProg
import Derived.Below
import Derived.Deep.Draws
import Derived.Deep.AppendLies
import Derived.Maps.AppendAt
import Derived.OwnWalk
import Derived.Laws.BytesArg
import Derived.Laws.MakeOwn
import Derived.Laws.OwnMore
import Derived.Deep.OwnRows
import Derived.Tactics
import Derived.Lib.ConvBytes
import Derived.Laws.Slices
import Derived.WalkKit
import Derived.KernelRfl
import Derived.RowKit3
import Derived.Deep.LoopGhost
import Derived.Deep.QuietTactic
import Derived.BigQuiet
import Derived.WideLaws
import Derived.Deep.DeepCutAuto
import Derived.Deep.CutBlock
import Derived.Deep.RegionHeld3
import Derived.Laws.Rows
import Derived.Lib.AppendStr
import Derived.ArgAppend
import Derived.Laws.IdiomCopy
import Derived.OrdersHeld
import Derived.Laws.BitsLemmas
import Derived.RowKit
import Derived.Laws.Tables
import Derived.Test.YthlakoofnnnlgaaShelf
import Derived.Test.YthlakoofnnnlgaaWWords
import Derived.Test.YthlakoofnnnlgaaWLast
import Derived.Test.YthlakoofnnnlgaaWTab
import Derived.Test.YthlakoofnnnlgaaWFour
import Derived.Test.YthlakoofnnnlgaaWQPut
import Derived.Test.YthlakoofnnnlgaaWApart
import Derived.Test.YthlakoofnnnlgaaWArr
import Derived.Test.YthlakoofnnnlgaaWZeros
import Derived.Test.YthlakoofnnnlgaaWFoot
import Derived.Test.YthlakoofnnnlgaaWKept
import Derived.Test.YthlakoofnnnlgaaWShare
import Derived.Test.YthlakoofnnnlgaaWN
import Derived.Test.YthlakoofnnnlgaaWFootNe
import Derived.Test.YthlakoofnnnlgaaWAt
import Derived.Test.YthlakoofnnnlgaaWEqStruct
import Derived.Test.YthlakoofnnnlgaaWRepsOne
import Derived.Test.YthlakoofnnnlgaaWInv
import Derived.Test.YthlakoofnnnlgaaWInvWords
import Derived.Test.YthlakoofnnnlgaaWGuard
import Derived.Test.YthlakoofnnnlgaaWNEv
import Derived.Test.YthlakoofnnnlgaaWMore
namespace Go.Proofs.Ythlakoofnnnlgaa.PFnExactSignText
open Go.RowKit Go.Proofs.YthlakoofnnnlgaaW.PrintWords Go.Proofs.YthlakoofnnnlgaaW.PrintLast Go.Proofs.YthlakoofnnnlgaaW.PrintMore
attribute [local go_sem] max2_int min2_int max_two min_two max_three min_three max_four min_four   -- for this text's walks alone
set_option linter.unusedVariables false
set_option linter.unusedSimpArgs false



def errW : Option Int → Value
  | none => .nilIface
  | some c => .iface 0 (.int .i64 c)
theorem errW_none : errW none = .nilIface := rfl
theorem errW_some (c : Int) : errW (some c) = .iface 0 (.int .i64 c) := rfl

theorem info3 : (Try.prog.info? 3).map (fun i => (i.zero, i.size, i.bytes)) = some (some (.int .i64 0), 1, 8) := by kernel_rfl
theorem info5 : (Try.prog.info? 5).map (fun i => (i.zero, i.size, i.bytes)) = some (some (.int .u8 0), 1, 1) := by kernel_rfl
theorem info95 : (Try.prog.info? 95).map (fun i => (i.zero, i.size, i.bytes)) = some (some (.int .u32 0), 1, 4) := by kernel_rfl
-- the values' own types

end Go.Proofs.Ythlakoofnnnlgaa.PFnExactSignText

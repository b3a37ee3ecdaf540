-- Written by this session's program wip/myprint.py, after the kit's print.
import Derived.Test.YtgepaoikhfofmadDoorPFnExactPrefixTextx0
import Derived.Test.YtgepaoikhfofmadDoorPFnExactPrefixTextx1
import Derived.Test.YtgepaoikhfofmadDoorPFnExactPrefixTextx2
namespace Go.Proofs.YtgepaoikhfofmadDoor.PFnExactPrefixText
open Go.RowKit Go.Proofs.YtgepaoikhfofmadDoorW.PrintWords Go.Proofs.YtgepaoikhfofmadDoorW.PrintLast Go.Proofs.YtgepaoikhfofmadDoorW.PrintMore
attribute [local go_sem] max2_int min2_int max_two min_two max_three min_three max_four min_four   -- for this text's walks alone
set_option linter.unusedVariables false
set_option linter.unusedSimpArgs false

end Go.Proofs.YtgepaoikhfofmadDoor.PFnExactPrefixText

-- Written by this session's program wip/myprint.py, after the kit's print.
import Derived.Test.YtgepaoikhfofmacDoorPAddrTextx0
import Derived.Test.YtgepaoikhfofmacDoorPAddrTextx1
namespace Go.Proofs.YtgepaoikhfofmacDoor.PAddrText
open Go.RowKit Go.Proofs.YtgepaoikhfofmacDoorW.PrintWords Go.Proofs.YtgepaoikhfofmacDoorW.PrintLast Go.Proofs.YtgepaoikhfofmacDoorW.PrintMore
attribute [local go_sem] max2_int min2_int max_two min_two max_three min_three max_four min_four   -- for this text's walks alone
set_option linter.unusedVariables false
set_option linter.unusedSimpArgs false

end Go.Proofs.YtgepaoikhfofmacDoor.PAddrText

-- Written by this session's program wip/myprint.py, after the kit's print.
import Derived.Test.YtgepaoikhfofmaaPFnTurnedx0
import Derived.Test.YtgepaoikhfofmaaPFnTurnedx9
import Derived.Test.YtgepaoikhfofmaaPFnTurnedx1
import Derived.Test.YtgepaoikhfofmaaPFnTurnedx2
namespace Go.Proofs.Ytgepaoikhfofmaa.PFnTurned
open Go.RowKit Go.Proofs.YtgepaoikhfofmaaW.PrintWords Go.Proofs.YtgepaoikhfofmaaW.PrintLast Go.Proofs.YtgepaoikhfofmaaW.PrintMore
attribute [local go_sem] max2_int min2_int max_two min_two max_three min_three max_four min_four   -- for this text's walks alone
set_option linter.unusedVariables false
set_option linter.unusedSimpArgs false

end Go.Proofs.Ytgepaoikhfofmaa.PFnTurned

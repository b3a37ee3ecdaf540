-- Written by this session's program wip/myprint.py, after the kit's print.
import Derived.Test.YtpdpoegaoomgpaaPFnExactHashMorex0
import Derived.Test.YtpdpoegaoomgpaaPFnExactHashMorex1
import Derived.Test.YtpdpoegaoomgpaaPFnExactHashMorex2
import Derived.Test.YtpdpoegaoomgpaaPFnExactHashMorex3
import Derived.Test.YtpdpoegaoomgpaaPFnExactHashMorex4
import Derived.Test.YtpdpoegaoomgpaaPFnExactHashMorex5
namespace Go.Proofs.Ytpdpoegaoomgpaa.PFnExactHashMore
open Go.RowKit Go.Proofs.YtpdpoegaoomgpaaW.PrintWords Go.Proofs.YtpdpoegaoomgpaaW.PrintLast Go.Proofs.YtpdpoegaoomgpaaW.PrintMore
attribute [local go_sem] max2_int min2_int max_two min_two max_three min_three max_four min_four   -- for this text's walks alone
set_option linter.unusedVariables false
set_option linter.unusedSimpArgs false

end Go.Proofs.Ytpdpoegaoomgpaa.PFnExactHashMore

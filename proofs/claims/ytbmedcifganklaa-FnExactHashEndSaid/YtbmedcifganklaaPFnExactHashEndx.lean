-- Written by this session's program wip/myprint.py, after the kit's print.
import Derived.Test.YtbmedcifganklaaPFnExactHashEndx0
import Derived.Test.YtbmedcifganklaaPFnExactHashEndx1
import Derived.Test.YtbmedcifganklaaPFnExactHashEndx2
import Derived.Test.YtbmedcifganklaaPFnExactHashEndx3
import Derived.Test.YtbmedcifganklaaPFnExactHashEndx4
import Derived.Test.YtbmedcifganklaaPFnExactHashEndx5
import Derived.Test.YtbmedcifganklaaPFnExactHashEndx6
namespace Go.Proofs.Ytbmedcifganklaa.PFnExactHashEnd
open Go.RowKit Go.Proofs.YtbmedcifganklaaW.PrintWords Go.Proofs.YtbmedcifganklaaW.PrintLast Go.Proofs.YtbmedcifganklaaW.PrintMore
attribute [local go_sem] max2_int min2_int max_two min_two max_three min_three max_four min_four   -- for this text's walks alone
set_option linter.unusedVariables false
set_option linter.unusedSimpArgs false

end Go.Proofs.Ytbmedcifganklaa.PFnExactHashEnd

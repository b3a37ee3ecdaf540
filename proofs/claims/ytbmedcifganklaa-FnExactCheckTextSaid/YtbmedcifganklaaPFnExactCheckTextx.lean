-- Written by this session's program wip/myprint.py, after the kit's print.
import Derived.Test.YtbmedcifganklaaPFnExactCheckTextx0
import Derived.Test.YtbmedcifganklaaPFnExactCheckTextx1
import Derived.Test.YtbmedcifganklaaPFnExactCheckTextx2
import Derived.Test.YtbmedcifganklaaPFnExactCheckTextx3
import Derived.Test.YtbmedcifganklaaPFnExactCheckTextx4
import Derived.Test.YtbmedcifganklaaPFnExactCheckTextx5
import Derived.Test.YtbmedcifganklaaPFnExactCheckTextx6
import Derived.Test.YtbmedcifganklaaPFnExactCheckTextx7
import Derived.Test.YtbmedcifganklaaPFnExactCheckTextx8
namespace Go.Proofs.Ytbmedcifganklaa.PFnExactCheckText
open Go.RowKit Go.Proofs.YtbmedcifganklaaW.PrintWords Go.Proofs.YtbmedcifganklaaW.PrintLast Go.Proofs.YtbmedcifganklaaW.PrintMore
attribute [local go_sem] max2_int min2_int max_two min_two max_three min_three max_four min_four   -- for this text's walks alone
set_option linter.unusedVariables false
set_option linter.unusedSimpArgs false

end Go.Proofs.Ytbmedcifganklaa.PFnExactCheckText

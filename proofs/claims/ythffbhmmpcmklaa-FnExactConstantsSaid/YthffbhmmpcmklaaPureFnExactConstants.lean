/- The program's constants are the document's. -/
import Derived.Test.YthffbhmmpcmklaaPFnExactConstantsx1
import Derived.OpenShut
import Derived.Laws.BitsLemmas
namespace Go.Proofs.Ythffbhmmpcmklaa.Pure.FnExactConstants
open Go Go.RowKit Go.Proofs.Ythffbhmmpcmklaa.PFnExactConstants Go.Proofs.YthffbhmmpcmklaaW.PrintWords Go.Proofs.YthffbhmmpcmklaaW.PrintLast Go.Proofs.YthffbhmmpcmklaaW.PrintMore
set_option linter.unusedVariables false
set_option linter.unusedSimpArgs false

theorem FnExactConstants : laws_FnExactConstants.Pure := rfl

end Go.Proofs.Ythffbhmmpcmklaa.Pure.FnExactConstants
namespace Go.Proofs.Ythffbhmmpcmklaa.Pure
theorem FnExactConstants : Go.Proofs.Ythffbhmmpcmklaa.PFnExactConstants.laws_FnExactConstants.Pure := Go.Proofs.Ythffbhmmpcmklaa.Pure.FnExactConstants.FnExactConstants
end Go.Proofs.Ythffbhmmpcmklaa.Pure

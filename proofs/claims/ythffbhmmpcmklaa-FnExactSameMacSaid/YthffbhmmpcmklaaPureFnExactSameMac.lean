/- SameMac of the program is SameMac of the reference, for all texts. -/
import Derived.Test.YthffbhmmpcmklaaPFnExactSameMacx1
import Derived.OpenShut
import Derived.Laws.BitsLemmas
namespace Go.Proofs.Ythffbhmmpcmklaa.Pure.FnExactSameMac
open Go Go.RowKit Go.Proofs.Ythffbhmmpcmklaa.PFnExactSameMac Go.Proofs.YthffbhmmpcmklaaW.PrintWords Go.Proofs.YthffbhmmpcmklaaW.PrintLast Go.Proofs.YthffbhmmpcmklaaW.PrintMore
set_option linter.unusedVariables false
set_option linter.unusedSimpArgs false

theorem FnExactSameMac : laws_FnExactSameMac.Pure := by
  intro a b _ _
  unfold laws_FnExactSameMac.f spec_SameMac.f impl_SameMac.f
  simp

end Go.Proofs.Ythffbhmmpcmklaa.Pure.FnExactSameMac
namespace Go.Proofs.Ythffbhmmpcmklaa.Pure
theorem FnExactSameMac : Go.Proofs.Ythffbhmmpcmklaa.PFnExactSameMac.laws_FnExactSameMac.Pure := Go.Proofs.Ythffbhmmpcmklaa.Pure.FnExactSameMac.FnExactSameMac
end Go.Proofs.Ythffbhmmpcmklaa.Pure

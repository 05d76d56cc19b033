/- The pure statement of FnExactConstants: the law's function answers true. -/
import Derived.Test.YtbgocnhhpbpilaaPFnExactConstantsx1
import Derived.Test.YtbgocnhhpbpilaaMBase
import Derived.KernelRfl
set_option linter.unusedVariables false
set_option linter.unusedSimpArgs false
namespace Go.Proofs.Ytbgocnhhpbpilaa.Pure
open Go.RowKit Go.Proofs.Ytbgocnhhpbpilaa.PFnExactConstants Go.Proofs.YtbgocnhhpbpilaaW.PrintWords Go.Proofs.YtbgocnhhpbpilaaW.PrintLast Go.Proofs.YtbgocnhhpbpilaaW.PrintMore Go.Proofs.Ytbgocnhhpbpilaa.MBase
theorem FnExactConstants : laws_FnExactConstants.Pure := by
  first | rfl | (unfold laws_FnExactConstants.Pure; decide)

end Go.Proofs.Ytbgocnhhpbpilaa.Pure

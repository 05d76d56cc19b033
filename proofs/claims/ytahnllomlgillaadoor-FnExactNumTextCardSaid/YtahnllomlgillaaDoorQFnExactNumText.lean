/- How the arguments of FnExactNumText lie in memory, and the one plain statement that is left of it. -/
import Derived.Test.YtahnllomlgillaaDoorGNumTextx4
import Derived.Test.YtahnllomlgillaaDoorMOpen
import Derived.KernelRfl
set_option linter.unusedVariables false
set_option linter.unusedSimpArgs false
namespace Go.Proofs.YtahnllomlgillaaDoor.GNumText
open Go.RowKit Go.ChangeShapes Go.WideShapes Go.Proofs.YtahnllomlgillaaDoorW.PrintWords Go.Proofs.YtahnllomlgillaaDoorW.PrintLast Go.Proofs.YtahnllomlgillaaDoorW.PrintMore
theorem opens22 : Opens Tryd.prog 22 Kd.float okF := opens_float Tryd.underlying22
/-- THE ONE PURE STATEMENT of laws_FnExactNumText. -/
def laws_FnExactNumText.Pure2 : Prop := ∀ (y0 : Nat), okF y0 → ∃ k, laws_FnExactNumText.f k y0 = some true
end Go.Proofs.YtahnllomlgillaaDoor.GNumText

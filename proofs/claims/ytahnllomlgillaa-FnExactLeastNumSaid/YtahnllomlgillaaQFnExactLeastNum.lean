/- How the arguments of FnExactLeastNum lie in memory, and the one plain statement that is left of it. -/
import Derived.Test.YtahnllomlgillaaGLeastNumx2
import Derived.Test.YtahnllomlgillaaMOpen
import Derived.KernelRfl
set_option linter.unusedVariables false
set_option linter.unusedSimpArgs false
namespace Go.Proofs.Ytahnllomlgillaa.GLeastNum
open Go.RowKit Go.ChangeShapes Go.WideShapes Go.Proofs.YtahnllomlgillaaW.PrintWords Go.Proofs.YtahnllomlgillaaW.PrintLast Go.Proofs.YtahnllomlgillaaW.PrintMore
theorem opens22 : Opens Try.prog 22 Kd.float okF := opens_float Try.underlying22
/-- THE ONE PURE STATEMENT of laws_FnExactLeastNum. -/
def laws_FnExactLeastNum.Pure2 : Prop := ∀ (y0 : Nat) (y1 : Nat), okF y0 → okF y1 → ∃ k, laws_FnExactLeastNum.f k y0 y1 = some true
end Go.Proofs.Ytahnllomlgillaa.GLeastNum

/- How the arguments of FnExactPartsOf lie in memory, and the one plain statement that is left of it. -/
import Derived.Test.YtahnllomlgillaaGPartsOfx2
import Derived.Test.YtahnllomlgillaaMOpen
import Derived.KernelRfl
set_option linter.unusedVariables false
set_option linter.unusedSimpArgs false
namespace Go.Proofs.Ytahnllomlgillaa.GPartsOf
open Go.RowKit Go.ChangeShapes Go.WideShapes Go.Proofs.YtahnllomlgillaaW.PrintWords Go.Proofs.YtahnllomlgillaaW.PrintLast Go.Proofs.YtahnllomlgillaaW.PrintMore
theorem opens22 : Opens Try.prog 22 Kd.float okF := opens_float Try.underlying22
/-- THE ONE PURE STATEMENT of laws_FnExactPartsOf. -/
def laws_FnExactPartsOf.Pure2 : Prop := ∀ (y0 : Nat), okF y0 → ∃ k, laws_FnExactPartsOf.f k y0 = some true
end Go.Proofs.Ytahnllomlgillaa.GPartsOf

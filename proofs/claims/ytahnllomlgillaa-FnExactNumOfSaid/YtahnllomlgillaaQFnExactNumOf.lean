/- How the arguments of FnExactNumOf lie in memory, and the one plain statement that is left of it. -/
import Derived.Test.YtahnllomlgillaaGNumOfx3
import Derived.Test.YtahnllomlgillaaMOpen
import Derived.KernelRfl
set_option linter.unusedVariables false
set_option linter.unusedSimpArgs false
namespace Go.Proofs.Ytahnllomlgillaa.GNumOf
open Go.RowKit Go.ChangeShapes Go.WideShapes Go.Proofs.YtahnllomlgillaaW.PrintWords Go.Proofs.YtahnllomlgillaaW.PrintLast Go.Proofs.YtahnllomlgillaaW.PrintMore
theorem opens3 : Opens Try.prog 3 (Kd.int .i64) okI := opens_int Try.underlying3
/-- THE ONE PURE STATEMENT of laws_FnExactNumOf. -/
def laws_FnExactNumOf.Pure2 : Prop := ∀ (y0 : Int) (y1 : Int), okI y0 → okI y1 → ∃ k, laws_FnExactNumOf.f k y0 y1 = some true
end Go.Proofs.Ytahnllomlgillaa.GNumOf

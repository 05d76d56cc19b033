/- How the arguments of FnExactToIndex lie in memory, and the one plain statement that is left of it. -/
import Derived.Test.YtahnllomlgillaaGToIndexx1
import Derived.Test.YtahnllomlgillaaMOpen
import Derived.KernelRfl
set_option linter.unusedVariables false
set_option linter.unusedSimpArgs false
namespace Go.Proofs.Ytahnllomlgillaa.GToIndex
open Go.RowKit Go.ChangeShapes Go.WideShapes Go.Proofs.YtahnllomlgillaaW.PrintWords Go.Proofs.YtahnllomlgillaaW.PrintLast Go.Proofs.YtahnllomlgillaaW.PrintMore
theorem opens22 : Opens Try.prog 22 Kd.float okF := opens_float Try.underlying22
theorem opens3 : Opens Try.prog 3 (Kd.int .i64) okI := opens_int Try.underlying3
/-- THE ONE PURE STATEMENT of laws_FnExactToIndex. -/
def laws_FnExactToIndex.Pure2 : Prop := ∀ (y0 : Nat) (y1 : Int), okF y0 → okI y1 → ∃ _k : Nat, laws_FnExactToIndex.f y0 y1 = some true
end Go.Proofs.Ytahnllomlgillaa.GToIndex

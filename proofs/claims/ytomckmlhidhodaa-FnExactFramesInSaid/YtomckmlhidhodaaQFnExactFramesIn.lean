/- How the arguments of FnExactFramesIn lie in memory, and the one plain statement that is left of it. -/
import Derived.Test.YtomckmlhidhodaaGFramesInx4
import Derived.Test.YtomckmlhidhodaaMOpen
import Derived.KernelRfl
set_option linter.unusedVariables false
set_option linter.unusedSimpArgs false
namespace Go.Proofs.Ytomckmlhidhodaa.GFramesIn
open Go.RowKit Go.ChangeShapes Go.WideShapes Go.Proofs.YtomckmlhidhodaaW.PrintWords Go.Proofs.YtomckmlhidhodaaW.PrintLast Go.Proofs.YtomckmlhidhodaaW.PrintMore
theorem opens9 : Opens Try.prog 9 Kd.string okS := opens_string Try.underlying9
/-- THE ONE PURE STATEMENT of laws_FnExactFramesIn. -/
def laws_FnExactFramesIn.Pure2 : Prop := ∀ (y0 : ByteArray), okS y0 → y0.size ≤ 140737488351232 → ∃ k, laws_FnExactFramesIn.f k y0 = some true
end Go.Proofs.Ytomckmlhidhodaa.GFramesIn

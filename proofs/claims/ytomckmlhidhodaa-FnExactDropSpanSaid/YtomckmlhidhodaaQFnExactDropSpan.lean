/- How the arguments of FnExactDropSpan lie in memory, and the one plain statement that is left of it. -/
import Derived.Test.YtomckmlhidhodaaGDropSpanx3
import Derived.Test.YtomckmlhidhodaaMOpen
import Derived.KernelRfl
set_option linter.unusedVariables false
set_option linter.unusedSimpArgs false
namespace Go.Proofs.Ytomckmlhidhodaa.GDropSpan
open Go.RowKit Go.ChangeShapes Go.WideShapes Go.Proofs.YtomckmlhidhodaaW.PrintWords Go.Proofs.YtomckmlhidhodaaW.PrintLast Go.Proofs.YtomckmlhidhodaaW.PrintMore
theorem opens3 : Opens Try.prog 3 (Kd.int .i64) okI := opens_int Try.underlying3
theorem opens22 : Opens Try.prog 22 (Kd.slice 3 (Kd.int .i64)) (okL okI) := opens_slice Try.underlying22 (by kernel_rfl) opens3
/-- THE ONE PURE STATEMENT of laws_FnExactDropSpan. -/
def laws_FnExactDropSpan.Pure2 : Prop := ∀ (y0 : List Int) (y1 : Int) (y2 : Int), (okL okI) y0 → y0.length * 8 ≤ 140737488351232 → okI y1 → okI y2 → ∃ k, laws_FnExactDropSpan.f k y0 y1 y2 = some true
end Go.Proofs.Ytomckmlhidhodaa.GDropSpan

/- How the arguments of FnExactMeetCuts lie in memory, and the one plain statement that is left of it. -/
import Derived.Test.YtomckmlhidhodaaGMeetCutsx4
import Derived.Test.YtomckmlhidhodaaMOpen
import Derived.KernelRfl
set_option linter.unusedVariables false
set_option linter.unusedSimpArgs false
namespace Go.Proofs.Ytomckmlhidhodaa.GMeetCuts
open Go.RowKit Go.ChangeShapes Go.WideShapes Go.Proofs.YtomckmlhidhodaaW.PrintWords Go.Proofs.YtomckmlhidhodaaW.PrintLast Go.Proofs.YtomckmlhidhodaaW.PrintMore
theorem opens3 : Opens Try.prog 3 (Kd.int .i64) okI := opens_int Try.underlying3
theorem opens22 : Opens Try.prog 22 (Kd.slice 3 (Kd.int .i64)) (okL okI) := opens_slice Try.underlying22 (by kernel_rfl) opens3
/-- THE ONE PURE STATEMENT of laws_FnExactMeetCuts. -/
def laws_FnExactMeetCuts.Pure2 : Prop := ∀ (y0 : List Int) (y1 : List Int), (okL okI) y0 → y0.length * 8 ≤ 140737488351232 → (okL okI) y1 → y1.length * 8 ≤ 140737488351232 → ∃ k, laws_FnExactMeetCuts.f k y0 y1 = some true
end Go.Proofs.Ytomckmlhidhodaa.GMeetCuts

/- How the arguments of FnExactCycleIn lie in memory, and the one plain statement that is left of it. -/
import Derived.Test.YtpfbiopcfbokbaaGCycleInx6
import Derived.Test.YtpfbiopcfbokbaaMOpen
import Derived.KernelRfl
set_option linter.unusedVariables false
set_option linter.unusedSimpArgs false
namespace Go.Proofs.Ytpfbiopcfbokbaa.GCycleIn
open Go.RowKit Go.ChangeShapes Go.WideShapes Go.Proofs.YtpfbiopcfbokbaaW.PrintWords Go.Proofs.YtpfbiopcfbokbaaW.PrintLast Go.Proofs.YtpfbiopcfbokbaaW.PrintMore
theorem opens3 : Opens Try.prog 3 (Kd.int .i64) okI := opens_int Try.underlying3
theorem opens22 : Opens Try.prog 22 (Kd.slice 3 (Kd.int .i64)) (okL okI) := opens_slice Try.underlying22 (by kernel_rfl) opens3
theorem opens33 : Opens Try.prog 33 (Kd.slice 22 (Kd.slice 3 (Kd.int .i64))) (okL (okL okI)) := opens_slice Try.underlying33 (by kernel_rfl) opens22
/-- THE ONE PURE STATEMENT of laws_FnExactCycleIn. -/
def laws_FnExactCycleIn.Pure2 : Prop := ∀ (y0 : List (List Int)), (okL (okL okI)) y0 → y0.length * 24 ≤ 140737488351232 → ∃ k, laws_FnExactCycleIn.f k y0 = some true
end Go.Proofs.Ytpfbiopcfbokbaa.GCycleIn

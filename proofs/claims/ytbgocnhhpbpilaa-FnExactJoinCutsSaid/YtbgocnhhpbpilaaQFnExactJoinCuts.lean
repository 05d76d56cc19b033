/- How the arguments of FnExactJoinCuts lie in memory, and the one plain statement that is left of it. -/
import Derived.Test.YtbgocnhhpbpilaaGJoinCutsx3
import Derived.Test.YtbgocnhhpbpilaaMOpen
import Derived.KernelRfl
set_option linter.unusedVariables false
set_option linter.unusedSimpArgs false
namespace Go.Proofs.Ytbgocnhhpbpilaa.GJoinCuts
open Go.RowKit Go.ChangeShapes Go.WideShapes Go.Proofs.YtbgocnhhpbpilaaW.PrintWords Go.Proofs.YtbgocnhhpbpilaaW.PrintLast Go.Proofs.YtbgocnhhpbpilaaW.PrintMore
theorem opens3 : Opens Try.prog 3 (Kd.int .i64) okI := opens_int Try.underlying3
theorem opens40 : Opens Try.prog 40 (Kd.slice 3 (Kd.int .i64)) (okL okI) := opens_slice Try.underlying40 (by kernel_rfl) opens3
/-- THE ONE PURE STATEMENT of laws_FnExactJoinCuts. -/
def laws_FnExactJoinCuts.Pure2 : Prop := ∀ (y0 : List Int) (y1 : List Int), (okL okI) y0 → y0.length * 8 ≤ 140737488351232 → (okL okI) y1 → y1.length * 8 ≤ 140737488351232 → ∃ k, laws_FnExactJoinCuts.f k y0 y1 = some true
end Go.Proofs.Ytbgocnhhpbpilaa.GJoinCuts

/- How the arguments of FnExactPctAt lie in memory, and the one plain statement that is left of it. -/
import Derived.Test.YtpfbiopcfbokbaaGPctAtx5
import Derived.Test.YtpfbiopcfbokbaaMOpen
import Derived.KernelRfl
set_option linter.unusedVariables false
set_option linter.unusedSimpArgs false
namespace Go.Proofs.Ytpfbiopcfbokbaa.GPctAt
open Go.RowKit Go.ChangeShapes Go.WideShapes Go.Proofs.YtpfbiopcfbokbaaW.PrintWords Go.Proofs.YtpfbiopcfbokbaaW.PrintLast Go.Proofs.YtpfbiopcfbokbaaW.PrintMore
theorem opens3 : Opens Try.prog 3 (Kd.int .i64) okI := opens_int Try.underlying3
/-- THE ONE PURE STATEMENT of laws_FnExactPctAt. -/
def laws_FnExactPctAt.Pure2 : Prop := ∀ (y0 : Int) (y1 : Int) (y2 : Int) (y3 : Int), okI y0 → okI y1 → okI y2 → okI y3 → ∃ k, laws_FnExactPctAt.f k y0 y1 y2 y3 = some true
end Go.Proofs.Ytpfbiopcfbokbaa.GPctAt

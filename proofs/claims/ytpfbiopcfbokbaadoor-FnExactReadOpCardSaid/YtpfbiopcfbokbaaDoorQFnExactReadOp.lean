/- How the arguments of FnExactReadOp lie in memory, and the one plain statement that is left of it. -/
import Derived.Test.YtpfbiopcfbokbaaDoorGReadOpx13
import Derived.Test.YtpfbiopcfbokbaaDoorMOpen
import Derived.KernelRfl
set_option linter.unusedVariables false
set_option linter.unusedSimpArgs false
namespace Go.Proofs.YtpfbiopcfbokbaaDoor.GReadOp
open Go.RowKit Go.ChangeShapes Go.WideShapes Go.Proofs.YtpfbiopcfbokbaaDoorW.PrintWords Go.Proofs.YtpfbiopcfbokbaaDoorW.PrintLast Go.Proofs.YtpfbiopcfbokbaaDoorW.PrintMore
theorem opens9 : Opens Tryd.prog 9 Kd.string okS := opens_string Tryd.underlying9
/-- THE ONE PURE STATEMENT of laws_FnExactReadOp. -/
def laws_FnExactReadOp.Pure2 : Prop := ∀ (y0 : ByteArray), okS y0 → y0.size ≤ 140737488351232 → ∃ k, laws_FnExactReadOp.f k y0 = some true
end Go.Proofs.YtpfbiopcfbokbaaDoor.GReadOp

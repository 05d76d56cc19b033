/- How the arguments of FnExactReadPct lie in memory, and the one plain statement that is left of it. -/
import Derived.Test.YthdpiceiemkjlaaDoorGReadPctx5
import Derived.Test.YthdpiceiemkjlaaDoorMOpen
import Derived.KernelRfl
set_option linter.unusedVariables false
set_option linter.unusedSimpArgs false
namespace Go.Proofs.YthdpiceiemkjlaaDoor.GReadPct
open Go.RowKit Go.ChangeShapes Go.WideShapes Go.Proofs.YthdpiceiemkjlaaDoorW.PrintWords Go.Proofs.YthdpiceiemkjlaaDoorW.PrintLast Go.Proofs.YthdpiceiemkjlaaDoorW.PrintMore
theorem opens9 : Opens Tryd.prog 9 Kd.string okS := opens_string Tryd.underlying9
/-- THE ONE PURE STATEMENT of laws_FnExactReadPct. -/
def laws_FnExactReadPct.Pure2 : Prop := ∀ (y0 : ByteArray), okS y0 → y0.size ≤ 140737488351232 → ∃ k, laws_FnExactReadPct.f k y0 = some true
end Go.Proofs.YthdpiceiemkjlaaDoor.GReadPct

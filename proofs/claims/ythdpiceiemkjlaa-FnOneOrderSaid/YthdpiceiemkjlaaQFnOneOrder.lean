/- How the arguments of FnOneOrder lie in memory, and the one plain statement that is left of it. -/
import Derived.Test.YthdpiceiemkjlaaGFnOneOrderx18
import Derived.Test.YthdpiceiemkjlaaMOpen
import Derived.KernelRfl
set_option linter.unusedVariables false
set_option linter.unusedSimpArgs false
namespace Go.Proofs.Ythdpiceiemkjlaa.GFnOneOrder
open Go.RowKit Go.ChangeShapes Go.WideShapes Go.Proofs.YthdpiceiemkjlaaW.PrintWords Go.Proofs.YthdpiceiemkjlaaW.PrintLast Go.Proofs.YthdpiceiemkjlaaW.PrintMore
theorem opens5 : Opens Try.prog 5 (Kd.int .u8) okU8 := opens_u8 Try.underlying5
theorem opens45 : Opens Try.prog 45 (Kd.slice 5 (Kd.int .u8)) (okL okU8) := opens_slice Try.underlying45 (by kernel_rfl) opens5
/-- THE ONE PURE STATEMENT of laws_FnOneOrder. -/
def laws_FnOneOrder.Pure2 : Prop := ∀ (y0 : List Int) (y1 : List Int), (okL okU8) y0 → y0.length * 1 ≤ 140737488351232 → (okL okU8) y1 → y1.length * 1 ≤ 140737488351232 → ∃ k, laws_FnOneOrder.f k y0 y1 = some true
end Go.Proofs.Ythdpiceiemkjlaa.GFnOneOrder

/- How the arguments of FnNumText lie in memory, and the one plain statement that is left of it. -/
import Derived.Test.YthdpiceiemkjlaaDoorGFnNumTextx8
import Derived.Test.YthdpiceiemkjlaaDoorMOpen
import Derived.KernelRfl
set_option linter.unusedVariables false
set_option linter.unusedSimpArgs false
namespace Go.Proofs.YthdpiceiemkjlaaDoor.GFnNumText
open Go.RowKit Go.ChangeShapes Go.WideShapes Go.Proofs.YthdpiceiemkjlaaDoorW.PrintWords Go.Proofs.YthdpiceiemkjlaaDoorW.PrintLast Go.Proofs.YthdpiceiemkjlaaDoorW.PrintMore
theorem opens5 : Opens Tryd.prog 5 (Kd.int .u8) okU8 := opens_u8 Tryd.underlying5
theorem opens22 : Opens Tryd.prog 22 (Kd.slice 5 (Kd.int .u8)) (okL okU8) := opens_slice Tryd.underlying22 (by kernel_rfl) opens5
/-- THE ONE PURE STATEMENT of laws_FnNumText. -/
def laws_FnNumText.Pure2 : Prop := ∀ (y0 : List Int) (y1 : List Int), (okL okU8) y0 → y0.length * 1 ≤ 140737488351232 → (okL okU8) y1 → y1.length * 1 ≤ 140737488351232 → ∃ k, laws_FnNumText.f k y0 y1 = some true
end Go.Proofs.YthdpiceiemkjlaaDoor.GFnNumText

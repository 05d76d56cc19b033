/- How the arguments of FnExactPutFrame lie in memory, and the one plain statement that is left of it. -/
import Derived.Test.YtomckmlhidhodaaGPutFramex4
import Derived.Test.YtomckmlhidhodaaMOpen
import Derived.KernelRfl
set_option linter.unusedVariables false
set_option linter.unusedSimpArgs false
namespace Go.Proofs.Ytomckmlhidhodaa.GPutFrame
open Go.RowKit Go.ChangeShapes Go.WideShapes Go.Proofs.YtomckmlhidhodaaW.PrintWords Go.Proofs.YtomckmlhidhodaaW.PrintLast Go.Proofs.YtomckmlhidhodaaW.PrintMore
theorem opens9 : Opens Try.prog 9 Kd.string okS := opens_string Try.underlying9
def ok30 (x : S30) : Prop := okS x.f0 ∧ okS x.f1
theorem opens30 : Opens Try.prog 30 k30 ok30 := by
  intro H enc w base spare held fuel cs x h
  obtain ⟨xs, n, _, _, hl, hlen, hf⟩ := DataW.trod_struct Try.underlying30 h
  have hcs : cs.length = 2 := hl.trans (by kernel_rfl)
  have hxs : xs.length = 2 := hlen
  have h0 := hf 0 _ rfl
  obtain ⟨z0, K0, o0⟩ := opens_field opens9 (by omega) h0
  have L0 : Kd.string.K w z0 ((cs.drop 0).take 1) := cast (by kernel_rfl) K0
  have h1 := hf 1 _ rfl
  obtain ⟨z1, K1, o1⟩ := opens_field opens9 (by omega) h1
  have L1 : Kd.string.K w z1 ((cs.drop 1).take 1) := cast (by kernel_rfl) K1
  exact ⟨⟨z0, z1⟩, (pair_K 1 (by simpa using L0) (by have q := L1; rw [List.take_of_length_le (by simp; omega)] at q; simpa using q)), ⟨o0, o1⟩⟩
/-- THE ONE PURE STATEMENT of laws_FnExactPutFrame. -/
def laws_FnExactPutFrame.Pure2 : Prop := ∀ (y0 : S30) (y1 : ByteArray), ok30 y0 → okS y1 → y1.size ≤ 140737488351232 → ∃ k, laws_FnExactPutFrame.f k y0.f0 y0.f1 y1 = some true
end Go.Proofs.Ytomckmlhidhodaa.GPutFrame

/- How the arguments of FnExactFoundText lie in memory, and the one plain statement that is left of it. -/
import Derived.Test.YtpfbiopcfbokbaaDoorGFoundTextx5
import Derived.Test.YtpfbiopcfbokbaaDoorMOpen
import Derived.KernelRfl
set_option linter.unusedVariables false
set_option linter.unusedSimpArgs false
namespace Go.Proofs.YtpfbiopcfbokbaaDoor.GFoundText
open Go.RowKit Go.ChangeShapes Go.WideShapes Go.Proofs.YtpfbiopcfbokbaaDoorW.PrintWords Go.Proofs.YtpfbiopcfbokbaaDoorW.PrintLast Go.Proofs.YtpfbiopcfbokbaaDoorW.PrintMore
theorem opens9 : Opens Tryd.prog 9 Kd.string okS := opens_string Tryd.underlying9
theorem opens3 : Opens Tryd.prog 3 (Kd.int .i64) okI := opens_int Tryd.underlying3
theorem opens22 : Opens Tryd.prog 22 (Kd.slice 3 (Kd.int .i64)) (okL okI) := opens_slice Tryd.underlying22 (by kernel_rfl) opens3
def ok30 (x : S30) : Prop := okS x.f0 ∧ (okL okI) x.f1
theorem opens30 : Opens Tryd.prog 30 k30 ok30 := by
  intro H enc w base spare held fuel cs x h
  obtain ⟨xs, n, _, _, hl, hlen, hf⟩ := DataW.trod_struct Tryd.underlying30 h
  have hcs : cs.length = 2 := hl.trans (by kernel_rfl)
  have hxs : xs.length = 2 := hlen
  have h0 := hf 0 _ rfl
  obtain ⟨z0, K0, o0⟩ := opens_field opens9 (by omega) h0
  have L0 : Kd.string.K w z0 ((cs.drop 0).take 1) := cast (by kernel_rfl) K0
  have h1 := hf 1 _ rfl
  obtain ⟨z1, K1, o1⟩ := opens_field opens22 (by omega) h1
  have L1 : (Kd.slice 3 (Kd.int .i64)).K w z1 ((cs.drop 1).take 1) := cast (by kernel_rfl) K1
  exact ⟨⟨z0, z1⟩, (pair_K 1 (by simpa using L0) (by have q := L1; rw [List.take_of_length_le (by simp; omega)] at q; simpa using q)), ⟨o0, o1⟩⟩
/-- THE ONE PURE STATEMENT of laws_FnExactFoundText. -/
def laws_FnExactFoundText.Pure2 : Prop := ∀ (y0 : S30), ok30 y0 → ∃ k, laws_FnExactFoundText.f k y0.f0 y0.f1 = some true
end Go.Proofs.YtpfbiopcfbokbaaDoor.GFoundText

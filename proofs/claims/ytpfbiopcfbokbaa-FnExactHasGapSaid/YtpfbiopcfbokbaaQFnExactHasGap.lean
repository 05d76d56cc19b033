/- How the arguments of FnExactHasGap lie in memory, and the one plain statement that is left of it. -/
import Derived.Test.YtpfbiopcfbokbaaGHasGapx5
import Derived.Test.YtpfbiopcfbokbaaMOpen
import Derived.KernelRfl
set_option linter.unusedVariables false
set_option linter.unusedSimpArgs false
namespace Go.Proofs.Ytpfbiopcfbokbaa.GHasGap
open Go.RowKit Go.ChangeShapes Go.WideShapes Go.Proofs.YtpfbiopcfbokbaaW.PrintWords Go.Proofs.YtpfbiopcfbokbaaW.PrintLast Go.Proofs.YtpfbiopcfbokbaaW.PrintMore
theorem opens3 : Opens Try.prog 3 (Kd.int .i64) okI := opens_int Try.underlying3
theorem opens133 : Opens Try.prog 133 Kd.float okF := opens_float Try.underlying133
def ok167 (x : S167) : Prop := okI x.f0 ∧ okI x.f1 ∧ okF x.f2
theorem opens167 : Opens Try.prog 167 k167 ok167 := by
  intro H enc w base spare held fuel cs x h
  obtain ⟨xs, n, _, _, hl, hlen, hf⟩ := DataW.trod_struct Try.underlying167 h
  have hcs : cs.length = 3 := hl.trans (by kernel_rfl)
  have hxs : xs.length = 3 := hlen
  have h0 := hf 0 _ rfl
  obtain ⟨z0, K0, o0⟩ := opens_field opens3 (by omega) h0
  have L0 : (Kd.int .i64).K w z0 ((cs.drop 0).take 1) := cast (by kernel_rfl) K0
  have h1 := hf 1 _ rfl
  obtain ⟨z1, K1, o1⟩ := opens_field opens3 (by omega) h1
  have L1 : (Kd.int .i64).K w z1 ((cs.drop 1).take 1) := cast (by kernel_rfl) K1
  have h2 := hf 2 _ rfl
  obtain ⟨z2, K2, o2⟩ := opens_field opens133 (by omega) h2
  have L2 : Kd.float.K w z2 ((cs.drop 2).take 1) := cast (by kernel_rfl) K2
  exact ⟨⟨z0, z1, z2⟩, (pair_K 1 (by simpa using L0) (pair_K 1 (by simpa using L1) (by have q := L2; rw [List.take_of_length_le (by simp; omega)] at q; simpa using q))), ⟨o0, o1, o2⟩⟩
theorem opens130 : Opens Try.prog 130 (Kd.slice 167 k167) (okL ok167) := opens_slice Try.underlying130 (by kernel_rfl) opens167
theorem opens61 : Opens Try.prog 61 (Kd.slice 130 (Kd.slice 167 k167)) (okL (okL ok167)) := opens_slice Try.underlying61 (by kernel_rfl) opens130
/-- THE ONE PURE STATEMENT of laws_FnExactHasGap. -/
def laws_FnExactHasGap.Pure2 : Prop := ∀ (y0 : List (List (S167))), (okL (okL ok167)) y0 → y0.length * 24 ≤ 140737488351232 → ∃ k, laws_FnExactHasGap.f k y0 = some true
end Go.Proofs.Ytpfbiopcfbokbaa.GHasGap

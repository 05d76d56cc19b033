/- How the arguments of FnExactNewPairs lie in memory, and the one plain statement that is left of it. -/
import Derived.Test.YtpfbiopcfbokbaaGNewPairsx9
import Derived.Test.YtpfbiopcfbokbaaMOpen
import Derived.KernelRfl
set_option linter.unusedVariables false
set_option linter.unusedSimpArgs false
namespace Go.Proofs.Ytpfbiopcfbokbaa.GNewPairs
open Go.RowKit Go.ChangeShapes Go.WideShapes Go.Proofs.YtpfbiopcfbokbaaW.PrintWords Go.Proofs.YtpfbiopcfbokbaaW.PrintLast Go.Proofs.YtpfbiopcfbokbaaW.PrintMore
theorem opens3 : Opens Try.prog 3 (Kd.int .i64) okI := opens_int Try.underlying3
def ok107 (x : S107) : Prop := okI x.f0 ∧ okI x.f1 ∧ okI x.f2
theorem opens107 : Opens Try.prog 107 k107 ok107 := by
  intro H enc w base spare held fuel cs x h
  obtain ⟨xs, n, _, _, hl, hlen, hf⟩ := DataW.trod_struct Try.underlying107 h
  have hcs : cs.length = 3 := hl.trans (by kernel_rfl)
  have hxs : xs.length = 3 := hlen
  have h0 := hf 0 _ rfl
  obtain ⟨z0, K0, o0⟩ := opens_field opens3 (by omega) h0
  have L0 : (Kd.int .i64).K w z0 ((cs.drop 0).take 1) := cast (by kernel_rfl) K0
  have h1 := hf 1 _ rfl
  obtain ⟨z1, K1, o1⟩ := opens_field opens3 (by omega) h1
  have L1 : (Kd.int .i64).K w z1 ((cs.drop 1).take 1) := cast (by kernel_rfl) K1
  have h2 := hf 2 _ rfl
  obtain ⟨z2, K2, o2⟩ := opens_field opens3 (by omega) h2
  have L2 : (Kd.int .i64).K w z2 ((cs.drop 2).take 1) := cast (by kernel_rfl) K2
  exact ⟨⟨z0, z1, z2⟩, (pair_K 1 (by simpa using L0) (pair_K 1 (by simpa using L1) (by have q := L2; rw [List.take_of_length_le (by simp; omega)] at q; simpa using q))), ⟨o0, o1, o2⟩⟩
theorem opens44 : Opens Try.prog 44 (Kd.slice 107 k107) (okL ok107) := opens_slice Try.underlying44 (by kernel_rfl) opens107
/-- THE ONE PURE STATEMENT of laws_FnExactNewPairs. -/
def laws_FnExactNewPairs.Pure2 : Prop := ∀ (y0 : List (S107)) (y1 : List (S107)), (okL ok107) y0 → y0.length * 24 ≤ 140737488351232 → (okL ok107) y1 → y1.length * 24 ≤ 140737488351232 → ∃ k, laws_FnExactNewPairs.f k y0 y1 = some true
end Go.Proofs.Ytpfbiopcfbokbaa.GNewPairs

/- How the arguments of FnExactAheadIn lie in memory, and the one plain statement that is left of it. -/
import Derived.Test.YtpfbiopcfbokbaaGAheadInx9
import Derived.Test.YtpfbiopcfbokbaaMOpen
import Derived.KernelRfl
set_option linter.unusedVariables false
set_option linter.unusedSimpArgs false
namespace Go.Proofs.Ytpfbiopcfbokbaa.GAheadIn
open Go.RowKit Go.ChangeShapes Go.WideShapes Go.Proofs.YtpfbiopcfbokbaaW.PrintWords Go.Proofs.YtpfbiopcfbokbaaW.PrintLast Go.Proofs.YtpfbiopcfbokbaaW.PrintMore
theorem opens3 : Opens Try.prog 3 (Kd.int .i64) okI := opens_int Try.underlying3
def ok120 (x : S120) : Prop := okI x.f0 ∧ okI x.f1 ∧ okI x.f2 ∧ okI x.f3 ∧ okI x.f4
theorem opens120 : Opens Try.prog 120 k120 ok120 := by
  intro H enc w base spare held fuel cs x h
  obtain ⟨xs, n, _, _, hl, hlen, hf⟩ := DataW.trod_struct Try.underlying120 h
  have hcs : cs.length = 5 := hl.trans (by kernel_rfl)
  have hxs : xs.length = 5 := hlen
  have h0 := hf 0 _ rfl
  obtain ⟨z0, K0, o0⟩ := opens_field opens3 (by omega) h0
  have L0 : (Kd.int .i64).K w z0 ((cs.drop 0).take 1) := cast (by kernel_rfl) K0
  have h1 := hf 1 _ rfl
  obtain ⟨z1, K1, o1⟩ := opens_field opens3 (by omega) h1
  have L1 : (Kd.int .i64).K w z1 ((cs.drop 1).take 1) := cast (by kernel_rfl) K1
  have h2 := hf 2 _ rfl
  obtain ⟨z2, K2, o2⟩ := opens_field opens3 (by omega) h2
  have L2 : (Kd.int .i64).K w z2 ((cs.drop 2).take 1) := cast (by kernel_rfl) K2
  have h3 := hf 3 _ rfl
  obtain ⟨z3, K3, o3⟩ := opens_field opens3 (by omega) h3
  have L3 : (Kd.int .i64).K w z3 ((cs.drop 3).take 1) := cast (by kernel_rfl) K3
  have h4 := hf 4 _ rfl
  obtain ⟨z4, K4, o4⟩ := opens_field opens3 (by omega) h4
  have L4 : (Kd.int .i64).K w z4 ((cs.drop 4).take 1) := cast (by kernel_rfl) K4
  exact ⟨⟨z0, z1, z2, z3, z4⟩, (pair_K 1 (by simpa using L0) (pair_K 1 (by simpa using L1) (pair_K 1 (by simpa using L2) (pair_K 1 (by simpa using L3) (by have q := L4; rw [List.take_of_length_le (by simp; omega)] at q; simpa using q))))), ⟨o0, o1, o2, o3, o4⟩⟩
theorem opens53 : Opens Try.prog 53 (Kd.slice 120 k120) (okL ok120) := opens_slice Try.underlying53 (by kernel_rfl) opens120
/-- THE ONE PURE STATEMENT of laws_FnExactAheadIn. -/
def laws_FnExactAheadIn.Pure2 : Prop := ∀ (y0 : List (S120)) (y1 : Int) (y2 : Int), (okL ok120) y0 → y0.length * 40 ≤ 140737488351232 → okI y1 → okI y2 → ∃ k, laws_FnExactAheadIn.f k y0 y1 y2 = some true
end Go.Proofs.Ytpfbiopcfbokbaa.GAheadIn

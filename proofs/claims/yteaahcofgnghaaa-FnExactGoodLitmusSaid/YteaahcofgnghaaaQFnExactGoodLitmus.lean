/- How the arguments of FnExactGoodLitmus lie in memory, and the one plain statement that is left of it. -/
import Derived.Test.YteaahcofgnghaaaGGoodLitmusx4
import Derived.Test.YteaahcofgnghaaaMOpen
import Derived.KernelRfl
set_option linter.unusedVariables false
set_option linter.unusedSimpArgs false
namespace Go.Proofs.Yteaahcofgnghaaa.GGoodLitmus
open Go.RowKit Go.ChangeShapes Go.WideShapes Go.Proofs.YteaahcofgnghaaaW.PrintWords Go.Proofs.YteaahcofgnghaaaW.PrintLast Go.Proofs.YteaahcofgnghaaaW.PrintMore
theorem opens3 : Opens Try.prog 3 (Kd.int .i64) okI := opens_int Try.underlying3
theorem opens90 : Opens Try.prog 90 Kd.float okF := opens_float Try.underlying90
def ok159 (x : S159) : Prop := okI x.f0 ∧ okI x.f1 ∧ okF x.f2
theorem opens159 : Opens Try.prog 159 k159 ok159 := by
  intro H enc w base spare held fuel cs x h
  obtain ⟨xs, n, _, _, hl, hlen, hf⟩ := DataW.trod_struct Try.underlying159 h
  have hcs : cs.length = 3 := hl.trans (by kernel_rfl)
  have hxs : xs.length = 3 := hlen
  have h0 := hf 0 _ rfl
  obtain ⟨z0, K0, o0⟩ := opens_field opens3 (by omega) h0
  have L0 : (Kd.int .i64).K w z0 ((cs.drop 0).take 1) := cast (by kernel_rfl) K0
  have h1 := hf 1 _ rfl
  obtain ⟨z1, K1, o1⟩ := opens_field opens3 (by omega) h1
  have L1 : (Kd.int .i64).K w z1 ((cs.drop 1).take 1) := cast (by kernel_rfl) K1
  have h2 := hf 2 _ rfl
  obtain ⟨z2, K2, o2⟩ := opens_field opens90 (by omega) h2
  have L2 : Kd.float.K w z2 ((cs.drop 2).take 1) := cast (by kernel_rfl) K2
  exact ⟨⟨z0, z1, z2⟩, (pair_K 1 (by simpa using L0) (pair_K 1 (by simpa using L1) (by have q := L2; rw [List.take_of_length_le (by simp; omega)] at q; simpa using q))), ⟨o0, o1, o2⟩⟩
theorem opens122 : Opens Try.prog 122 (Kd.slice 159 k159) (okL ok159) := opens_slice Try.underlying122 (by kernel_rfl) opens159
theorem opens60 : Opens Try.prog 60 (Kd.slice 122 (Kd.slice 159 k159)) (okL (okL ok159)) := opens_slice Try.underlying60 (by kernel_rfl) opens122
/-- THE ONE PURE STATEMENT of laws_FnExactGoodLitmus. -/
def laws_FnExactGoodLitmus.Pure2 : Prop := ∀ (y0 : List (List (S159))), (okL (okL ok159)) y0 → y0.length * 24 ≤ 140737488351232 → ∃ k, laws_FnExactGoodLitmus.f k y0 = some true
end Go.Proofs.Yteaahcofgnghaaa.GGoodLitmus

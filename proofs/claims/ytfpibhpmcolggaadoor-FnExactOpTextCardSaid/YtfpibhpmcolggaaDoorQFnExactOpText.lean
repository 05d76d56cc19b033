/- How the arguments of FnExactOpText lie in memory, and the one plain statement that is left of it. -/
import Derived.Test.YtfpibhpmcolggaaDoorGOpTextx7
import Derived.Test.YtfpibhpmcolggaaDoorMOpen
import Derived.KernelRfl
set_option linter.unusedVariables false
set_option linter.unusedSimpArgs false
namespace Go.Proofs.YtfpibhpmcolggaaDoor.GOpText
open Go.RowKit Go.ChangeShapes Go.WideShapes Go.Proofs.YtfpibhpmcolggaaDoorW.PrintWords Go.Proofs.YtfpibhpmcolggaaDoorW.PrintLast Go.Proofs.YtfpibhpmcolggaaDoorW.PrintMore
theorem opens3 : Opens Tryd.prog 3 (Kd.int .i64) okI := opens_int Tryd.underlying3
theorem opens22 : Opens Tryd.prog 22 Kd.float okF := opens_float Tryd.underlying22
def ok24 (x : S24) : Prop := okI x.f0 ∧ okI x.f1 ∧ okI x.f2 ∧ okF x.f3
theorem opens24 : Opens Tryd.prog 24 k24 ok24 := by
  intro H enc w base spare held fuel cs x h
  obtain ⟨xs, n, _, _, hl, hlen, hf⟩ := DataW.trod_struct Tryd.underlying24 h
  have hcs : cs.length = 4 := hl.trans (by kernel_rfl)
  have hxs : xs.length = 4 := hlen
  have h0 := hf 0 _ rfl
  obtain ⟨z0, K0, o0⟩ := opens_field opens3 (by omega) h0
  have L0 : (Kd.int .i64).K w z0 ((cs.drop 0).take 1) := cast (by kernel_rfl) K0
  have h1 := hf 1 _ rfl
  obtain ⟨z1, K1, o1⟩ := opens_field opens3 (by omega) h1
  have L1 : (Kd.int .i64).K w z1 ((cs.drop 1).take 1) := cast (by kernel_rfl) K1
  have h2 := hf 2 _ rfl
  obtain ⟨z2, K2, o2⟩ := opens_field opens3 (by omega) h2
  have L2 : (Kd.int .i64).K w z2 ((cs.drop 2).take 1) := cast (by kernel_rfl) K2
  have h3 := hf 3 _ rfl
  obtain ⟨z3, K3, o3⟩ := opens_field opens22 (by omega) h3
  have L3 : Kd.float.K w z3 ((cs.drop 3).take 1) := cast (by kernel_rfl) K3
  exact ⟨⟨z0, z1, z2, z3⟩, (pair_K 1 (by simpa using L0) (pair_K 1 (by simpa using L1) (pair_K 1 (by simpa using L2) (by have q := L3; rw [List.take_of_length_le (by simp; omega)] at q; simpa using q)))), ⟨o0, o1, o2, o3⟩⟩
/-- THE ONE PURE STATEMENT of laws_FnExactOpText. -/
def laws_FnExactOpText.Pure2 : Prop := ∀ (y0 : S24), ok24 y0 → ∃ k, laws_FnExactOpText.f k y0.f0 y0.f1 y0.f2 y0.f3 = some true
end Go.Proofs.YtfpibhpmcolggaaDoor.GOpText

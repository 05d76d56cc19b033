/- How the arguments of FnExactSameState lie in memory, and the one plain statement that is left of it. -/
import Derived.Test.YteaahcofgnghaaaGSameStatex6
import Derived.Test.YteaahcofgnghaaaMOpen
import Derived.KernelRfl
set_option linter.unusedVariables false
set_option linter.unusedSimpArgs false
namespace Go.Proofs.Yteaahcofgnghaaa.GSameState
open Go.RowKit Go.ChangeShapes Go.WideShapes Go.Proofs.YteaahcofgnghaaaW.PrintWords Go.Proofs.YteaahcofgnghaaaW.PrintLast Go.Proofs.YteaahcofgnghaaaW.PrintMore
theorem opens3 : Opens Try.prog 3 (Kd.int .i64) okI := opens_int Try.underlying3
theorem opens90 : Opens Try.prog 90 Kd.float okF := opens_float Try.underlying90
theorem opens37 : Opens Try.prog 37 (Kd.slice 90 Kd.float) (okL okF) := opens_slice Try.underlying37 (by kernel_rfl) opens90
def ok163 (x : S163) : Prop := okI x.f0 ∧ okI x.f1 ∧ okI x.f2 ∧ okI x.f3 ∧ okI x.f4 ∧ (okL okF) x.f5
theorem opens163 : Opens Try.prog 163 k163 ok163 := by
  intro H enc w base spare held fuel cs x h
  obtain ⟨xs, n, _, _, hl, hlen, hf⟩ := DataW.trod_struct Try.underlying163 h
  have hcs : cs.length = 6 := hl.trans (by kernel_rfl)
  have hxs : xs.length = 6 := hlen
  have h0 := hf 0 _ rfl
  obtain ⟨z0, K0, o0⟩ := opens_field opens3 (by omega) h0
  have L0 : (Kd.int .i64).K w z0 ((cs.drop 0).take 1) := cast (by kernel_rfl) K0
  have h1 := hf 1 _ rfl
  obtain ⟨z1, K1, o1⟩ := opens_field opens3 (by omega) h1
  have L1 : (Kd.int .i64).K w z1 ((cs.drop 1).take 1) := cast (by kernel_rfl) K1
  have h2 := hf 2 _ rfl
  obtain ⟨z2, K2, o2⟩ := opens_field opens3 (by omega) h2
  have L2 : (Kd.int .i64).K w z2 ((cs.drop 2).take 1) := cast (by kernel_rfl) K2
  have h3 := hf 3 _ rfl
  obtain ⟨z3, K3, o3⟩ := opens_field opens3 (by omega) h3
  have L3 : (Kd.int .i64).K w z3 ((cs.drop 3).take 1) := cast (by kernel_rfl) K3
  have h4 := hf 4 _ rfl
  obtain ⟨z4, K4, o4⟩ := opens_field opens3 (by omega) h4
  have L4 : (Kd.int .i64).K w z4 ((cs.drop 4).take 1) := cast (by kernel_rfl) K4
  have h5 := hf 5 _ rfl
  obtain ⟨z5, K5, o5⟩ := opens_field opens37 (by omega) h5
  have L5 : (Kd.slice 90 Kd.float).K w z5 ((cs.drop 5).take 1) := cast (by kernel_rfl) K5
  exact ⟨⟨z0, z1, z2, z3, z4, z5⟩, (pair_K 1 (by simpa using L0) (pair_K 1 (by simpa using L1) (pair_K 1 (by simpa using L2) (pair_K 1 (by simpa using L3) (pair_K 1 (by simpa using L4) (by have q := L5; rw [List.take_of_length_le (by simp; omega)] at q; simpa using q)))))), ⟨o0, o1, o2, o3, o4, o5⟩⟩
theorem opens68 : Opens Try.prog 68 (Kd.slice 163 k163) (okL ok163) := opens_slice Try.underlying68 (by kernel_rfl) opens163
theorem opens36 : Opens Try.prog 36 (Kd.slice 3 (Kd.int .i64)) (okL okI) := opens_slice Try.underlying36 (by kernel_rfl) opens3
def ok70 (x : S70) : Prop := (okL ok163) x.f0 ∧ (okL okF) x.f1 ∧ (okL okI) x.f2 ∧ okI x.f3
theorem opens70 : Opens Try.prog 70 k70 ok70 := by
  intro H enc w base spare held fuel cs x h
  obtain ⟨xs, n, _, _, hl, hlen, hf⟩ := DataW.trod_struct Try.underlying70 h
  have hcs : cs.length = 4 := hl.trans (by kernel_rfl)
  have hxs : xs.length = 4 := hlen
  have h0 := hf 0 _ rfl
  obtain ⟨z0, K0, o0⟩ := opens_field opens68 (by omega) h0
  have L0 : (Kd.slice 163 k163).K w z0 ((cs.drop 0).take 1) := cast (by kernel_rfl) K0
  have h1 := hf 1 _ rfl
  obtain ⟨z1, K1, o1⟩ := opens_field opens37 (by omega) h1
  have L1 : (Kd.slice 90 Kd.float).K w z1 ((cs.drop 1).take 1) := cast (by kernel_rfl) K1
  have h2 := hf 2 _ rfl
  obtain ⟨z2, K2, o2⟩ := opens_field opens36 (by omega) h2
  have L2 : (Kd.slice 3 (Kd.int .i64)).K w z2 ((cs.drop 2).take 1) := cast (by kernel_rfl) K2
  have h3 := hf 3 _ rfl
  obtain ⟨z3, K3, o3⟩ := opens_field opens3 (by omega) h3
  have L3 : (Kd.int .i64).K w z3 ((cs.drop 3).take 1) := cast (by kernel_rfl) K3
  exact ⟨⟨z0, z1, z2, z3⟩, (pair_K 1 (by simpa using L0) (pair_K 1 (by simpa using L1) (pair_K 1 (by simpa using L2) (by have q := L3; rw [List.take_of_length_le (by simp; omega)] at q; simpa using q)))), ⟨o0, o1, o2, o3⟩⟩
/-- THE ONE PURE STATEMENT of laws_FnExactSameState. -/
def laws_FnExactSameState.Pure2 : Prop := ∀ (y0 : S70) (y1 : S70), ok70 y0 → ok70 y1 → ∃ k, laws_FnExactSameState.f k y0.f0 y0.f1 y0.f2 y0.f3 y1.f0 y1.f1 y1.f2 y1.f3 = some true
end Go.Proofs.Yteaahcofgnghaaa.GSameState

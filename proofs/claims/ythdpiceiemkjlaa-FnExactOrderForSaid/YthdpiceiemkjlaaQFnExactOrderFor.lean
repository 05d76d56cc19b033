/- How the arguments of FnExactOrderFor lie in memory, and the one plain statement that is left of it. -/
import Derived.Test.YthdpiceiemkjlaaGOrderForx11
import Derived.Test.YthdpiceiemkjlaaMOpen
import Derived.KernelRfl
set_option linter.unusedVariables false
set_option linter.unusedSimpArgs false
namespace Go.Proofs.Ythdpiceiemkjlaa.GOrderFor
open Go.RowKit Go.ChangeShapes Go.WideShapes Go.Proofs.YthdpiceiemkjlaaW.PrintWords Go.Proofs.YthdpiceiemkjlaaW.PrintLast Go.Proofs.YthdpiceiemkjlaaW.PrintMore
theorem opens3 : Opens Try.prog 3 (Kd.int .i64) okI := opens_int Try.underlying3
theorem opens4 : Opens Try.prog 4 Kd.bool okB := opens_bool Try.underlying4
theorem opens55 : Opens Try.prog 55 Kd.float okF := opens_float Try.underlying55
def ok79 (x : S79) : Prop := okI x.f0 ∧ okI x.f1 ∧ okI x.f2 ∧ okB x.f3 ∧ okF x.f4
theorem opens79 : Opens Try.prog 79 k79 ok79 := by
  intro H enc w base spare held fuel cs x h
  obtain ⟨xs, n, _, _, hl, hlen, hf⟩ := DataW.trod_struct Try.underlying79 h
  have hcs : cs.length = 5 := hl.trans (by kernel_rfl)
  have hxs : xs.length = 5 := hlen
  have h0 := hf 0 _ rfl
  obtain ⟨z0, K0, o0⟩ := opens_field opens3 (by omega) h0
  have L0 : (Kd.int .i64).K w z0 ((cs.drop 0).take 1) := cast (by kernel_rfl) K0
  have h1 := hf 1 _ rfl
  obtain ⟨z1, K1, o1⟩ := opens_field opens3 (by omega) h1
  have L1 : (Kd.int .i64).K w z1 ((cs.drop 1).take 1) := cast (by kernel_rfl) K1
  have h2 := hf 2 _ rfl
  obtain ⟨z2, K2, o2⟩ := opens_field opens3 (by omega) h2
  have L2 : (Kd.int .i64).K w z2 ((cs.drop 2).take 1) := cast (by kernel_rfl) K2
  have h3 := hf 3 _ rfl
  obtain ⟨z3, K3, o3⟩ := opens_field opens4 (by omega) h3
  have L3 : Kd.bool.K w z3 ((cs.drop 3).take 1) := cast (by kernel_rfl) K3
  have h4 := hf 4 _ rfl
  obtain ⟨z4, K4, o4⟩ := opens_field opens55 (by omega) h4
  have L4 : Kd.float.K w z4 ((cs.drop 4).take 1) := cast (by kernel_rfl) K4
  exact ⟨⟨z0, z1, z2, z3, z4⟩, (pair_K 1 (by simpa using L0) (pair_K 1 (by simpa using L1) (pair_K 1 (by simpa using L2) (pair_K 1 (by simpa using L3) (by have q := L4; rw [List.take_of_length_le (by simp; omega)] at q; simpa using q))))), ⟨o0, o1, o2, o3, o4⟩⟩
theorem opens22 : Opens Try.prog 22 (Kd.slice 79 k79) (okL ok79) := opens_slice Try.underlying22 (by kernel_rfl) opens79
/-- THE ONE PURE STATEMENT of laws_FnExactOrderFor. -/
def laws_FnExactOrderFor.Pure2 : Prop := ∀ (y0 : Int) (y1 : List (S79)), okI y0 → (okL ok79) y1 → y1.length * 40 ≤ 140737488351232 → ∃ k, laws_FnExactOrderFor.f k y0 y1 = some true
end Go.Proofs.Ythdpiceiemkjlaa.GOrderFor

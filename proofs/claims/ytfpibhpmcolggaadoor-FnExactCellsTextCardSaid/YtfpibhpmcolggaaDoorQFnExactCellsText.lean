/- How the arguments of FnExactCellsText lie in memory, and the one plain statement that is left of it. -/
import Derived.Test.YtfpibhpmcolggaaDoorGCellsTextx7
import Derived.Test.YtfpibhpmcolggaaDoorMOpen
import Derived.KernelRfl
set_option linter.unusedVariables false
set_option linter.unusedSimpArgs false
namespace Go.Proofs.YtfpibhpmcolggaaDoor.GCellsText
open Go.RowKit Go.ChangeShapes Go.WideShapes Go.Proofs.YtfpibhpmcolggaaDoorW.PrintWords Go.Proofs.YtfpibhpmcolggaaDoorW.PrintLast Go.Proofs.YtfpibhpmcolggaaDoorW.PrintMore
theorem opens3 : Opens Tryd.prog 3 (Kd.int .i64) okI := opens_int Tryd.underlying3
theorem opens22 : Opens Tryd.prog 22 Kd.float okF := opens_float Tryd.underlying22
theorem opens35 : Opens Tryd.prog 35 (Kd.slice 22 Kd.float) (okL okF) := opens_slice Tryd.underlying35 (by kernel_rfl) opens22
def ok124 (x : S124) : Prop := okI x.f0 ∧ okI x.f1 ∧ okI x.f2 ∧ okI x.f3 ∧ okI x.f4 ∧ (okL okF) x.f5
theorem opens124 : Opens Tryd.prog 124 k124 ok124 := by
  intro H enc w base spare held fuel cs x h
  obtain ⟨xs, n, _, _, hl, hlen, hf⟩ := DataW.trod_struct Tryd.underlying124 h
  have hcs : cs.length = 6 := hl.trans (by kernel_rfl)
  have hxs : xs.length = 6 := hlen
  have h0 := hf 0 _ rfl
  obtain ⟨z0, K0, o0⟩ := opens_field opens3 (by omega) h0
  have L0 : (Kd.int .i64).K w z0 ((cs.drop 0).take 1) := cast (by kernel_rfl) K0
  have h1 := hf 1 _ rfl
  obtain ⟨z1, K1, o1⟩ := opens_field opens3 (by omega) h1
  have L1 : (Kd.int .i64).K w z1 ((cs.drop 1).take 1) := cast (by kernel_rfl) K1
  have h2 := hf 2 _ rfl
  obtain ⟨z2, K2, o2⟩ := opens_field opens3 (by omega) h2
  have L2 : (Kd.int .i64).K w z2 ((cs.drop 2).take 1) := cast (by kernel_rfl) K2
  have h3 := hf 3 _ rfl
  obtain ⟨z3, K3, o3⟩ := opens_field opens3 (by omega) h3
  have L3 : (Kd.int .i64).K w z3 ((cs.drop 3).take 1) := cast (by kernel_rfl) K3
  have h4 := hf 4 _ rfl
  obtain ⟨z4, K4, o4⟩ := opens_field opens3 (by omega) h4
  have L4 : (Kd.int .i64).K w z4 ((cs.drop 4).take 1) := cast (by kernel_rfl) K4
  have h5 := hf 5 _ rfl
  obtain ⟨z5, K5, o5⟩ := opens_field opens35 (by omega) h5
  have L5 : (Kd.slice 22 Kd.float).K w z5 ((cs.drop 5).take 1) := cast (by kernel_rfl) K5
  exact ⟨⟨z0, z1, z2, z3, z4, z5⟩, (pair_K 1 (by simpa using L0) (pair_K 1 (by simpa using L1) (pair_K 1 (by simpa using L2) (pair_K 1 (by simpa using L3) (pair_K 1 (by simpa using L4) (by have q := L5; rw [List.take_of_length_le (by simp; omega)] at q; simpa using q)))))), ⟨o0, o1, o2, o3, o4, o5⟩⟩
theorem opens34 : Opens Tryd.prog 34 (Kd.slice 124 k124) (okL ok124) := opens_slice Tryd.underlying34 (by kernel_rfl) opens124
theorem opens36 : Opens Tryd.prog 36 (Kd.slice 3 (Kd.int .i64)) (okL okI) := opens_slice Tryd.underlying36 (by kernel_rfl) opens3
def ok38 (x : S38) : Prop := (okL ok124) x.f0 ∧ (okL okF) x.f1 ∧ (okL okI) x.f2 ∧ okI x.f3
theorem opens38 : Opens Tryd.prog 38 k38 ok38 := by
  intro H enc w base spare held fuel cs x h
  obtain ⟨xs, n, _, _, hl, hlen, hf⟩ := DataW.trod_struct Tryd.underlying38 h
  have hcs : cs.length = 4 := hl.trans (by kernel_rfl)
  have hxs : xs.length = 4 := hlen
  have h0 := hf 0 _ rfl
  obtain ⟨z0, K0, o0⟩ := opens_field opens34 (by omega) h0
  have L0 : (Kd.slice 124 k124).K w z0 ((cs.drop 0).take 1) := cast (by kernel_rfl) K0
  have h1 := hf 1 _ rfl
  obtain ⟨z1, K1, o1⟩ := opens_field opens35 (by omega) h1
  have L1 : (Kd.slice 22 Kd.float).K w z1 ((cs.drop 1).take 1) := cast (by kernel_rfl) K1
  have h2 := hf 2 _ rfl
  obtain ⟨z2, K2, o2⟩ := opens_field opens36 (by omega) h2
  have L2 : (Kd.slice 3 (Kd.int .i64)).K w z2 ((cs.drop 2).take 1) := cast (by kernel_rfl) K2
  have h3 := hf 3 _ rfl
  obtain ⟨z3, K3, o3⟩ := opens_field opens3 (by omega) h3
  have L3 : (Kd.int .i64).K w z3 ((cs.drop 3).take 1) := cast (by kernel_rfl) K3
  exact ⟨⟨z0, z1, z2, z3⟩, (pair_K 1 (by simpa using L0) (pair_K 1 (by simpa using L1) (pair_K 1 (by simpa using L2) (by have q := L3; rw [List.take_of_length_le (by simp; omega)] at q; simpa using q)))), ⟨o0, o1, o2, o3⟩⟩
/-- THE ONE PURE STATEMENT of laws_FnExactCellsText. -/
def laws_FnExactCellsText.Pure2 : Prop := ∀ (y0 : S38), ok38 y0 → ∃ k, laws_FnExactCellsText.f k y0.f0 y0.f1 y0.f2 y0.f3 = some true
end Go.Proofs.YtfpibhpmcolggaaDoor.GCellsText

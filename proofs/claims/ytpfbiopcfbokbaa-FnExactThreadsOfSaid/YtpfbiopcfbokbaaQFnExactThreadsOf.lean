/- How the arguments of FnExactThreadsOf lie in memory, and the one plain statement that is left of it. -/
import Derived.Test.YtpfbiopcfbokbaaGThreadsOfx6
import Derived.Test.YtpfbiopcfbokbaaMOpen
import Derived.KernelRfl
set_option linter.unusedVariables false
set_option linter.unusedSimpArgs false
namespace Go.Proofs.Ytpfbiopcfbokbaa.GThreadsOf
open Go.RowKit Go.ChangeShapes Go.WideShapes Go.Proofs.YtpfbiopcfbokbaaW.PrintWords Go.Proofs.YtpfbiopcfbokbaaW.PrintLast Go.Proofs.YtpfbiopcfbokbaaW.PrintMore
theorem opens3 : Opens Try.prog 3 (Kd.int .i64) okI := opens_int Try.underlying3
def ok120 (x : S120) : Prop := okI x.f0 ∧ okI x.f1 ∧ okI x.f2 ∧ okI x.f3 ∧ okI x.f4
theorem opens120 : Opens Try.prog 120 k120 ok120 := by
  intro H enc w base spare held fuel cs x h
  obtain ⟨xs, n, _, _, hl, hlen, hf⟩ := DataW.trod_struct Try.underlying120 h
  have hcs : cs.length = 5 := hl.trans (by kernel_rfl)
  have hxs : xs.length = 5 := hlen
  have h0 := hf 0 _ rfl
  obtain ⟨z0, K0, o0⟩ := opens_field opens3 (by omega) h0
  have L0 : (Kd.int .i64).K w z0 ((cs.drop 0).take 1) := cast (by kernel_rfl) K0
  have h1 := hf 1 _ rfl
  obtain ⟨z1, K1, o1⟩ := opens_field opens3 (by omega) h1
  have L1 : (Kd.int .i64).K w z1 ((cs.drop 1).take 1) := cast (by kernel_rfl) K1
  have h2 := hf 2 _ rfl
  obtain ⟨z2, K2, o2⟩ := opens_field opens3 (by omega) h2
  have L2 : (Kd.int .i64).K w z2 ((cs.drop 2).take 1) := cast (by kernel_rfl) K2
  have h3 := hf 3 _ rfl
  obtain ⟨z3, K3, o3⟩ := opens_field opens3 (by omega) h3
  have L3 : (Kd.int .i64).K w z3 ((cs.drop 3).take 1) := cast (by kernel_rfl) K3
  have h4 := hf 4 _ rfl
  obtain ⟨z4, K4, o4⟩ := opens_field opens3 (by omega) h4
  have L4 : (Kd.int .i64).K w z4 ((cs.drop 4).take 1) := cast (by kernel_rfl) K4
  exact ⟨⟨z0, z1, z2, z3, z4⟩, (pair_K 1 (by simpa using L0) (pair_K 1 (by simpa using L1) (pair_K 1 (by simpa using L2) (pair_K 1 (by simpa using L3) (by have q := L4; rw [List.take_of_length_le (by simp; omega)] at q; simpa using q))))), ⟨o0, o1, o2, o3, o4⟩⟩
theorem opens53 : Opens Try.prog 53 (Kd.slice 120 k120) (okL ok120) := opens_slice Try.underlying53 (by kernel_rfl) opens120
theorem opens22 : Opens Try.prog 22 (Kd.slice 3 (Kd.int .i64)) (okL okI) := opens_slice Try.underlying22 (by kernel_rfl) opens3
theorem opens133 : Opens Try.prog 133 Kd.float okF := opens_float Try.underlying133
theorem opens69 : Opens Try.prog 69 (Kd.slice 133 Kd.float) (okL okF) := opens_slice Try.underlying69 (by kernel_rfl) opens133
def ok190 (x : S190) : Prop := okI x.f0 ∧ okI x.f1 ∧ okI x.f2 ∧ okI x.f3 ∧ okI x.f4 ∧ (okL okF) x.f5
theorem opens190 : Opens Try.prog 190 k190 ok190 := by
  intro H enc w base spare held fuel cs x h
  obtain ⟨xs, n, _, _, hl, hlen, hf⟩ := DataW.trod_struct Try.underlying190 h
  have hcs : cs.length = 6 := hl.trans (by kernel_rfl)
  have hxs : xs.length = 6 := hlen
  have h0 := hf 0 _ rfl
  obtain ⟨z0, K0, o0⟩ := opens_field opens3 (by omega) h0
  have L0 : (Kd.int .i64).K w z0 ((cs.drop 0).take 1) := cast (by kernel_rfl) K0
  have h1 := hf 1 _ rfl
  obtain ⟨z1, K1, o1⟩ := opens_field opens3 (by omega) h1
  have L1 : (Kd.int .i64).K w z1 ((cs.drop 1).take 1) := cast (by kernel_rfl) K1
  have h2 := hf 2 _ rfl
  obtain ⟨z2, K2, o2⟩ := opens_field opens3 (by omega) h2
  have L2 : (Kd.int .i64).K w z2 ((cs.drop 2).take 1) := cast (by kernel_rfl) K2
  have h3 := hf 3 _ rfl
  obtain ⟨z3, K3, o3⟩ := opens_field opens3 (by omega) h3
  have L3 : (Kd.int .i64).K w z3 ((cs.drop 3).take 1) := cast (by kernel_rfl) K3
  have h4 := hf 4 _ rfl
  obtain ⟨z4, K4, o4⟩ := opens_field opens3 (by omega) h4
  have L4 : (Kd.int .i64).K w z4 ((cs.drop 4).take 1) := cast (by kernel_rfl) K4
  have h5 := hf 5 _ rfl
  obtain ⟨z5, K5, o5⟩ := opens_field opens69 (by omega) h5
  have L5 : (Kd.slice 133 Kd.float).K w z5 ((cs.drop 5).take 1) := cast (by kernel_rfl) K5
  exact ⟨⟨z0, z1, z2, z3, z4, z5⟩, (pair_K 1 (by simpa using L0) (pair_K 1 (by simpa using L1) (pair_K 1 (by simpa using L2) (pair_K 1 (by simpa using L3) (pair_K 1 (by simpa using L4) (by have q := L5; rw [List.take_of_length_le (by simp; omega)] at q; simpa using q)))))), ⟨o0, o1, o2, o3, o4, o5⟩⟩
theorem opens68 : Opens Try.prog 68 (Kd.slice 190 k190) (okL ok190) := opens_slice Try.underlying68 (by kernel_rfl) opens190
def ok71 (x : S71) : Prop := (okL ok190) x.f0 ∧ (okL okF) x.f1 ∧ (okL okI) x.f2 ∧ okI x.f3
theorem opens71 : Opens Try.prog 71 k71 ok71 := by
  intro H enc w base spare held fuel cs x h
  obtain ⟨xs, n, _, _, hl, hlen, hf⟩ := DataW.trod_struct Try.underlying71 h
  have hcs : cs.length = 4 := hl.trans (by kernel_rfl)
  have hxs : xs.length = 4 := hlen
  have h0 := hf 0 _ rfl
  obtain ⟨z0, K0, o0⟩ := opens_field opens68 (by omega) h0
  have L0 : (Kd.slice 190 k190).K w z0 ((cs.drop 0).take 1) := cast (by kernel_rfl) K0
  have h1 := hf 1 _ rfl
  obtain ⟨z1, K1, o1⟩ := opens_field opens69 (by omega) h1
  have L1 : (Kd.slice 133 Kd.float).K w z1 ((cs.drop 1).take 1) := cast (by kernel_rfl) K1
  have h2 := hf 2 _ rfl
  obtain ⟨z2, K2, o2⟩ := opens_field opens22 (by omega) h2
  have L2 : (Kd.slice 3 (Kd.int .i64)).K w z2 ((cs.drop 2).take 1) := cast (by kernel_rfl) K2
  have h3 := hf 3 _ rfl
  obtain ⟨z3, K3, o3⟩ := opens_field opens3 (by omega) h3
  have L3 : (Kd.int .i64).K w z3 ((cs.drop 3).take 1) := cast (by kernel_rfl) K3
  exact ⟨⟨z0, z1, z2, z3⟩, (pair_K 1 (by simpa using L0) (pair_K 1 (by simpa using L1) (pair_K 1 (by simpa using L2) (by have q := L3; rw [List.take_of_length_le (by simp; omega)] at q; simpa using q)))), ⟨o0, o1, o2, o3⟩⟩
def ok73 (x : S73) : Prop := okI x.f0 ∧ (okL ok120) x.f1 ∧ (okL okI) x.f2 ∧ ok71 x.f3
theorem opens73 : Opens Try.prog 73 k73 ok73 := by
  intro H enc w base spare held fuel cs x h
  obtain ⟨xs, n, _, _, hl, hlen, hf⟩ := DataW.trod_struct Try.underlying73 h
  have hcs : cs.length = 7 := hl.trans (by kernel_rfl)
  have hxs : xs.length = 4 := hlen
  have h0 := hf 0 _ rfl
  obtain ⟨z0, K0, o0⟩ := opens_field opens3 (by omega) h0
  have L0 : (Kd.int .i64).K w z0 ((cs.drop 0).take 1) := cast (by kernel_rfl) K0
  have h1 := hf 1 _ rfl
  obtain ⟨z1, K1, o1⟩ := opens_field opens53 (by omega) h1
  have L1 : (Kd.slice 120 k120).K w z1 ((cs.drop 1).take 1) := cast (by kernel_rfl) K1
  have h2 := hf 2 _ rfl
  obtain ⟨z2, K2, o2⟩ := opens_field opens22 (by omega) h2
  have L2 : (Kd.slice 3 (Kd.int .i64)).K w z2 ((cs.drop 2).take 1) := cast (by kernel_rfl) K2
  have h3 := hf 3 _ rfl
  obtain ⟨z3, K3, o3⟩ := opens_field opens71 (by omega) h3
  have L3 : k71.K w z3 ((cs.drop 3).take 4) := cast (by kernel_rfl) K3
  exact ⟨⟨z0, z1, z2, z3⟩, (pair_K 1 (by simpa using L0) (pair_K 1 (by simpa using L1) (pair_K 1 (by simpa using L2) (by have q := L3; rw [List.take_of_length_le (by simp; omega)] at q; simpa using q)))), ⟨o0, o1, o2, o3⟩⟩
/-- THE ONE PURE STATEMENT of laws_FnExactThreadsOf. -/
def laws_FnExactThreadsOf.Pure2 : Prop := ∀ (y0 : S73), ok73 y0 → ∃ k, laws_FnExactThreadsOf.f k y0.f0 y0.f1 y0.f2 y0.f3.f0 y0.f3.f1 y0.f3.f2 y0.f3.f3 = some true
end Go.Proofs.Ytpfbiopcfbokbaa.GThreadsOf

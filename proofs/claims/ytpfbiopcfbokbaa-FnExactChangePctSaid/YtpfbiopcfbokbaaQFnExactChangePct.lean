/- How the arguments of FnExactChangePct lie in memory, and the one plain statement that is left of it. -/
import Derived.Test.YtpfbiopcfbokbaaGChangePctx8
import Derived.Test.YtpfbiopcfbokbaaMOpen
import Derived.KernelRfl
set_option linter.unusedVariables false
set_option linter.unusedSimpArgs false
namespace Go.Proofs.Ytpfbiopcfbokbaa.GChangePct
open Go.RowKit Go.ChangeShapes Go.WideShapes Go.Proofs.YtpfbiopcfbokbaaW.PrintWords Go.Proofs.YtpfbiopcfbokbaaW.PrintLast Go.Proofs.YtpfbiopcfbokbaaW.PrintMore
theorem opens3 : Opens Try.prog 3 (Kd.int .i64) okI := opens_int Try.underlying3
theorem opens22 : Opens Try.prog 22 (Kd.slice 3 (Kd.int .i64)) (okL okI) := opens_slice Try.underlying22 (by kernel_rfl) opens3
def ok24 (x : S24) : Prop := (okL okI) x.f0 ∧ (okL okI) x.f1
theorem opens24 : Opens Try.prog 24 k24 ok24 := by
  intro H enc w base spare held fuel cs x h
  obtain ⟨xs, n, _, _, hl, hlen, hf⟩ := DataW.trod_struct Try.underlying24 h
  have hcs : cs.length = 2 := hl.trans (by kernel_rfl)
  have hxs : xs.length = 2 := hlen
  have h0 := hf 0 _ rfl
  obtain ⟨z0, K0, o0⟩ := opens_field opens22 (by omega) h0
  have L0 : (Kd.slice 3 (Kd.int .i64)).K w z0 ((cs.drop 0).take 1) := cast (by kernel_rfl) K0
  have h1 := hf 1 _ rfl
  obtain ⟨z1, K1, o1⟩ := opens_field opens22 (by omega) h1
  have L1 : (Kd.slice 3 (Kd.int .i64)).K w z1 ((cs.drop 1).take 1) := cast (by kernel_rfl) K1
  exact ⟨⟨z0, z1⟩, (pair_K 1 (by simpa using L0) (by have q := L1; rw [List.take_of_length_le (by simp; omega)] at q; simpa using q)), ⟨o0, o1⟩⟩
/-- THE ONE PURE STATEMENT of laws_FnExactChangePct. -/
def laws_FnExactChangePct.Pure2 : Prop := ∀ (y0 : S24) (y1 : Int) (y2 : Int) (y3 : Int), ok24 y0 → okI y1 → okI y2 → okI y3 → ∃ k, laws_FnExactChangePct.f k y0.f0 y0.f1 y1 y2 y3 = some true
end Go.Proofs.Ytpfbiopcfbokbaa.GChangePct

/- FnExactCycleIn: called with any values of its parameters' types, the law returns true and leaves its arguments as they were. No condition. -/
import Derived.Test.YtpfbiopcfbokbaaRows
import Derived.Test.YtpfbiopcfbokbaaQFnExactCycleIn
import Derived.Test.YtpfbiopcfbokbaaPureFnExactCycleIn
import Derived.WalkKit
import Derived.ProofKit
import Derived.OpenShut
import Derived.ShutString
import Derived.ChangeOld
import Derived.Below
import Derived.SizedLaws
import Derived.Carry
set_option linter.unusedVariables false
set_option linter.unusedSimpArgs false
namespace Go.Proofs.Ytpfbiopcfbokbaa.fnExactCycleIn
open Go.ChangeShapes Go.WideShapes Go.ChangeAt Go.RowKit Go.Proofs.YtpfbiopcfbokbaaW.PrintWords Go.Proofs.Ytpfbiopcfbokbaa.GCycleIn
theorem own : ownKnob Try.prog.godebug = none := by kernel_rfl
theorem laidOut : laidOutB Try.prog = true := by kernel_rfl
set_option maxRecDepth 100000 in
theorem lifted (os : Os) (started : os.Started) (H : Type) (enc : TypeId × Value → H) :
    ReturnsInHanded {} Try.checked os 4 .any (Rows.fnExactCycleInSpec.pre6 enc Try.prog Try.f4 Rows.fnExactCycleInRow.domain false) (Rows.fnExactCycleInSpec.post enc Try.prog Try.f4 false true false false) := by
  refine returnsInHanded_of_change_sized (C := Try.checked) own started (by kernel_rfl) Try.func4
    (ChangeSpec.witness6 (enc := enc) (C := Try.checked) false ⟨#[], #[.slice none 0 0], []⟩ 8 (by kernel_rfl) (by kernel_rfl) (by kernel_rfl) (by kernel_rfl)) ?_
  intro W base args ds gs before hval0 hW hcnd hsz0 _
  have hsz : (DataW.weightsEach Try.prog (Try.f4.params.toList ++ Rows.fnExactCycleInSpec.plain.varTypes Try.prog) (ds ++ gs)).all (· ≤ reachBytes) = true := hsz0
  have hval : ∀ (j : Nat) t v, Try.f4.params[j]? = some t → args[j]? = some v → Value.okWide Try.prog W .any base t v := hval0
  have hW' := hW
  obtain ⟨p, q, hA0, hV, rfl, hfz, hnd⟩ := hW
  have hA : DataW.TrodAll enc Try.prog W 0 (fun _ => true) true Try.f4.params.toList args.toList ds p := hA0
  rw [Try.params4] at hA hval hsz
  obtain ⟨v0, vs0, d0, ds0, p0, q0, hargs, rfl, rfl, h0, r0⟩ := trodAll_cons hA
  obtain ⟨rfl, rfl, rfl⟩ := trodAll_nil r0
  obtain rfl : args = #[v0] := by cases args; simp_all
  obtain ⟨rfl, rfl⟩ := trodVars_none hV
  have k0 := h0
  have lt0 : ∀ x ∈ p0, x.block < W.heap.size := by obtain ⟨m, hm⟩ := k0; exact DataW.trod_lt m _ _ _ hm
  obtain ⟨a0, len0, cap0, rfl⟩ := okWide_slice Try.underlying33 (hval 0 33 v0 rfl rfl)
  have b0 : len0 * 24 ≤ 140737488351232 := sized_any hsz (j := 0) (t := 33) rfl rfl Try.underlying33 (by kernel_rfl) h0
  obtain ⟨y0, K0, o0⟩ : ∃ y, (Kd.slice 22 (Kd.slice 3 (Kd.int .i64))).K W y [.slice a0 len0 cap0] ∧ (okL (okL okI)) y := by obtain ⟨m, hm⟩ := h0; exact opens33 _ _ _ _ _ _ _ _ _ hm
  obtain ⟨A0, c0, e0, lc0, C0⟩ := K0
  injection e0 with e0 _
  injection e0 with ea0 eb0 ec0
  subst ea0 eb0 ec0
  obtain ⟨k, hk⟩ := Pure.FnExactCycleIn y0 o0 b0
  clear hA0 hval0 hsz0 hsz
  refine (laws_FnExactCycleIn.calls k _ _ y0 true W C0 lc0 hk).mono fun e W' ⟨he, bel0⟩ => ?_
  have bel : Below W.heap.size W W' := bel0
  subst he
  exact ⟨_, rfl, _, _, _, [], _, [], hW', trodAll_mk1 (shut_bool Try.underlying4 _), (trodAll_cons_mk (Below.trod laidOut (by kernel_rfl) (of_decide_eq_true (by kernel_rfl)) k0 bel lt0) trodAll_mk0), rfl, bel.frame _, fun h => by cases h⟩
theorem over : Rows.fnExactCycleInRow.holds Try.pinned (OpenSpec.ofChange Rows.fnExactCycleInSpec) :=
  OpenClaim.holds_of_wide 4 Try.f4 rfl rfl rfl rfl rfl rfl rfl ⟨rfl, rfl, rfl, rfl, rfl⟩ rfl rfl rfl rfl rfl (by kernel_rfl) Try.func4 (by kernel_rfl)
    (of_decide_eq_true (by kernel_rfl)) (by unfold Func.isWrapper; first | (rw [if_pos (by decide +kernel)]; kernel_rfl) | (rw [if_neg (by decide +kernel)]; exact ⟨rfl, rfl⟩))
    (fun os started H enc _ => lifted os started H enc)
theorem proved : Rows.FnExactCycleInSaid := over
#print axioms proved
end Go.Proofs.Ytpfbiopcfbokbaa.fnExactCycleIn
namespace Go.Proofs.Ytpfbiopcfbokbaa
/-- The row, under a short name, for the claim. -/
theorem fnExactCycleIn_holds : Rows.FnExactCycleInSaid := fnExactCycleIn.proved
end Go.Proofs.Ytpfbiopcfbokbaa

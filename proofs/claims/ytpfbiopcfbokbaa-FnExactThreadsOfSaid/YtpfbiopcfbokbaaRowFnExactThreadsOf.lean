/- FnExactThreadsOf: called with any values of its parameters' types, the law returns true and leaves its arguments as they were. No condition. -/
import Derived.Test.YtpfbiopcfbokbaaRows
import Derived.Test.YtpfbiopcfbokbaaQFnExactThreadsOf
import Derived.Test.YtpfbiopcfbokbaaPureFnExactThreadsOf
import Derived.WalkKit
import Derived.ProofKit
import Derived.OpenShut
import Derived.ShutString
import Derived.ChangeOld
import Derived.Below
import Derived.SizedLaws
import Derived.Carry
set_option linter.unusedVariables false
set_option linter.unusedSimpArgs false
namespace Go.Proofs.Ytpfbiopcfbokbaa.fnExactThreadsOf
open Go.ChangeShapes Go.WideShapes Go.ChangeAt Go.RowKit Go.Proofs.YtpfbiopcfbokbaaW.PrintWords Go.Proofs.Ytpfbiopcfbokbaa.GThreadsOf
theorem own : ownKnob Try.prog.godebug = none := by kernel_rfl
theorem laidOut : laidOutB Try.prog = true := by kernel_rfl
set_option maxRecDepth 100000 in
theorem lifted (os : Os) (started : os.Started) (H : Type) (enc : TypeId × Value → H) :
    ReturnsInHanded {} Try.checked os 9 .any (Rows.fnExactThreadsOfSpec.pre6 enc Try.prog Try.f9 Rows.fnExactThreadsOfRow.domain false) (Rows.fnExactThreadsOfSpec.post enc Try.prog Try.f9 false true false false) := by
  refine returnsInHanded_of_change_sized (C := Try.checked) own started (by kernel_rfl) Try.func9
    (ChangeSpec.witness6 (enc := enc) (C := Try.checked) false ⟨#[], #[.agg #[.int .i64 0, .slice none 0 0, .slice none 0 0, .slice none 0 0, .slice none 0 0, .slice none 0 0, .int .i64 0]], []⟩ 8 (by kernel_rfl) (by kernel_rfl) (by kernel_rfl) (by kernel_rfl)) ?_
  intro W base args ds gs before hval0 hW hcnd hsz0 _
  have hsz : (DataW.weightsEach Try.prog (Try.f9.params.toList ++ Rows.fnExactThreadsOfSpec.plain.varTypes Try.prog) (ds ++ gs)).all (· ≤ reachBytes) = true := hsz0
  have hval : ∀ (j : Nat) t v, Try.f9.params[j]? = some t → args[j]? = some v → Value.okWide Try.prog W .any base t v := hval0
  have hW' := hW
  obtain ⟨p, q, hA0, hV, rfl, hfz, hnd⟩ := hW
  have hA : DataW.TrodAll enc Try.prog W 0 (fun _ => true) true Try.f9.params.toList args.toList ds p := hA0
  rw [Try.params9] at hA hval hsz
  obtain ⟨v0, vs0, d0, ds0, p0, q0, hargs, rfl, rfl, h0, r0⟩ := trodAll_cons hA
  obtain ⟨rfl, rfl, rfl⟩ := trodAll_nil r0
  obtain rfl : args = #[v0] := by cases args; simp_all
  obtain ⟨rfl, rfl⟩ := trodVars_none hV
  have k0 := h0
  have lt0 : ∀ x ∈ p0, x.block < W.heap.size := by obtain ⟨m, hm⟩ := k0; exact DataW.trod_lt m _ _ _ hm
  obtain ⟨cs0, rfl, z0⟩ := okWide_struct Try.underlying73 (hval 0 73 v0 rfl rfl)
  obtain ⟨y0, K0, o0⟩ : ∃ y, k73.K W y cs0.toList ∧ ok73 y := by obtain ⟨m, hm⟩ := h0; exact opens73 _ _ _ _ _ _ _ _ _ hm
  obtain ⟨A0_1, c0_1, A0_2, c0_2, A0_3, c0_3, A0_4, c0_4, A0_5, c0_5, e0, lc0_1, C0_1, lc0_2, C0_2, lc0_3, C0_3, lc0_4, C0_4, lc0_5, C0_5⟩ := k73_open K0
  obtain rfl : cs0 = #[.int .i64 y0.f0, .slice A0_1 y0.f1.length c0_1, .slice A0_2 y0.f2.length c0_2, .slice A0_3 y0.f3.f0.length c0_3, .slice A0_4 y0.f3.f1.length c0_4, .slice A0_5 y0.f3.f2.length c0_5, .int .i64 y0.f3.f3] := Array.toList_inj.1 e0
  obtain ⟨k, hk⟩ := Pure.FnExactThreadsOf y0 o0
  clear hA0 hval0 hsz0 hsz
  refine (laws_FnExactThreadsOf.calls k y0.f0 _ _ y0.f1 _ _ y0.f2 _ _ y0.f3.f0 _ _ y0.f3.f1 _ _ y0.f3.f2 y0.f3.f3 true W C0_1 lc0_1 C0_2 lc0_2 C0_3 lc0_3 C0_4 lc0_4 C0_5 lc0_5 hk).mono fun e W' ⟨he, bel0⟩ => ?_
  have bel : Below W.heap.size W W' := bel0
  subst he
  exact ⟨_, rfl, _, _, _, [], _, [], hW', trodAll_mk1 (shut_bool Try.underlying4 _), (trodAll_cons_mk (Below.trod laidOut (by kernel_rfl) (of_decide_eq_true (by kernel_rfl)) k0 bel lt0) trodAll_mk0), rfl, bel.frame _, fun h => by cases h⟩
theorem over : Rows.fnExactThreadsOfRow.holds Try.pinned (OpenSpec.ofChange Rows.fnExactThreadsOfSpec) :=
  OpenClaim.holds_of_wide 9 Try.f9 rfl rfl rfl rfl rfl rfl rfl ⟨rfl, rfl, rfl, rfl, rfl⟩ rfl rfl rfl rfl rfl (by kernel_rfl) Try.func9 (by kernel_rfl)
    (of_decide_eq_true (by kernel_rfl)) (by unfold Func.isWrapper; first | (rw [if_pos (by decide +kernel)]; kernel_rfl) | (rw [if_neg (by decide +kernel)]; exact ⟨rfl, rfl⟩))
    (fun os started H enc _ => lifted os started H enc)
theorem proved : Rows.FnExactThreadsOfSaid := over
#print axioms proved
end Go.Proofs.Ytpfbiopcfbokbaa.fnExactThreadsOf
namespace Go.Proofs.Ytpfbiopcfbokbaa
/-- The row, under a short name, for the claim. -/
theorem fnExactThreadsOf_holds : Rows.FnExactThreadsOfSaid := fnExactThreadsOf.proved
end Go.Proofs.Ytpfbiopcfbokbaa

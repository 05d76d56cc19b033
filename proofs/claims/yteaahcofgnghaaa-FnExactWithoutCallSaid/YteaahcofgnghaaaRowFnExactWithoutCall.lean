/- FnExactWithoutCall: called with any values of its parameters' types, the law returns true and leaves its arguments as they were. No condition. -/
import Derived.Test.YteaahcofgnghaaaRows
import Derived.Test.YteaahcofgnghaaaQFnExactWithoutCall
import Derived.Test.YteaahcofgnghaaaPureFnExactWithoutCall
import Derived.WalkKit
import Derived.ProofKit
import Derived.OpenShut
import Derived.ShutString
import Derived.ChangeOld
import Derived.Below
import Derived.SizedLaws
import Derived.Carry
set_option linter.unusedVariables false
set_option linter.unusedSimpArgs false
namespace Go.Proofs.Yteaahcofgnghaaa.fnExactWithoutCall
open Go.ChangeShapes Go.WideShapes Go.ChangeAt Go.RowKit Go.Proofs.YteaahcofgnghaaaW.PrintWords Go.Proofs.Yteaahcofgnghaaa.GWithoutCall
theorem own : ownKnob Try.prog.godebug = none := by kernel_rfl
theorem laidOut : laidOutB Try.prog = true := by kernel_rfl
set_option maxRecDepth 100000 in
theorem lifted (os : Os) (started : os.Started) (H : Type) (enc : TypeId × Value → H) :
    ReturnsInHanded {} Try.checked os 5 .any (Rows.fnExactWithoutCallSpec.pre6 enc Try.prog Try.f5 Rows.fnExactWithoutCallRow.domain false) (Rows.fnExactWithoutCallSpec.post enc Try.prog Try.f5 false true false false) := by
  refine returnsInHanded_of_change_sized (C := Try.checked) own started (by kernel_rfl) Try.func5
    (ChangeSpec.witness6 (enc := enc) (C := Try.checked) false ⟨#[], #[.slice none 0 0, .int .i64 0], []⟩ 8 (by kernel_rfl) (by kernel_rfl) (by kernel_rfl) (by kernel_rfl)) ?_
  intro W base args ds gs before hval0 hW hcnd hsz0 _
  have hsz : (DataW.weightsEach Try.prog (Try.f5.params.toList ++ Rows.fnExactWithoutCallSpec.plain.varTypes Try.prog) (ds ++ gs)).all (· ≤ reachBytes) = true := hsz0
  have hval : ∀ (j : Nat) t v, Try.f5.params[j]? = some t → args[j]? = some v → Value.okWide Try.prog W .any base t v := hval0
  have hW' := hW
  obtain ⟨p, q, hA0, hV, rfl, hfz, hnd⟩ := hW
  have hA : DataW.TrodAll enc Try.prog W 0 (fun _ => true) true Try.f5.params.toList args.toList ds p := hA0
  rw [Try.params5] at hA hval hsz
  obtain ⟨v0, vs0, d0, ds0, p0, q0, hargs, rfl, rfl, h0, r0⟩ := trodAll_cons hA
  obtain ⟨v1, vs1, d1, ds1, p1, q1, rfl, rfl, rfl, h1, r1⟩ := trodAll_cons r0
  obtain ⟨rfl, rfl, rfl⟩ := trodAll_nil r1
  obtain rfl : args = #[v0, v1] := by cases args; simp_all
  obtain ⟨rfl, rfl⟩ := trodVars_none hV
  have k0 := h0
  have lt0 : ∀ x ∈ p0, x.block < W.heap.size := by obtain ⟨m, hm⟩ := k0; exact DataW.trod_lt m _ _ _ hm
  obtain ⟨a0, len0, cap0, rfl⟩ := okWide_slice Try.underlying22 (hval 0 22 v0 rfl rfl)
  have b0 : len0 * 40 ≤ 140737488351232 := sized_any hsz (j := 0) (t := 22) rfl rfl Try.underlying22 (by kernel_rfl) h0
  obtain ⟨y0, K0, o0⟩ : ∃ y, (Kd.slice 94 k94).K W y [.slice a0 len0 cap0] ∧ (okL ok94) y := by obtain ⟨m, hm⟩ := h0; exact opens22 _ _ _ _ _ _ _ _ _ hm
  obtain ⟨A0, c0, e0, lc0, C0⟩ := K0
  injection e0 with e0 _
  injection e0 with ea0 eb0 ec0
  subst ea0 eb0 ec0
  have k1 := h1
  have lt1 : ∀ x ∈ p1, x.block < W.heap.size := by obtain ⟨m, hm⟩ := k1; exact DataW.trod_lt m _ _ _ hm
  obtain ⟨y1, K1, o1⟩ : ∃ y, (Kd.int .i64).K W y v1.cells.toList ∧ okI y := by obtain ⟨m, hm⟩ := h1; exact opens3 _ _ _ _ _ _ _ _ _ hm
  obtain ⟨b1, rfl, rfl, _, _⟩ := open_int Try.underlying3 (hval 1 3 v1 rfl rfl) h1
  obtain rfl : b1 = y1 := by have q : ([.int .i64 b1] : List Value) = [.int .i64 y1] := K1; simpa using q
  obtain ⟨k, hk⟩ := Pure.FnExactWithoutCall y0 b1 o0 b0 o1
  clear hA0 hval0 hsz0 hsz
  refine (laws_FnExactWithoutCall.calls k _ _ y0 b1 true W C0 lc0 hk).mono fun e W' ⟨he, bel0⟩ => ?_
  have bel : Below W.heap.size W W' := bel0
  subst he
  exact ⟨_, rfl, _, _, _, [], _, [], hW', trodAll_mk1 (shut_bool Try.underlying4 _), (trodAll_cons_mk (Below.trod laidOut (by kernel_rfl) (of_decide_eq_true (by kernel_rfl)) k0 bel lt0) (trodAll_cons_mk (Below.trod laidOut (by kernel_rfl) (of_decide_eq_true (by kernel_rfl)) k1 bel lt1) trodAll_mk0)), rfl, bel.frame _, fun h => by cases h⟩
theorem over : Rows.fnExactWithoutCallRow.holds Try.pinned (OpenSpec.ofChange Rows.fnExactWithoutCallSpec) :=
  OpenClaim.holds_of_wide 5 Try.f5 rfl rfl rfl rfl rfl rfl rfl ⟨rfl, rfl, rfl, rfl, rfl⟩ rfl rfl rfl rfl rfl (by kernel_rfl) Try.func5 (by kernel_rfl)
    (of_decide_eq_true (by kernel_rfl)) (by unfold Func.isWrapper; first | (rw [if_pos (by decide +kernel)]; kernel_rfl) | (rw [if_neg (by decide +kernel)]; exact ⟨rfl, rfl⟩))
    (fun os started H enc _ => lifted os started H enc)
theorem proved : Rows.FnExactWithoutCallSaid := over
#print axioms proved
end Go.Proofs.Yteaahcofgnghaaa.fnExactWithoutCall
namespace Go.Proofs.Yteaahcofgnghaaa
/-- The row, under a short name, for the claim. -/
theorem fnExactWithoutCall_holds : Rows.FnExactWithoutCallSaid := fnExactWithoutCall.proved
end Go.Proofs.Yteaahcofgnghaaa

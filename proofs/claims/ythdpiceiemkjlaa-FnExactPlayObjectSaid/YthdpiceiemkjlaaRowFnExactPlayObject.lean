/- FnExactPlayObject: called with any values of its parameters' types, the law returns true and leaves its arguments as they were. No condition. -/
import Derived.Test.YthdpiceiemkjlaaRows
import Derived.Test.YthdpiceiemkjlaaQFnExactPlayObject
import Derived.Test.YthdpiceiemkjlaaPureFnExactPlayObject
import Derived.WalkKit
import Derived.ProofKit
import Derived.OpenShut
import Derived.ShutString
import Derived.ChangeOld
import Derived.Below
import Derived.SizedLaws
import Derived.Carry
set_option linter.unusedVariables false
set_option linter.unusedSimpArgs false
namespace Go.Proofs.Ythdpiceiemkjlaa.fnExactPlayObject
open Go.ChangeShapes Go.WideShapes Go.ChangeAt Go.RowKit Go.Proofs.YthdpiceiemkjlaaW.PrintWords Go.Proofs.Ythdpiceiemkjlaa.GPlayObject
theorem own : ownKnob Try.prog.godebug = none := by kernel_rfl
theorem laidOut : laidOutB Try.prog = true := by kernel_rfl
set_option maxRecDepth 100000 in
theorem lifted (os : Os) (started : os.Started) (H : Type) (enc : TypeId × Value → H) :
    ReturnsInHanded {} Try.checked os 3 .any (Rows.fnExactPlayObjectSpec.pre6 enc Try.prog Try.f3 Rows.fnExactPlayObjectRow.domain false) (Rows.fnExactPlayObjectSpec.post enc Try.prog Try.f3 false true false false) := by
  refine returnsInHanded_of_change_sized (C := Try.checked) own started (by kernel_rfl) Try.func3
    (ChangeSpec.witness6 (enc := enc) (C := Try.checked) false ⟨#[], #[.int .i64 0, .slice none 0 0, .slice none 0 0], []⟩ 8 (by kernel_rfl) (by kernel_rfl) (by kernel_rfl) (by kernel_rfl)) ?_
  intro W base args ds gs before hval0 hW hcnd hsz0 _
  have hsz : (DataW.weightsEach Try.prog (Try.f3.params.toList ++ Rows.fnExactPlayObjectSpec.plain.varTypes Try.prog) (ds ++ gs)).all (· ≤ reachBytes) = true := hsz0
  have hval : ∀ (j : Nat) t v, Try.f3.params[j]? = some t → args[j]? = some v → Value.okWide Try.prog W .any base t v := hval0
  have hW' := hW
  obtain ⟨p, q, hA0, hV, rfl, hfz, hnd⟩ := hW
  have hA : DataW.TrodAll enc Try.prog W 0 (fun _ => true) true Try.f3.params.toList args.toList ds p := hA0
  rw [Try.params3] at hA hval hsz
  obtain ⟨v0, vs0, d0, ds0, p0, q0, hargs, rfl, rfl, h0, r0⟩ := trodAll_cons hA
  obtain ⟨v1, vs1, d1, ds1, p1, q1, rfl, rfl, rfl, h1, r1⟩ := trodAll_cons r0
  obtain ⟨v2, vs2, d2, ds2, p2, q2, rfl, rfl, rfl, h2, r2⟩ := trodAll_cons r1
  obtain ⟨rfl, rfl, rfl⟩ := trodAll_nil r2
  obtain rfl : args = #[v0, v1, v2] := by cases args; simp_all
  obtain ⟨rfl, rfl⟩ := trodVars_none hV
  have k0 := h0
  have lt0 : ∀ x ∈ p0, x.block < W.heap.size := by obtain ⟨m, hm⟩ := k0; exact DataW.trod_lt m _ _ _ hm
  obtain ⟨y0, K0, o0⟩ : ∃ y, (Kd.int .i64).K W y v0.cells.toList ∧ okI y := by obtain ⟨m, hm⟩ := h0; exact opens3 _ _ _ _ _ _ _ _ _ hm
  obtain ⟨b0, rfl, rfl, _, _⟩ := open_int Try.underlying3 (hval 0 3 v0 rfl rfl) h0
  obtain rfl : b0 = y0 := by have q : ([.int .i64 b0] : List Value) = [.int .i64 y0] := K0; simpa using q
  have k1 := h1
  have lt1 : ∀ x ∈ p1, x.block < W.heap.size := by obtain ⟨m, hm⟩ := k1; exact DataW.trod_lt m _ _ _ hm
  obtain ⟨a1, len1, cap1, rfl⟩ := okWide_slice Try.underlying22 (hval 1 22 v1 rfl rfl)
  have b1 : len1 * 40 ≤ 140737488351232 := sized_any hsz (j := 1) (t := 22) rfl rfl Try.underlying22 (by kernel_rfl) h1
  obtain ⟨y1, K1, o1⟩ : ∃ y, (Kd.slice 79 k79).K W y [.slice a1 len1 cap1] ∧ (okL ok79) y := by obtain ⟨m, hm⟩ := h1; exact opens22 _ _ _ _ _ _ _ _ _ hm
  obtain ⟨A1, c1, e1, lc1, C1⟩ := K1
  injection e1 with e1 _
  injection e1 with ea1 eb1 ec1
  subst ea1 eb1 ec1
  have k2 := h2
  have lt2 : ∀ x ∈ p2, x.block < W.heap.size := by obtain ⟨m, hm⟩ := k2; exact DataW.trod_lt m _ _ _ hm
  obtain ⟨a2, len2, cap2, rfl⟩ := okWide_slice Try.underlying23 (hval 2 23 v2 rfl rfl)
  have b2 : len2 * 8 ≤ 140737488351232 := sized_any hsz (j := 2) (t := 23) rfl rfl Try.underlying23 (by kernel_rfl) h2
  obtain ⟨y2, K2, o2⟩ : ∃ y, (Kd.slice 3 (Kd.int .i64)).K W y [.slice a2 len2 cap2] ∧ (okL okI) y := by obtain ⟨m, hm⟩ := h2; exact opens23 _ _ _ _ _ _ _ _ _ hm
  obtain ⟨A2, c2, e2, lc2, C2⟩ := K2
  injection e2 with e2 _
  injection e2 with ea2 eb2 ec2
  subst ea2 eb2 ec2
  obtain ⟨k, hk⟩ := Pure.FnExactPlayObject b0 y1 y2 o0 o1 b1 o2 b2
  clear hA0 hval0 hsz0 hsz
  refine (laws_FnExactPlayObject.calls k b0 _ _ y1 _ _ y2 true W C1 lc1 C2 lc2 hk).mono fun e W' ⟨he, bel0⟩ => ?_
  have bel : Below W.heap.size W W' := bel0
  subst he
  exact ⟨_, rfl, _, _, _, [], _, [], hW', trodAll_mk1 (shut_bool Try.underlying4 _), (trodAll_cons_mk (Below.trod laidOut (by kernel_rfl) (of_decide_eq_true (by kernel_rfl)) k0 bel lt0) (trodAll_cons_mk (Below.trod laidOut (by kernel_rfl) (of_decide_eq_true (by kernel_rfl)) k1 bel lt1) (trodAll_cons_mk (Below.trod laidOut (by kernel_rfl) (of_decide_eq_true (by kernel_rfl)) k2 bel lt2) trodAll_mk0))), rfl, bel.frame _, fun h => by cases h⟩
theorem over : Rows.fnExactPlayObjectRow.holds Try.pinned (OpenSpec.ofChange Rows.fnExactPlayObjectSpec) :=
  OpenClaim.holds_of_wide 3 Try.f3 rfl rfl rfl rfl rfl rfl rfl ⟨rfl, rfl, rfl, rfl, rfl⟩ rfl rfl rfl rfl rfl (by kernel_rfl) Try.func3 (by kernel_rfl)
    (of_decide_eq_true (by kernel_rfl)) (by unfold Func.isWrapper; first | (rw [if_pos (by decide +kernel)]; kernel_rfl) | (rw [if_neg (by decide +kernel)]; exact ⟨rfl, rfl⟩))
    (fun os started H enc _ => lifted os started H enc)
theorem proved : Rows.FnExactPlayObjectSaid := over
#print axioms proved
end Go.Proofs.Ythdpiceiemkjlaa.fnExactPlayObject
namespace Go.Proofs.Ythdpiceiemkjlaa
/-- The row, under a short name, for the claim. -/
theorem fnExactPlayObject_holds : Rows.FnExactPlayObjectSaid := fnExactPlayObject.proved
end Go.Proofs.Ythdpiceiemkjlaa

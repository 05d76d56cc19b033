/- FnExactAheadIn: called with any values of its parameters' types, the law returns true and leaves its arguments as they were. No condition. -/
import Derived.Test.YtpfbiopcfbokbaaRows
import Derived.Test.YtpfbiopcfbokbaaQFnExactAheadIn
import Derived.Test.YtpfbiopcfbokbaaPureFnExactAheadIn
import Derived.WalkKit
import Derived.ProofKit
import Derived.OpenShut
import Derived.ShutString
import Derived.ChangeOld
import Derived.Below
import Derived.SizedLaws
import Derived.Carry
set_option linter.unusedVariables false
set_option linter.unusedSimpArgs false
namespace Go.Proofs.Ytpfbiopcfbokbaa.fnExactAheadIn
open Go.ChangeShapes Go.WideShapes Go.ChangeAt Go.RowKit Go.Proofs.YtpfbiopcfbokbaaW.PrintWords Go.Proofs.Ytpfbiopcfbokbaa.GAheadIn
theorem own : ownKnob Try.prog.godebug = none := by kernel_rfl
theorem laidOut : laidOutB Try.prog = true := by kernel_rfl
set_option maxRecDepth 100000 in
theorem lifted (os : Os) (started : os.Started) (H : Type) (enc : TypeId × Value → H) :
    ReturnsInHanded {} Try.checked os 7 .any (Rows.fnExactAheadInSpec.pre6 enc Try.prog Try.f7 Rows.fnExactAheadInRow.domain false) (Rows.fnExactAheadInSpec.post enc Try.prog Try.f7 false true false false) := by
  refine returnsInHanded_of_change_sized (C := Try.checked) own started (by kernel_rfl) Try.func7
    (ChangeSpec.witness6 (enc := enc) (C := Try.checked) false ⟨#[], #[.slice none 0 0, .int .i64 0, .int .i64 0], []⟩ 8 (by kernel_rfl) (by kernel_rfl) (by kernel_rfl) (by kernel_rfl)) ?_
  intro W base args ds gs before hval0 hW hcnd hsz0 _
  have hsz : (DataW.weightsEach Try.prog (Try.f7.params.toList ++ Rows.fnExactAheadInSpec.plain.varTypes Try.prog) (ds ++ gs)).all (· ≤ reachBytes) = true := hsz0
  have hval : ∀ (j : Nat) t v, Try.f7.params[j]? = some t → args[j]? = some v → Value.okWide Try.prog W .any base t v := hval0
  have hW' := hW
  obtain ⟨p, q, hA0, hV, rfl, hfz, hnd⟩ := hW
  have hA : DataW.TrodAll enc Try.prog W 0 (fun _ => true) true Try.f7.params.toList args.toList ds p := hA0
  rw [Try.params7] at hA hval hsz
  obtain ⟨v0, vs0, d0, ds0, p0, q0, hargs, rfl, rfl, h0, r0⟩ := trodAll_cons hA
  obtain ⟨v1, vs1, d1, ds1, p1, q1, rfl, rfl, rfl, h1, r1⟩ := trodAll_cons r0
  obtain ⟨v2, vs2, d2, ds2, p2, q2, rfl, rfl, rfl, h2, r2⟩ := trodAll_cons r1
  obtain ⟨rfl, rfl, rfl⟩ := trodAll_nil r2
  obtain rfl : args = #[v0, v1, v2] := by cases args; simp_all
  obtain ⟨rfl, rfl⟩ := trodVars_none hV
  have k0 := h0
  have lt0 : ∀ x ∈ p0, x.block < W.heap.size := by obtain ⟨m, hm⟩ := k0; exact DataW.trod_lt m _ _ _ hm
  obtain ⟨a0, len0, cap0, rfl⟩ := okWide_slice Try.underlying53 (hval 0 53 v0 rfl rfl)
  have b0 : len0 * 40 ≤ 140737488351232 := sized_any hsz (j := 0) (t := 53) rfl rfl Try.underlying53 (by kernel_rfl) h0
  obtain ⟨y0, K0, o0⟩ : ∃ y, (Kd.slice 120 k120).K W y [.slice a0 len0 cap0] ∧ (okL ok120) y := by obtain ⟨m, hm⟩ := h0; exact opens53 _ _ _ _ _ _ _ _ _ hm
  obtain ⟨A0, c0, e0, lc0, C0⟩ := K0
  injection e0 with e0 _
  injection e0 with ea0 eb0 ec0
  subst ea0 eb0 ec0
  have k1 := h1
  have lt1 : ∀ x ∈ p1, x.block < W.heap.size := by obtain ⟨m, hm⟩ := k1; exact DataW.trod_lt m _ _ _ hm
  obtain ⟨y1, K1, o1⟩ : ∃ y, (Kd.int .i64).K W y v1.cells.toList ∧ okI y := by obtain ⟨m, hm⟩ := h1; exact opens3 _ _ _ _ _ _ _ _ _ hm
  obtain ⟨b1, rfl, rfl, _, _⟩ := open_int Try.underlying3 (hval 1 3 v1 rfl rfl) h1
  obtain rfl : b1 = y1 := by have q : ([.int .i64 b1] : List Value) = [.int .i64 y1] := K1; simpa using q
  have k2 := h2
  have lt2 : ∀ x ∈ p2, x.block < W.heap.size := by obtain ⟨m, hm⟩ := k2; exact DataW.trod_lt m _ _ _ hm
  obtain ⟨y2, K2, o2⟩ : ∃ y, (Kd.int .i64).K W y v2.cells.toList ∧ okI y := by obtain ⟨m, hm⟩ := h2; exact opens3 _ _ _ _ _ _ _ _ _ hm
  obtain ⟨b2, rfl, rfl, _, _⟩ := open_int Try.underlying3 (hval 2 3 v2 rfl rfl) h2
  obtain rfl : b2 = y2 := by have q : ([.int .i64 b2] : List Value) = [.int .i64 y2] := K2; simpa using q
  obtain ⟨k, hk⟩ := Pure.FnExactAheadIn y0 b1 b2 o0 b0 o1 o2
  clear hA0 hval0 hsz0 hsz
  refine (laws_FnExactAheadIn.calls k _ _ y0 b1 b2 true W C0 lc0 hk).mono fun e W' ⟨he, bel0⟩ => ?_
  have bel : Below W.heap.size W W' := bel0
  subst he
  exact ⟨_, rfl, _, _, _, [], _, [], hW', trodAll_mk1 (shut_bool Try.underlying4 _), (trodAll_cons_mk (Below.trod laidOut (by kernel_rfl) (of_decide_eq_true (by kernel_rfl)) k0 bel lt0) (trodAll_cons_mk (Below.trod laidOut (by kernel_rfl) (of_decide_eq_true (by kernel_rfl)) k1 bel lt1) (trodAll_cons_mk (Below.trod laidOut (by kernel_rfl) (of_decide_eq_true (by kernel_rfl)) k2 bel lt2) trodAll_mk0))), rfl, bel.frame _, fun h => by cases h⟩
theorem over : Rows.fnExactAheadInRow.holds Try.pinned (OpenSpec.ofChange Rows.fnExactAheadInSpec) :=
  OpenClaim.holds_of_wide 7 Try.f7 rfl rfl rfl rfl rfl rfl rfl ⟨rfl, rfl, rfl, rfl, rfl⟩ rfl rfl rfl rfl rfl (by kernel_rfl) Try.func7 (by kernel_rfl)
    (of_decide_eq_true (by kernel_rfl)) (by unfold Func.isWrapper; first | (rw [if_pos (by decide +kernel)]; kernel_rfl) | (rw [if_neg (by decide +kernel)]; exact ⟨rfl, rfl⟩))
    (fun os started H enc _ => lifted os started H enc)
theorem proved : Rows.FnExactAheadInSaid := over
#print axioms proved
end Go.Proofs.Ytpfbiopcfbokbaa.fnExactAheadIn
namespace Go.Proofs.Ytpfbiopcfbokbaa
/-- The row, under a short name, for the claim. -/
theorem fnExactAheadIn_holds : Rows.FnExactAheadInSaid := fnExactAheadIn.proved
end Go.Proofs.Ytpfbiopcfbokbaa

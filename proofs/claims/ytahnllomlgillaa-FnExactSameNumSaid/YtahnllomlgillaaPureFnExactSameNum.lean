/- The pure statement of FnExactSameNum: equal and of one sign is one word. -/
import Derived.Test.YtahnllomlgillaaQFnExactSameNum
import Derived.Test.YtahnllomlgillaaMBase
import Derived.KernelRfl
import Derived.Test.YtahnllomlgillaaMNum
set_option linter.unusedVariables false
set_option linter.unusedSimpArgs false
namespace Go.Proofs.Ytahnllomlgillaa.Pure
open Go.RowKit Go.Proofs.Ytahnllomlgillaa.GSameNum Go.Proofs.YtahnllomlgillaaW.PrintWords Go.Proofs.YtahnllomlgillaaW.PrintLast Go.Proofs.YtahnllomlgillaaW.PrintMore Go.Proofs.Ytahnllomlgillaa.MBase
open Go.Proofs.Ytahnllomlgillaa.MNum Go.Proofs.Ytahnllomlgillaa.MIeee
def minus (x : Nat) : Bool := decide (key x < 0) || decide (x = 9223372036854775808)
theorem spec_minus {x : Nat} (hx : x < 18446744073709551616) : spec_IsMinus.f x = some (if isNan x = true then false else minus x) := by
  unfold spec_IsMinus.f
  cases hn : isNan x with
  | true => rw [flt_nan (.inl hn), feq_nan (.inl hn)]; rfl
  | false =>
    rw [flt_eq hn nan_zero, feq_eq hn nan_zero, key_zero]
    unfold minus
    by_cases h : key x < 0
    · simp [h]
    · by_cases h2 : key x = 0
      · rcases zero_cases hx (key_rg_zero.mp h2) with rfl | rfl
        · rw [if_neg (by simp [h]), if_pos (by simp [h2]), if_pos inv_pz.1, inv_pz.2.1]; rfl
        · rw [if_neg (by simp [h]), if_pos (by simp [h2]), if_pos inv_nz.1, inv_nz.2.1]; rfl
      · have : x ≠ 9223372036854775808 := by rintro rfl; exact h2 (by decide)
        simp [h, h2, this]
/-- Two numbers are one: both no number, or the same bits. -/
def same (x y : Nat) : Bool := if isNan x = true then isNan y else decide (isNan y = false ∧ x = y)
theorem spec_nan (x : Nat) : spec_l1Nan.f x = some (isNan x) := by
  unfold spec_l1Nan.f; rw [feq_self]; cases isNan x <;> rfl
theorem minus_pz : minus 0 = false := by decide
theorem minus_nz : minus 9223372036854775808 = true := by decide
theorem spec_same {x y : Nat} (hx : x < 18446744073709551616) (hy : y < 18446744073709551616) : Ev (fun k => spec_l1SameNum.f k x y) (same x y) := by
  simp only [spec_l1SameNum.f, spec_nan, Option.bind_some]
  unfold same
  cases hn : isNan x with
  | true =>
    rw [if_pos rfl]
    refine Ev.ite_pos rfl (Ev.step (f := fun _ => some (isNan y)) (fun k => ?_) (Ev.now _))
    simp only [spec_l1SameNum.j0, spec_nan, Option.bind_some]; rw [if_pos trivial, hn, if_pos rfl]
  | false =>
    rw [if_neg (by simp)]
    refine Ev.ite_neg (by simp) ?_
    cases hm : isNan y with
    | true =>
      rw [decide_eq_false (by simp)]
      refine Ev.step (f := fun _ => some false) (fun k => ?_) (Ev.now _)
      simp only [spec_l1SameNum.j0, spec_nan, Option.bind_some]; rw [if_pos trivial, hn, if_neg (by simp)]
    | false =>
      refine Ev.step (f := fun _ => some (decide (false = false ∧ x = y))) (fun k => ?_) (Ev.now _)
      simp only [spec_l1SameNum.j0, spec_minus hx, spec_minus hy, Option.bind_some]
      rw [if_neg (by simp), feq_eq hn hm, hn, hm]
      simp only [Bool.false_eq_true, if_false, decide_eq_true_eq, true_and]
      by_cases hk : key x = key y
      · rw [if_pos hk]
        congr 1
        by_cases h0 : rg x = 0
        · have hy0 : rg y = 0 := key_rg_zero.mp (hk ▸ key_rg_zero.mpr h0)
          rcases zero_cases hx h0 with rfl | rfl <;> rcases zero_cases hy hy0 with rfl | rfl <;> decide
        · have := key_inj hx hy h0 hk
          subst this
          simp
      · rw [if_neg hk]
        congr 1
        rw [eq_comm, decide_eq_false_iff_not]
        rintro rfl
        exact hk rfl
theorem math_nan (x : Nat) : math_IsNaN.f x = some (isNan x) := by
  unfold math_IsNaN.f; rw [feq_self]; cases isNan x <;> rfl
theorem impl_same {x y : Nat} : impl_SameNum.f x y = some (same x y) := by
  simp only [impl_SameNum.f, math_nan, Option.bind_some]
  unfold same
  cases hn : isNan x with
  | true =>
    rw [if_pos rfl, if_pos rfl]
    cases hm : isNan y with
    | true => rfl
    | false =>
      rw [if_neg (by simp)]
      congr 1
      rw [beq_eq_false_iff_ne]
      intro q
      have : x = y := by omega
      rw [this, hm] at hn
      cases hn
  | false =>
    rw [if_neg (by simp), if_neg (by simp)]
    congr 1
    rw [Bool.eq_iff_iff, beq_iff_eq, decide_eq_true_eq]
    constructor
    · intro q
      have : x = y := by omega
      exact ⟨this ▸ hn, this⟩
    · rintro ⟨_, rfl⟩; rfl
theorem FnExactSameNum : laws_FnExactSameNum.Pure2 := by
  intro x y hx hy
  apply Ev.rounds
  simp only [laws_FnExactSameNum.f]
  refine Ev.bind (g := fun k => spec_SameNum.f k x y) (Ev.bind (f := fun _ t => some t) (spec_same hx hy) (Ev.now _)) ?_
  refine Ev.bind (Ev.const impl_same) (Ev.ite_neg (by simp) (Ev.now _))

end Go.Proofs.Ytahnllomlgillaa.Pure

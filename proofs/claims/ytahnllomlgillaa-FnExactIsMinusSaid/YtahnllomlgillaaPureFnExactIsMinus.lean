/- The pure statement of FnExactIsMinus: 1/x tells the sign of a zero as its bits do. -/
import Derived.Test.YtahnllomlgillaaQFnExactIsMinus
import Derived.Test.YtahnllomlgillaaMBase
import Derived.KernelRfl
import Derived.Test.YtahnllomlgillaaMNum
set_option linter.unusedVariables false
set_option linter.unusedSimpArgs false
namespace Go.Proofs.Ytahnllomlgillaa.Pure
open Go.RowKit Go.Proofs.Ytahnllomlgillaa.GIsMinus Go.Proofs.YtahnllomlgillaaW.PrintWords Go.Proofs.YtahnllomlgillaaW.PrintLast Go.Proofs.YtahnllomlgillaaW.PrintMore Go.Proofs.Ytahnllomlgillaa.MBase
open Go.Proofs.Ytahnllomlgillaa.MNum Go.Proofs.Ytahnllomlgillaa.MIeee
def minus (x : Nat) : Bool := decide (key x < 0) || decide (x = 9223372036854775808)
theorem spec_minus {x : Nat} (hx : x < 18446744073709551616) : spec_IsMinus.f x = some (if isNan x = true then false else minus x) := by
  unfold spec_IsMinus.f
  cases hn : isNan x with
  | true => rw [flt_nan (.inl hn), feq_nan (.inl hn)]; rfl
  | false =>
    rw [flt_eq hn nan_zero, feq_eq hn nan_zero, key_zero]
    unfold minus
    by_cases h : key x < 0
    · simp [h]
    · by_cases h2 : key x = 0
      · rcases zero_cases hx (key_rg_zero.mp h2) with rfl | rfl
        · rw [if_neg (by simp [h]), if_pos (by simp [h2]), if_pos inv_pz.1, inv_pz.2.1]; rfl
        · rw [if_neg (by simp [h]), if_pos (by simp [h2]), if_pos inv_nz.1, inv_nz.2.1]; rfl
      · have : x ≠ 9223372036854775808 := by rintro rfl; exact h2 (by decide)
        simp [h, h2, this]
theorem wrap_neg {x : Nat} (hx : x < 18446744073709551616) : decide (wrap64 ((x : Nat) : Int) < 0) = decide (9223372036854775808 ≤ x) := by
  unfold wrap64
  rw [decide_eq_decide]
  omega
theorem impl_minus {x : Nat} (hx : x < 18446744073709551616) : impl_IsMinus.f x = some (if isNan x = true then false else minus x) := by
  unfold impl_IsMinus.f math_Signbit.f
  rw [wrap_neg hx]
  cases hn : isNan x with
  | true => rw [flt_nan (.inl hn), feq_nan (.inl hn)]; rfl
  | false =>
    rw [flt_eq hn nan_zero, feq_eq hn nan_zero, key_zero]
    unfold minus
    by_cases h : key x < 0
    · simp [h]
    · by_cases h2 : key x = 0
      · rcases zero_cases hx (key_rg_zero.mp h2) with rfl | rfl
        · rw [if_neg (by simp [h]), if_pos (by simp [h2])]; rfl
        · rw [if_neg (by simp [h]), if_pos (by simp [h2])]; rfl
      · have : x ≠ 9223372036854775808 := by rintro rfl; exact h2 (by decide)
        simp [h, h2, this]
theorem FnExactIsMinus : laws_FnExactIsMinus.Pure2 := by
  intro x hx
  refine ⟨0, ?_⟩
  simp only [laws_FnExactIsMinus.f]
  rw [spec_minus hx, Option.bind_some, impl_minus hx, Option.bind_some, if_neg (by simp)]

end Go.Proofs.Ytahnllomlgillaa.Pure

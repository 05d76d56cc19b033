/- The pure statement of FnExactLeastNum: the lesser of two, by one order. -/
import Derived.Test.YtahnllomlgillaaQFnExactLeastNum
import Derived.Test.YtahnllomlgillaaMBase
import Derived.KernelRfl
import Derived.Test.YtahnllomlgillaaMNum
set_option linter.unusedVariables false
set_option linter.unusedSimpArgs false
namespace Go.Proofs.Ytahnllomlgillaa.Pure
open Go.RowKit Go.Proofs.Ytahnllomlgillaa.GLeastNum Go.Proofs.YtahnllomlgillaaW.PrintWords Go.Proofs.YtahnllomlgillaaW.PrintLast Go.Proofs.YtahnllomlgillaaW.PrintMore Go.Proofs.Ytahnllomlgillaa.MBase
open Go.Proofs.Ytahnllomlgillaa.MNum Go.Proofs.Ytahnllomlgillaa.MIeee
def minus (x : Nat) : Bool := decide (key x < 0) || decide (x = 9223372036854775808)
theorem spec_minus {x : Nat} (hx : x < 18446744073709551616) : spec_IsMinus.f x = some (if isNan x = true then false else minus x) := by
  unfold spec_IsMinus.f
  cases hn : isNan x with
  | true => rw [flt_nan (.inl hn), feq_nan (.inl hn)]; rfl
  | false =>
    rw [flt_eq hn nan_zero, feq_eq hn nan_zero, key_zero]
    unfold minus
    by_cases h : key x < 0
    · simp [h]
    · by_cases h2 : key x = 0
      · rcases zero_cases hx (key_rg_zero.mp h2) with rfl | rfl
        · rw [if_neg (by simp [h]), if_pos (by simp [h2]), if_pos inv_pz.1, inv_pz.2.1]; rfl
        · rw [if_neg (by simp [h]), if_pos (by simp [h2]), if_pos inv_nz.1, inv_nz.2.1]; rfl
      · have : x ≠ 9223372036854775808 := by rintro rfl; exact h2 (by decide)
        simp [h, h2, this]
theorem wrap_neg {x : Nat} (hx : x < 18446744073709551616) : decide (wrap64 ((x : Nat) : Int) < 0) = decide (9223372036854775808 ≤ x) := by
  unfold wrap64
  rw [decide_eq_decide]
  omega
theorem impl_minus {x : Nat} (hx : x < 18446744073709551616) : impl_IsMinus.f x = some (if isNan x = true then false else minus x) := by
  unfold impl_IsMinus.f math_Signbit.f
  rw [wrap_neg hx]
  cases hn : isNan x with
  | true => rw [flt_nan (.inl hn), feq_nan (.inl hn)]; rfl
  | false =>
    rw [flt_eq hn nan_zero, feq_eq hn nan_zero, key_zero]
    unfold minus
    by_cases h : key x < 0
    · simp [h]
    · by_cases h2 : key x = 0
      · rcases zero_cases hx (key_rg_zero.mp h2) with rfl | rfl
        · rw [if_neg (by simp [h]), if_pos (by simp [h2])]; rfl
        · rw [if_neg (by simp [h]), if_pos (by simp [h2])]; rfl
      · have : x ≠ 9223372036854775808 := by rintro rfl; exact h2 (by decide)
        simp [h, h2, this]
/-- Two numbers are one: both no number, or the same bits. -/
def same (x y : Nat) : Bool := if isNan x = true then isNan y else decide (isNan y = false ∧ x = y)
theorem spec_nan (x : Nat) : spec_l1Nan.f x = some (isNan x) := by
  unfold spec_l1Nan.f; rw [feq_self]; cases isNan x <;> rfl
theorem minus_pz : minus 0 = false := by decide
theorem minus_nz : minus 9223372036854775808 = true := by decide
theorem spec_same {x y : Nat} (hx : x < 18446744073709551616) (hy : y < 18446744073709551616) : Ev (fun k => spec_l1SameNum.f k x y) (same x y) := by
  simp only [spec_l1SameNum.f, spec_nan, Option.bind_some]
  unfold same
  cases hn : isNan x with
  | true =>
    rw [if_pos rfl]
    refine Ev.ite_pos rfl (Ev.step (f := fun _ => some (isNan y)) (fun k => ?_) (Ev.now _))
    simp only [spec_l1SameNum.j0, spec_nan, Option.bind_some]; rw [if_pos trivial, hn, if_pos rfl]
  | false =>
    rw [if_neg (by simp)]
    refine Ev.ite_neg (by simp) ?_
    cases hm : isNan y with
    | true =>
      rw [decide_eq_false (by simp)]
      refine Ev.step (f := fun _ => some false) (fun k => ?_) (Ev.now _)
      simp only [spec_l1SameNum.j0, spec_nan, Option.bind_some]; rw [if_pos trivial, hn, if_neg (by simp)]
    | false =>
      refine Ev.step (f := fun _ => some (decide (false = false ∧ x = y))) (fun k => ?_) (Ev.now _)
      simp only [spec_l1SameNum.j0, spec_minus hx, spec_minus hy, Option.bind_some]
      rw [if_neg (by simp), feq_eq hn hm, hn, hm]
      simp only [Bool.false_eq_true, if_false, decide_eq_true_eq, true_and]
      by_cases hk : key x = key y
      · rw [if_pos hk]
        congr 1
        by_cases h0 : rg x = 0
        · have hy0 : rg y = 0 := key_rg_zero.mp (hk ▸ key_rg_zero.mpr h0)
          rcases zero_cases hx h0 with rfl | rfl <;> rcases zero_cases hy hy0 with rfl | rfl <;> decide
        · have := key_inj hx hy h0 hk
          subst this
          simp
      · rw [if_neg hk]
        congr 1
        rw [eq_comm, decide_eq_false_iff_not]
        rintro rfl
        exact hk rfl
theorem math_nan (x : Nat) : math_IsNaN.f x = some (isNan x) := by
  unfold math_IsNaN.f; rw [feq_self]; cases isNan x <;> rfl
theorem kind_some (x : Nat) : ∃ v, impl_KindOf.f x = some v ∧ (v = 0 ↔ isNan x = true) := by
  simp only [impl_KindOf.f, math_nan, Option.bind_some]
  cases hn : isNan x with
  | true => exact ⟨0, by rw [if_pos rfl], by simp⟩
  | false =>
    rw [if_neg (by simp)]
    have hi : ∃ b, math_IsInf.f x 0 = some b := by
      simp only [math_IsInf.f, math_Abs.f, Option.bind_some]; rw [if_pos trivial]; exact ⟨_, rfl⟩
    obtain ⟨b, hb⟩ := hi
    have ht : math_Trunc.f x = some (ftrunc x) := by
      unfold math_Trunc.f; rw [ftruncOk_eq, hn]; rfl
    rw [hb, Option.bind_some, ht, Option.bind_some]
    cases b with
    | true => exact ⟨1, by rw [if_pos rfl], by simp⟩
    | false =>
      rw [if_neg (by simp)]
      by_cases h2 : feq x 0 = true
      · exact ⟨2, by rw [if_pos h2], by simp⟩
      · rw [if_neg h2]
        by_cases h3 : feq x (ftrunc x) = true
        · exact ⟨3, by rw [if_pos h3], by simp⟩
        · exact ⟨4, by rw [if_neg h3], by simp⟩
/-- How the numbers stand, no number last, a zero's sign told. -/
def cmpN (x y : Nat) : Int := if same x y = true then 0 else if isNan x = true then 1 else if isNan y = true then -1 else if key x < key y then -1 else if key x = key y then (if minus x = true then -1 else 1) else 1
theorem spec_cmp {x y : Nat} (hx : x < 18446744073709551616) (hy : y < 18446744073709551616) : Ev (fun k => spec_CompareNum.f k x y) (cmpN x y) := by
  simp only [spec_CompareNum.f]
  refine Ev.bind (spec_same hx hy) ?_
  simp only [spec_nan, spec_minus hx, Option.bind_some]
  unfold cmpN
  refine Ev.const ?_
  cases hs : same x y with
  | true => simp only [if_true]
  | false =>
    simp only [Bool.false_eq_true, if_false]
    cases hn : isNan x with
    | true => simp only [if_true]
    | false =>
      simp only [Bool.false_eq_true, if_false]
      cases hm : isNan y with
      | true => simp only [if_true]
      | false =>
        simp only [Bool.false_eq_true, if_false, flt_eq hn hm, feq_eq hn hm, decide_eq_true_eq]
        by_cases h1 : key x < key y
        · simp only [h1, if_true]
        · simp only [h1, if_false]
          by_cases h2 : key x = key y
          · simp only [h2, if_true]; cases minus x <;> rfl
          · simp only [h2, if_false]
theorem cmp_nan (x : Nat) : cmp_isNaN_float64.f x = some (isNan x) := by
  unfold cmp_isNaN_float64.f; rw [feq_self]; cases isNan x <;> rfl
theorem bool_int (b : Bool) : impl_boolInt.f b = some (if b = true then 1 else 0) := by
  unfold impl_boolInt.f; cases b <;> rfl
theorem impl_cmp {x y : Nat} (hx : x < 18446744073709551616) (hy : y < 18446744073709551616) : Ev (fun k => impl_CompareNum.f k x y) (cmpN x y) := by
  obtain ⟨v, hv, ev⟩ := kind_some x
  obtain ⟨u, hu, eu⟩ := kind_some y
  simp only [impl_CompareNum.f, hv, hu, Option.bind_some]
  have e1 : (v == 0) = isNan x := by rw [Bool.eq_iff_iff, beq_iff_eq]; exact ev
  have e2 : (u == 0) = isNan y := by rw [Bool.eq_iff_iff, beq_iff_eq]; exact eu
  have hnan : (isNan x = true ∨ isNan y = true) → Ev (fun k => impl_CompareNum.j0 k x y v u true) (cmpN x y) := by
    intro h
    refine Ev.step (f := fun _ => some (cmpN x y)) (fun k => ?_) (Ev.now _)
    simp only [impl_CompareNum.j0, bool_int, Option.bind_some]
    rw [if_pos trivial, e1, e2]
    unfold cmpN same
    cases hn : isNan x <;> cases hm : isNan y <;> rw [hn, hm] at h <;> simp at h <;> simp [wrap64]
  by_cases hn : isNan x = true
  · exact Ev.ite_pos (ev.mpr hn) (hnan (.inl hn))
  · refine Ev.ite_neg (fun q => hn (ev.mp q)) ?_
    rw [e2]
    have hn' : isNan x = false := by simpa using hn
    cases hm : isNan y with
    | true => exact hnan (.inr hm)
    | false =>
      have hj : ∀ k, impl_CompareNum.j0 (k+1) x y v u false = impl_CompareNum.j1 k x y (decide (key x = 0 ∧ key y = 0)) := by
        intro k
        simp only [impl_CompareNum.j0]
        rw [if_neg (by simp), feq_eq hn' nan_zero, feq_eq hm nan_zero, key_zero]
        by_cases h0 : key x = 0
        · rw [if_pos (by simp [h0])]; congr 1; simp [h0]
        · rw [if_neg (by simp [h0])]; congr 1; simp [h0]
      refine Ev.step hj (Ev.step (f := fun _ => some (cmpN x y)) (fun k => ?_) (Ev.now _))
      simp only [impl_CompareNum.j1, impl_minus hx, impl_minus hy, bool_int, Option.bind_some, cmp_Compare_float64.f, cmp_nan]
      rw [hn', hm]
      simp only [Bool.false_eq_true, if_false]
      by_cases hz : key x = 0 ∧ key y = 0
      · rw [if_pos (decide_eq_true hz)]
        congr 1
        rcases zero_cases hx (key_rg_zero.mp hz.1) with rfl | rfl <;> rcases zero_cases hy (key_rg_zero.mp hz.2) with rfl | rfl <;> kernel_rfl
      · rw [if_neg (by simpa using hz), flt_eq hn' hm, fgt_eq hn' hm]
        unfold cmpN same
        rw [hn', hm]
        simp only [decide_eq_true_eq, Bool.false_eq_true, if_false, true_and]
        by_cases h1 : key x < key y
        · have : x ≠ y := by rintro rfl; omega
          rw [if_pos h1, if_neg this, if_pos h1]; rfl
        · rw [if_neg h1]
          by_cases h2 : key y < key x
          · have h3 : x ≠ y := by rintro rfl; omega
            have h4 : ¬ key x = key y := by omega
            rw [if_pos h2, if_neg h3, if_neg h1, if_neg h4]; rfl
          · have h4 : key x = key y := by omega
            have h0 : rg x ≠ 0 := fun q => hz ⟨key_rg_zero.mpr q, h4 ▸ key_rg_zero.mpr q⟩
            rw [if_neg h2, if_pos (key_inj hx hy h0 h4)]; rfl
theorem sameFloat_ev {x y : Nat} (hx : x < 18446744073709551616) (hy : y < 18446744073709551616) : Ev (fun k => laws_sameFloat.f k x y) (if isNan x = true then isNan y else decide (isNan y = false ∧ x = y)) := by
  simp only [laws_sameFloat.f, feq_self]
  cases hn : isNan x with
  | true =>
    rw [if_pos rfl]
    refine Ev.ite_neg (by simp) (Ev.step (f := fun _ => some (isNan y)) (fun k => ?_) (Ev.now _))
    simp only [laws_sameFloat.j0, feq_self, hn]; rw [if_pos trivial, if_neg (by simp)]; cases isNan y <;> rfl
  | false =>
    rw [if_neg (by simp)]
    refine Ev.ite_pos rfl ?_
    refine Ev.step (f := fun _ => some (decide (isNan y = false ∧ x = y))) (fun k => ?_) (Ev.now _)
    simp only [laws_sameFloat.j0, feq_self, hn]
    cases hm : isNan y with
    | true => simp
    | false =>
      rw [if_neg (by simp), feq_eq hn nan_zero, feq_eq hm nan_zero, feq_eq hn hm, key_zero]
      simp only [decide_eq_true_eq, true_and]
      by_cases h0 : key x = 0
      · rw [if_pos h0]
        by_cases h1 : key y = 0
        · rw [if_pos h1]
          rcases zero_cases hx (key_rg_zero.mp h0) with rfl | rfl <;> rcases zero_cases hy (key_rg_zero.mp h1) with rfl | rfl
          · rw [if_pos inv_pz.1, if_pos inv_pz.1, inv_pz.2.2]; rfl
          · rw [if_pos inv_pz.1, if_pos inv_nz.1, inv_pz.2.2, inv_nz.2.2]; rfl
          · rw [if_pos inv_nz.1, if_pos inv_pz.1, inv_pz.2.2, inv_nz.2.2]; rfl
          · rw [if_pos inv_nz.1, if_pos inv_nz.1, inv_nz.2.2]; rfl
        · rw [if_neg h1]
          congr 1
          rw [decide_eq_decide]
          exact ⟨fun q => absurd (q ▸ h0) h1, fun q => by rw [q]⟩
      · rw [if_neg h0]
        congr 1
        rw [decide_eq_decide]
        exact ⟨fun q => key_inj hx hy (fun z => h0 (key_rg_zero.mpr z)) q, fun q => by rw [q]⟩
theorem sameFloat_refl (x : Nat) (hx : x < 18446744073709551616) : Ev (fun k => laws_sameFloat.f k x x) true := by
  have h := sameFloat_ev hx hx
  cases hn : isNan x <;> rw [hn] at h <;> simpa using h
theorem FnExactLeastNum : laws_FnExactLeastNum.Pure2 := by
  intro x y hx hy
  apply Ev.rounds
  simp only [laws_FnExactLeastNum.f]
  by_cases h : cmpN x y ≤ 0
  · refine Ev.bind (g := fun k => spec_LeastNum.f k x y) (Ev.bind (spec_cmp hx hy) (Ev.ite_pos h (Ev.now _))) (Ev.bind (g := fun k => impl_LeastNum.f k x y) (Ev.bind (impl_cmp hx hy) (Ev.ite_pos h (Ev.now _))) ?_)
    exact Ev.bind (sameFloat_refl x hx) (Ev.ite_pos rfl (Ev.now _))
  · refine Ev.bind (g := fun k => spec_LeastNum.f k x y) (Ev.bind (spec_cmp hx hy) (Ev.ite_neg h (Ev.now _))) (Ev.bind (g := fun k => impl_LeastNum.f k x y) (Ev.bind (impl_cmp hx hy) (Ev.ite_neg h (Ev.now _))) ?_)
    exact Ev.bind (sameFloat_refl y hy) (Ev.ite_pos rfl (Ev.now _))

end Go.Proofs.Ytahnllomlgillaa.Pure

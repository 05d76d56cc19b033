/- What is known of numbers that are drawn: their order, and what they are made of. -/
import Derived.Test.YthdpiceiemkjlaaGNumbersx5
import Derived.Test.YthdpiceiemkjlaaMBase
import Derived.KernelRfl
import Derived.Test.YthdpiceiemkjlaaPureDrawsNum
import Derived.Test.YthdpiceiemkjlaaGNumbersx5
import Derived.Test.YthdpiceiemkjlaaMReal
import Derived.Test.YthdpiceiemkjlaaMNum
set_option linter.unusedVariables false
set_option linter.unusedSimpArgs false
namespace Go.Proofs.Ythdpiceiemkjlaa.Pure
open Go.RowKit Go.Proofs.Ythdpiceiemkjlaa.GNumbers Go.Proofs.YthdpiceiemkjlaaW.PrintWords Go.Proofs.YthdpiceiemkjlaaW.PrintLast Go.Proofs.YthdpiceiemkjlaaW.PrintMore Go.Proofs.Ythdpiceiemkjlaa.MBase
open Go.Proofs.Ythdpiceiemkjlaa Go.Proofs.Ythdpiceiemkjlaa.MNum Go.Proofs.Ythdpiceiemkjlaa.MIeee Go.Proofs.Ythdpiceiemkjlaa.MReal
namespace CmpN
def minus (x : Nat) : Bool := decide (key x < 0) || decide (x = 9223372036854775808)
theorem spec_minus {x : Nat} (hx : x < 18446744073709551616) : spec_IsMinus.f x = some (if isNan x = true then false else minus x) := by
  unfold spec_IsMinus.f
  cases hn : isNan x with
  | true => rw [flt_nan (.inl hn), feq_nan (.inl hn)]; rfl
  | false =>
    rw [flt_eq hn nan_zero, feq_eq hn nan_zero, key_zero]
    unfold minus
    by_cases h : key x < 0
    · simp [h]
    · by_cases h2 : key x = 0
      · rcases zero_cases hx (key_rg_zero.mp h2) with rfl | rfl
        · rw [if_neg (by simp [h]), if_pos (by simp [h2]), if_pos inv_pz.1, inv_pz.2.1]; rfl
        · rw [if_neg (by simp [h]), if_pos (by simp [h2]), if_pos inv_nz.1, inv_nz.2.1]; rfl
      · have : x ≠ 9223372036854775808 := by rintro rfl; exact h2 (by decide)
        simp [h, h2, this]
theorem wrap_neg {x : Nat} (hx : x < 18446744073709551616) : decide (wrap64 ((x : Nat) : Int) < 0) = decide (9223372036854775808 ≤ x) := by
  unfold wrap64
  rw [decide_eq_decide]
  omega
theorem impl_minus {x : Nat} (hx : x < 18446744073709551616) : impl_IsMinus.f x = some (if isNan x = true then false else minus x) := by
  unfold impl_IsMinus.f math_Signbit.f
  rw [wrap_neg hx]
  cases hn : isNan x with
  | true => rw [flt_nan (.inl hn), feq_nan (.inl hn)]; rfl
  | false =>
    rw [flt_eq hn nan_zero, feq_eq hn nan_zero, key_zero]
    unfold minus
    by_cases h : key x < 0
    · simp [h]
    · by_cases h2 : key x = 0
      · rcases zero_cases hx (key_rg_zero.mp h2) with rfl | rfl
        · rw [if_neg (by simp [h]), if_pos (by simp [h2])]; rfl
        · rw [if_neg (by simp [h]), if_pos (by simp [h2])]; rfl
      · have : x ≠ 9223372036854775808 := by rintro rfl; exact h2 (by decide)
        simp [h, h2, this]
/-- Two numbers are one: both no number, or the same bits. -/
def same (x y : Nat) : Bool := if isNan x = true then isNan y else decide (isNan y = false ∧ x = y)
theorem spec_nan (x : Nat) : spec_l1Nan.f x = some (isNan x) := by
  unfold spec_l1Nan.f; rw [feq_self]; cases isNan x <;> rfl
theorem minus_pz : minus 0 = false := by decide
theorem minus_nz : minus 9223372036854775808 = true := by decide
theorem spec_same {x y : Nat} (hx : x < 18446744073709551616) (hy : y < 18446744073709551616) : Ev (fun k => spec_l1SameNum.f k x y) (same x y) := by
  simp only [spec_l1SameNum.f, spec_nan, Option.bind_some]
  unfold same
  cases hn : isNan x with
  | true =>
    rw [if_pos rfl]
    refine Ev.ite_pos rfl (Ev.step (f := fun _ => some (isNan y)) (fun k => ?_) (Ev.now _))
    simp only [spec_l1SameNum.j0, spec_nan, Option.bind_some]; rw [if_pos trivial, hn, if_pos rfl]
  | false =>
    rw [if_neg (by simp)]
    refine Ev.ite_neg (by simp) ?_
    cases hm : isNan y with
    | true =>
      rw [decide_eq_false (by simp)]
      refine Ev.step (f := fun _ => some false) (fun k => ?_) (Ev.now _)
      simp only [spec_l1SameNum.j0, spec_nan, Option.bind_some]; rw [if_pos trivial, hn, if_neg (by simp)]
    | false =>
      refine Ev.step (f := fun _ => some (decide (false = false ∧ x = y))) (fun k => ?_) (Ev.now _)
      simp only [spec_l1SameNum.j0, spec_minus hx, spec_minus hy, Option.bind_some]
      rw [if_neg (by simp), feq_eq hn hm, hn, hm]
      simp only [Bool.false_eq_true, if_false, decide_eq_true_eq, true_and]
      by_cases hk : key x = key y
      · rw [if_pos hk]
        congr 1
        by_cases h0 : rg x = 0
        · have hy0 : rg y = 0 := key_rg_zero.mp (hk ▸ key_rg_zero.mpr h0)
          rcases zero_cases hx h0 with rfl | rfl <;> rcases zero_cases hy hy0 with rfl | rfl <;> decide
        · have := key_inj hx hy h0 hk
          subst this
          simp
      · rw [if_neg hk]
        congr 1
        rw [eq_comm, decide_eq_false_iff_not]
        rintro rfl
        exact hk rfl
theorem math_nan (x : Nat) : math_IsNaN.f x = some (isNan x) := by
  unfold math_IsNaN.f; rw [feq_self]; cases isNan x <;> rfl
theorem kind_some (x : Nat) : ∃ v, impl_KindOf.f x = some v ∧ (v = 0 ↔ isNan x = true) := by
  simp only [impl_KindOf.f, math_nan, Option.bind_some]
  cases hn : isNan x with
  | true => exact ⟨0, by rw [if_pos rfl], by simp⟩
  | false =>
    rw [if_neg (by simp)]
    have hi : ∃ b, math_IsInf.f x 0 = some b := by
      simp only [math_IsInf.f, math_Abs.f, Option.bind_some]; rw [if_pos trivial]; exact ⟨_, rfl⟩
    obtain ⟨b, hb⟩ := hi
    have ht : math_Trunc.f x = some (ftrunc x) := by
      unfold math_Trunc.f; rw [ftruncOk_eq, hn]; rfl
    rw [hb, Option.bind_some, ht, Option.bind_some]
    cases b with
    | true => exact ⟨1, by rw [if_pos rfl], by simp⟩
    | false =>
      rw [if_neg (by simp)]
      by_cases h2 : feq x 0 = true
      · exact ⟨2, by rw [if_pos h2], by simp⟩
      · rw [if_neg h2]
        by_cases h3 : feq x (ftrunc x) = true
        · exact ⟨3, by rw [if_pos h3], by simp⟩
        · exact ⟨4, by rw [if_neg h3], by simp⟩
/-- How the numbers stand, no number last, a zero's sign told. -/
def cmpN (x y : Nat) : Int := if same x y = true then 0 else if isNan x = true then 1 else if isNan y = true then -1 else if key x < key y then -1 else if key x = key y then (if minus x = true then -1 else 1) else 1
theorem spec_cmp {x y : Nat} (hx : x < 18446744073709551616) (hy : y < 18446744073709551616) : Ev (fun k => spec_CompareNum.f k x y) (cmpN x y) := by
  simp only [spec_CompareNum.f]
  refine Ev.bind (spec_same hx hy) ?_
  simp only [spec_nan, spec_minus hx, Option.bind_some]
  unfold cmpN
  refine Ev.const ?_
  cases hs : same x y with
  | true => simp only [if_true]
  | false =>
    simp only [Bool.false_eq_true, if_false]
    cases hn : isNan x with
    | true => simp only [if_true]
    | false =>
      simp only [Bool.false_eq_true, if_false]
      cases hm : isNan y with
      | true => simp only [if_true]
      | false =>
        simp only [Bool.false_eq_true, if_false, flt_eq hn hm, feq_eq hn hm, decide_eq_true_eq]
        by_cases h1 : key x < key y
        · simp only [h1, if_true]
        · simp only [h1, if_false]
          by_cases h2 : key x = key y
          · simp only [h2, if_true]; cases minus x <;> rfl
          · simp only [h2, if_false]
theorem cmp_nan (x : Nat) : cmp_isNaN_float64.f x = some (isNan x) := by
  unfold cmp_isNaN_float64.f; rw [feq_self]; cases isNan x <;> rfl
theorem bool_int (b : Bool) : impl_boolInt.f b = some (if b = true then 1 else 0) := by
  unfold impl_boolInt.f; cases b <;> rfl
theorem impl_cmp {x y : Nat} (hx : x < 18446744073709551616) (hy : y < 18446744073709551616) : Ev (fun k => impl_CompareNum.f k x y) (cmpN x y) := by
  obtain ⟨v, hv, ev⟩ := kind_some x
  obtain ⟨u, hu, eu⟩ := kind_some y
  simp only [impl_CompareNum.f, hv, hu, Option.bind_some]
  have e1 : (v == 0) = isNan x := by rw [Bool.eq_iff_iff, beq_iff_eq]; exact ev
  have e2 : (u == 0) = isNan y := by rw [Bool.eq_iff_iff, beq_iff_eq]; exact eu
  have hnan : (isNan x = true ∨ isNan y = true) → Ev (fun k => impl_CompareNum.j0 k x y v u true) (cmpN x y) := by
    intro h
    refine Ev.step (f := fun _ => some (cmpN x y)) (fun k => ?_) (Ev.now _)
    simp only [impl_CompareNum.j0, bool_int, Option.bind_some]
    rw [if_pos trivial, e1, e2]
    unfold cmpN same
    cases hn : isNan x <;> cases hm : isNan y <;> rw [hn, hm] at h <;> simp at h <;> simp [wrap64]
  by_cases hn : isNan x = true
  · exact Ev.ite_pos (ev.mpr hn) (hnan (.inl hn))
  · refine Ev.ite_neg (fun q => hn (ev.mp q)) ?_
    rw [e2]
    have hn' : isNan x = false := by simpa using hn
    cases hm : isNan y with
    | true => exact hnan (.inr hm)
    | false =>
      have hj : ∀ k, impl_CompareNum.j0 (k+1) x y v u false = impl_CompareNum.j1 k x y (decide (key x = 0 ∧ key y = 0)) := by
        intro k
        simp only [impl_CompareNum.j0]
        rw [if_neg (by simp), feq_eq hn' nan_zero, feq_eq hm nan_zero, key_zero]
        by_cases h0 : key x = 0
        · rw [if_pos (by simp [h0])]; congr 1; simp [h0]
        · rw [if_neg (by simp [h0])]; congr 1; simp [h0]
      refine Ev.step hj (Ev.step (f := fun _ => some (cmpN x y)) (fun k => ?_) (Ev.now _))
      simp only [impl_CompareNum.j1, impl_minus hx, impl_minus hy, bool_int, Option.bind_some, cmp_Compare_float64.f, cmp_nan]
      rw [hn', hm]
      simp only [Bool.false_eq_true, if_false]
      by_cases hz : key x = 0 ∧ key y = 0
      · rw [if_pos (decide_eq_true hz)]
        congr 1
        rcases zero_cases hx (key_rg_zero.mp hz.1) with rfl | rfl <;> rcases zero_cases hy (key_rg_zero.mp hz.2) with rfl | rfl <;> kernel_rfl
      · rw [if_neg (by simpa using hz), flt_eq hn' hm, fgt_eq hn' hm]
        unfold cmpN same
        rw [hn', hm]
        simp only [decide_eq_true_eq, Bool.false_eq_true, if_false, true_and]
        by_cases h1 : key x < key y
        · have : x ≠ y := by rintro rfl; omega
          rw [if_pos h1, if_neg this, if_pos h1]; rfl
        · rw [if_neg h1]
          by_cases h2 : key y < key x
          · have h3 : x ≠ y := by rintro rfl; omega
            have h4 : ¬ key x = key y := by omega
            rw [if_pos h2, if_neg h3, if_neg h1, if_neg h4]; rfl
          · have h4 : key x = key y := by omega
            have h0 : rg x ≠ 0 := fun q => hz ⟨key_rg_zero.mpr q, h4 ▸ key_rg_zero.mpr q⟩
            rw [if_neg h2, if_pos (key_inj hx hy h0 h4)]; rfl
theorem impl_same {x y : Nat} : impl_SameNum.f x y = some (same x y) := by
  simp only [impl_SameNum.f, math_nan, Option.bind_some]
  unfold same
  cases hn : isNan x with
  | true =>
    rw [if_pos rfl, if_pos rfl]
    cases hm : isNan y with
    | true => rfl
    | false =>
      rw [if_neg (by simp)]
      congr 1
      rw [beq_eq_false_iff_ne]
      intro q
      have : x = y := by omega
      rw [this, hm] at hn
      cases hn
  | false =>
    rw [if_neg (by simp), if_neg (by simp)]
    congr 1
    rw [Bool.eq_iff_iff, beq_iff_eq, decide_eq_true_eq]
    constructor
    · intro q
      have : x = y := by omega
      exact ⟨this ▸ hn, this⟩
    · rintro ⟨_, rfl⟩; rfl
theorem same_comm (x y : Nat) : same y x = same x y := by
  unfold same
  cases isNan x <;> cases isNan y <;> simp [eq_comm]
theorem same_refl (x : Nat) : same x x = true := by
  unfold same
  cases isNan x <;> simp
theorem cmp_vals (x y : Nat) : cmpN x y = -1 ∨ cmpN x y = 0 ∨ cmpN x y = 1 := by
  unfold cmpN
  repeat' split
  all_goals simp
theorem cmp_zero (x y : Nat) : cmpN x y = 0 ↔ same x y = true := by
  unfold cmpN
  cases same x y with
  | true => simp
  | false =>
    simp only [Bool.false_eq_true, if_false, iff_false]
    repeat' split
    all_goals simp
theorem cmp_neg {x y : Nat} (hx : x < 18446744073709551616) (hy : y < 18446744073709551616) : cmpN y x = -cmpN x y := by
  unfold cmpN
  rw [same_comm x y]
  cases hs : same x y with
  | true => simp
  | false =>
    simp only [Bool.false_eq_true, if_false]
    cases hn : isNan x <;> cases hm : isNan y
    · simp only [Bool.false_eq_true, if_false]
      by_cases h1 : key x < key y
      · rw [if_pos h1, if_neg (by omega), if_neg (by omega)]; rfl
      · rw [if_neg h1]
        by_cases h2 : key x = key y
        · have hne : x ≠ y := by
            rintro rfl
            rw [same_refl] at hs
            cases hs
          have hr : rg x = 0 := by
            apply Classical.byContradiction
            intro q
            exact hne (key_inj hx hy q h2)
          have hk : key y = 0 := by rw [← h2]; exact key_rg_zero.mpr hr
          have hr2 : rg y = 0 := key_rg_zero.mp hk
          rw [if_pos h2, if_neg (by omega), if_pos h2.symm]
          rcases zero_cases hx hr with rfl | rfl <;> rcases zero_cases hy hr2 with rfl | rfl
          · exact absurd rfl hne
          · rw [minus_pz, minus_nz]; rfl
          · rw [minus_pz, minus_nz]; rfl
          · exact absurd rfl hne
        · rw [if_neg h2, if_pos (by omega)]
    · simp
    · simp
    · unfold same at hs
      rw [hn, hm] at hs
      simp at hs
theorem flt_cmp {x y : Nat} (h : flt x y = true) : cmpN x y = -1 := by
  cases hn : isNan x with
  | true => rw [flt_nan (.inl hn)] at h; cases h
  | false =>
    cases hm : isNan y with
    | true => rw [flt_nan (.inr hm)] at h; cases h
    | false =>
      rw [flt_eq hn hm, decide_eq_true_eq] at h
      have hs : same x y = false := by
        unfold same
        rw [hn]
        simp only [Bool.false_eq_true, if_false, decide_eq_false_iff_not, not_and]
        rintro _ rfl
        omega
      unfold cmpN
      rw [hs, hn, hm]
      simp only [Bool.false_eq_true, if_false]
      rw [if_pos h]
theorem same00 : laws_sameNum.f 0 0 = some (same 0 0) := by kernel_rfl
theorem same01 : laws_sameNum.f 0 9223372036854775808 = some (same 0 9223372036854775808) := by kernel_rfl
theorem same10 : laws_sameNum.f 9223372036854775808 0 = some (same 9223372036854775808 0) := by kernel_rfl
theorem same11 : laws_sameNum.f 9223372036854775808 9223372036854775808 = some (same 9223372036854775808 9223372036854775808) := by kernel_rfl
theorem law_same {x y : Nat} (hx : x < 18446744073709551616) (hy : y < 18446744073709551616) : laws_sameNum.f x y = some (same x y) := by
  by_cases hz : rg x = 0 ∧ rg y = 0
  · rcases zero_cases hx hz.1 with rfl | rfl <;> rcases zero_cases hy hz.2 with rfl | rfl
    · exact same00
    · exact same01
    · exact same10
    · exact same11
  unfold laws_sameNum.f same
  rw [feq_self, feq_self]
  cases hn : isNan x with
  | true => simp
  | false =>
    cases hm : isNan y with
    | true => simp
    | false =>
      simp only [Bool.not_false, if_true, Bool.false_eq_true, if_false, true_and]
      rw [feq_eq hn hm, feq_eq hn nan_zero, key_zero]
      simp only [decide_eq_true_eq]
      by_cases hk : key x = key y
      · rw [if_pos hk]
        by_cases h0 : key x = 0
        · exact absurd ⟨key_rg_zero.mp h0, key_rg_zero.mp (hk ▸ h0)⟩ hz
        · rw [if_neg h0, decide_eq_true (key_inj hx hy (fun z => h0 (key_rg_zero.mpr z)) hk)]
      · rw [if_neg hk, decide_eq_false]
        rintro rfl
        exact hk rfl
/-- The lesser one. -/
def leastN (x y : Nat) : Nat := if cmpN x y ≤ 0 then x else y
theorem impl_least {x y : Nat} (hx : x < 18446744073709551616) (hy : y < 18446744073709551616) : Ev (fun k => impl_LeastNum.f k x y) (leastN x y) := by
  unfold leastN
  by_cases h : cmpN x y ≤ 0
  · rw [if_pos h]; exact Ev.bind (impl_cmp hx hy) (Ev.ite_pos h (Ev.now _))
  · rw [if_neg h]; exact Ev.bind (impl_cmp hx hy) (Ev.ite_neg h (Ev.now _))
theorem spec_least {x y : Nat} (hx : x < 18446744073709551616) (hy : y < 18446744073709551616) : Ev (fun k => spec_LeastNum.f k x y) (leastN x y) := by
  unfold leastN
  by_cases h : cmpN x y ≤ 0
  · rw [if_pos h]; exact Ev.bind (spec_cmp hx hy) (Ev.ite_pos h (Ev.now _))
  · rw [if_neg h]; exact Ev.bind (spec_cmp hx hy) (Ev.ite_neg h (Ev.now _))
end CmpN
theorem spec_nan (x : Nat) : spec_l1Nan.f x = some (isNan x) := by
  unfold spec_l1Nan.f; rw [feq_self]; cases isNan x <;> rfl
theorem spec_kind {x : Nat} (hx : x < 18446744073709551616) : Ev (fun k => spec_KindOf.f k x) (kindN x) := by
  simp only [spec_KindOf.f, spec_nan, inf_eq, Option.bind_some]
  unfold kindN
  cases hn : isNan x with
  | true => exact Ev.ite_pos rfl (Ev.now _)
  | false =>
    have hle : ¬ INF < rg x := of_decide_eq_false hn
    simp only [Bool.false_eq_true, if_false, decide_eq_true_eq]
    by_cases hi : rg x = INF
    · rw [if_pos hi]; exact Ev.ite_pos hi (Ev.now _)
    · rw [if_neg hi]
      refine Ev.ite_neg hi ?_
      rw [feq_eq hn nan_zero, key_zero]
      simp only [decide_eq_true_eq, key_rg_zero]
      by_cases hz : rg x = 0
      · rw [if_pos hz]; exact Ev.ite_pos hz (Ev.now _)
      · rw [if_neg hz]
        refine Ev.ite_neg hz ?_
        obtain ⟨u, q, hu, hu1, hq, hst⟩ := st_of hx (by omega) (by omega)
        rw [hst.val]
        refine Ev.bind (parts_ev hst hu hu1 hq) ?_
        simp only
        by_cases hd : E74 ≤ q
        · rw [if_pos ((odd_dvd hu).mpr hd)]; exact Ev.ite_pos (by omega) (Ev.now _)
        · rw [if_neg (fun w => hd ((odd_dvd hu).mp w))]; exact Ev.ite_neg (by omega) (Ev.now _)
theorem sgn_inj {s s' : Bool} {u u' : Nat} (hu : u % 2 = 1) (hu' : u' % 2 = 1) (h : sgn s u = sgn s' u') : s = s' ∧ u = u' := by
  unfold sgn at h
  cases s <;> cases s' <;> simp at h ⊢ <;> omega
theorem St.unique {x y u q : Nat} {s : Bool} (h : St x s u q) (g : St y s u q) : x = y := by
  have hr : rg x = rg y := val_inj.mp (h.val.trans g.val.symm)
  have ex := split_word h.lt
  have ey := split_word g.lt
  rw [h.sg] at ex
  rw [g.sg] at ey
  omega
theorem st_cases {x : Nat} (h : isNan x = false) (hx : x < 18446744073709551616) : rg x = INF ∨ rg x = 0 ∨ ∃ u q, u % 2 = 1 ∧ u < 9007199254740992 ∧ q < T98 ∧ St x (sg x) u q := by
  have hle : ¬ INF < rg x := of_decide_eq_false h
  by_cases hi : rg x = INF
  · exact .inl hi
  · by_cases hz : rg x = 0
    · exact .inr (.inl hz)
    · exact .inr (.inr (st_of hx (by omega) (by omega)))
/-- Whether an odd number times a power of two is a double. -/
def Rep (u : Nat) (n : Int) : Prop := ∃ q : Nat, (q : Int) = n + 1074 ∧ u * 2 ^ q < 2 ^ T98
theorem fofi_st (s : Bool) (u : Nat) (hu0 : 0 < u) (hu : u < 9007199254740992) : St (fofi (sgn s u)) s u E74 := by
  have hab : (sgn s u).natAbs = u := by unfold sgn; split <;> omega
  have hne : sgn s u ≠ 0 := by unfold sgn; split <;> omega
  obtain ⟨r, hr0, hr, hv, he⟩ := fofi_eq (sgn s u) hne (by omega)
  have hs : decide (sgn s u < 0) = s := by unfold sgn; cases s <;> simp <;> omega
  rw [he, hs]
  rw [hab] at hv
  exact st_word s hr0 hr hv
theorem zero_feq {x : Nat} (h : isNan x = false) : feq x 0 = decide (rg x = 0) := by
  rw [feq_eq h nan_zero, key_zero, decide_eq_decide]; exact key_rg_zero
/-- What the spec makes of a number of its kind. -/
theorem spec_end (s : Bool) (u : Nat) (hu : u % 2 = 1) (hu1 : u < 9007199254740992) (n : Int) (hn : -1200 ≤ n ∧ n ≤ 1200) (y : Nat) (h1 : isNan y = false) (h2 : y < 18446744073709551616)
    (hy : Ev (fun k => spec_l1Scaled.f k (fofi (sgn s u)) n) y) :
    (∀ q : Nat, (q : Int) = n + 1074 → St y s u q → Ev (fun k => spec_NumOf.j0 k (sgn s u) n false) (y, true)) ∧ (¬ Rep u n → Ev (fun k => spec_NumOf.j0 k (sgn s u) n false) (0, false)) := by
  have hE := E74_eq
  have hj0 : ∀ k, spec_NumOf.j0 (k+1) (sgn s u) n false = (spec_l1Scaled.f k (fofi (sgn s u)) n).bind fun t => if rg t = INF then spec_NumOf.j1 k (sgn s u) n t true else spec_NumOf.j1 k (sgn s u) n t (feq t 0) := by
    intro k
    simp only [spec_NumOf.j0]
    rw [if_neg (by simp)]
    congr 1
    funext t
    rw [inf_eq, Option.bind_some]
    simp only [decide_eq_true_eq]
  have htrue : ∀ t, Ev (fun k => spec_NumOf.j1 k (sgn s u) n t true) (0, false) := fun t => Ev.step (f := fun _ => some (0, false)) (fun k => by simp only [spec_NumOf.j1]; rw [if_pos trivial]) (Ev.now _)
  have hfin : ∀ (s' : Bool) (u' q' : Nat), u' % 2 = 1 → u' < 9007199254740992 → q' < T98 → St y s' u' q' → Ev (fun k => spec_NumOf.j0 k (sgn s u) n false) (if sgn s' u' = sgn s u ∧ (q' : Int) - E74 = n then (y, true) else (0, false)) := by
    intro s' u' q' hu' hu1' hq' hst
    refine Ev.step hj0 (Ev.bind hy (Ev.ite_neg (by have := hst.fin; omega) ?_))
    rw [zero_feq h1, decide_eq_false (by have := hst.pos; omega)]
    refine Ev.step (f := fun k => (spec_l1Parts.f k y).bind fun b => if b.1 = sgn s u then (if b.2 = n then some (y, true) else some (0, false)) else some (0, false)) (fun k => by simp only [spec_NumOf.j1]; rw [if_neg (by simp)]) ?_
    refine Ev.bind (parts_ev hst hu' hu1' hq') ?_
    simp only
    by_cases c1 : sgn s' u' = sgn s u
    · by_cases c2 : (q' : Int) - E74 = n
      · have e0 : (if sgn s' u' = sgn s u ∧ (q' : Int) - E74 = n then (y, true) else (0, false)) = (y, true) := if_pos ⟨c1, c2⟩
        rw [e0]; exact Ev.ite_pos c1 (Ev.ite_pos c2 (Ev.now _))
      · have e0 : (if sgn s' u' = sgn s u ∧ (q' : Int) - E74 = n then (y, true) else (0, false)) = (0, false) := if_neg (fun w => c2 w.2)
        rw [e0]; exact Ev.ite_pos c1 (Ev.ite_neg c2 (Ev.now _))
    · have e0 : (if sgn s' u' = sgn s u ∧ (q' : Int) - E74 = n then (y, true) else (0, false)) = (0, false) := if_neg (fun w => c1 w.1)
      rw [e0]; exact Ev.ite_neg c1 (Ev.now _)
  constructor
  · intro q hq hst
    have hqT : q < T98 := by
      have h3 := hst.top
      have h4 : 2 ^ q ≤ u * 2 ^ q := Nat.le_mul_of_pos_left _ (by omega)
      exact (Nat.pow_lt_pow_iff_right (by omega)).mp (Nat.lt_of_le_of_lt h4 h3)
    have r := hfin s u q hu hu1 hqT hst
    rw [if_pos ⟨rfl, by omega⟩] at r
    exact r
  · intro hR
    rcases st_cases h1 h2 with hi | hz | ⟨u', q', hu', hu1', hq', hst⟩
    · exact Ev.step hj0 (Ev.bind hy (Ev.ite_pos hi (htrue y)))
    · refine Ev.step hj0 (Ev.bind hy (Ev.ite_neg (by rw [hz]; decide) ?_))
      rw [zero_feq h1, decide_eq_true hz]
      exact htrue y
    · have r := hfin _ u' q' hu' hu1' hq' hst
      rw [if_neg] at r
      · exact r
      · rintro ⟨c1, c2⟩
        have := sgn_inj hu' hu c1
        exact hR ⟨q', by omega, by rw [← this.2]; exact hst.top⟩
theorem ldN_ok (s : Bool) (e f : Nat) (n : Int) (he : e ≤ 2046) (hf : f < 4503599627370496) : isNan (ldN s e f n) = false ∧ ldN s e f n < 18446744073709551616 := by
  have hI : INF = 9218868437227405312 := rfl
  unfold ldN
  split
  · exact ⟨nan_word s (by omega), word_lt s (by omega)⟩
  · split
    · exact ⟨nan_word s (by omega), word_lt s (by omega)⟩
    · split
      · have := mul_pow_ok' pow_m53 (x := Ieee.double.word s ((n + (e : Int) + 53).toNat * 4503599627370496 + f)) (nan_word s (by omega))
        exact this.2
      · exact ⟨nan_word s (by omega), word_lt s (by omega)⟩
/-- Where the number is a double, ldexp gives it. -/
theorem ldN_st (s : Bool) (u : Nat) (hu : u % 2 = 1) (hu1 : u < 9007199254740992) (n : Int) (q : Nat) (hq : (q : Int) = n + 1074) (ht : u * 2 ^ q < 2 ^ T98) (e f : Nat) (he1 : 1 ≤ e) (heE : e - 1 ≤ E74) (hf : f < 4503599627370496) (hm : 4503599627370496 + f = u * 2 ^ (E74 - (e - 1))) :
    St (ldN s e f n) s u q := by
  have hE := E74_eq
  have hT := T98_eq
  have hI : INF = 9218868437227405312 := rfl
  have hb : E74 - (e - 1) ≤ 52 := by
    apply Classical.byContradiction
    intro hc
    have h1 : (2 : Nat) ^ 53 ≤ 2 ^ (E74 - (e - 1)) := Nat.pow_le_pow_right (by omega) (by omega)
    have h2 : 2 ^ (E74 - (e - 1)) ≤ u * 2 ^ (E74 - (e - 1)) := Nat.le_mul_of_pos_left _ (by omega)
    have h3 : (2 : Nat) ^ 53 = 9007199254740992 := by decide
    omega
  have hup : n + (e : Int) ≤ 2046 := by
    apply Classical.byContradiction
    intro hc
    obtain ⟨d, hd⟩ : ∃ d, q = (E74 - (e - 1)) + d ∧ 2046 ≤ d := ⟨q - (E74 - (e - 1)), by omega, by omega⟩
    rw [hd.1, Nat.pow_add, ← Nat.mul_assoc, ← hm] at ht
    have h4 : 2 ^ 52 * 2 ^ d ≤ (4503599627370496 + f) * 2 ^ d := Nat.mul_le_mul_right _ (by rw [show (2 : Nat) ^ 52 = 4503599627370496 from by decide]; omega)
    rw [← Nat.pow_add] at h4
    have h5 : 52 + d < T98 := (Nat.pow_lt_pow_iff_right (by omega)).mp (Nat.lt_of_le_of_lt h4 ht)
    omega
  unfold ldN
  rw [if_neg (by omega), if_neg (by omega)]
  by_cases c : n + ((e : Int) - 1023) < -1022
  · rw [if_pos c]
    obtain ⟨g, hg⟩ : ∃ g : Nat, n + (e : Int) + 53 = (g : Int) := ⟨(n + (e : Int) + 53).toNat, by omega⟩
    rw [hg, Int.toNat_natCast]
    have hrg : rg (Ieee.double.word s (g * 4503599627370496 + f)) = g * 4503599627370496 + f := rg_word s (by omega)
    have hsg : sg (Ieee.double.word s (g * 4503599627370496 + f)) = s := sg_word s (by omega)
    obtain ⟨r, hr0, hr, hv⟩ := rung_of (q := q) (by omega) hu1 ht
    have hval : val (g * 4503599627370496 + f) = u * 2 ^ q * 2 ^ 53 := by
      rw [val_norm (by omega) hf, hm, Nat.mul_assoc, Nat.mul_assoc, ← Nat.pow_add, ← Nat.pow_add]
      congr 2
      omega
    have hmd := mul_down' (j := 53) pow_m53 (x := Ieee.double.word s (g * 4503599627370496 + f)) (by rw [hrg]; omega) (by rw [hrg]; omega) hr0 hr (by rw [hrg, hval, hv])
    rw [hmd, hsg]
    exact st_word s hr0 hr hv
  · rw [if_neg c]
    obtain ⟨g, hg⟩ : ∃ g : Nat, n + (e : Int) = (g : Int) := ⟨(n + (e : Int)).toNat, by omega⟩
    rw [hg, Int.toNat_natCast]
    refine st_word s (by omega) (by omega) ?_
    rw [val_norm (by omega) hf, hm, Nat.mul_assoc, ← Nat.pow_add]
    congr 2
    omega
theorem impl_end (s : Bool) (u : Nat) (hu : u % 2 = 1) (hu1 : u < 9007199254740992) (n : Int) (hn : -1200 ≤ n ∧ n ≤ 1200) :
    (∀ q : Nat, (q : Int) = n + 1074 → u * 2 ^ q < 2 ^ T98 → ∃ y, St y s u q ∧ Ev (fun k => impl_NumOf.j0 k (sgn s u) n false) (y, true)) ∧ (¬ Rep u n → Ev (fun k => impl_NumOf.j0 k (sgn s u) n false) (0, false)) := by
  have hE := E74_eq
  have hI : INF = 9218868437227405312 := rfl
  have hst0 := fofi_st s u (by omega) hu1
  have hnorm : 4503599627370496 ≤ rg (fofi (sgn s u)) := by
    apply Classical.byContradiction
    intro hc
    have h1 : val (rg (fofi (sgn s u))) = rg (fofi (sgn s u)) := by unfold MIeee.val; rw [if_pos (by omega)]
    have h2 := hst0.val
    rw [h1] at h2
    have h3 : (2 : Nat) ^ 52 ≤ 2 ^ E74 := Nat.pow_le_pow_right (by omega) (by omega)
    have h4 : 2 ^ E74 ≤ u * 2 ^ E74 := Nat.le_mul_of_pos_left _ (by omega)
    have h5 : (2 : Nat) ^ 52 = 4503599627370496 := by decide
    omega
  obtain ⟨e, f, he1, he2, hf, er, heE, hm⟩ := fields hst0 hu hnorm
  have hw : fofi (sgn s u) = Ieee.double.word s (e * 4503599627370496 + f) := by
    have := word_of hst0.lt
    rw [hst0.sg, er] at this
    exact this
  have hld := ldexp_norm hw he1 he2 hf n (by omega)
  have hok := ldN_ok s e f n he2 hf
  have hj0 : ∀ k, impl_NumOf.j0 (k+1) (sgn s u) n false = (impl_PartsOf.f k (ldN s e f n)).bind fun b => if b.2.2 = true then (if b.1 = sgn s u then (if b.2.1 = n then some (ldN s e f n, true) else some (0, false)) else some (0, false)) else some (0, false) := by
    intro k
    simp only [impl_NumOf.j0]
    rw [if_neg (by simp), hld, Option.bind_some]
  have hfin : ∀ (s' : Bool) (u' q' : Nat), u' % 2 = 1 → u' < 9007199254740992 → q' < T98 → St (ldN s e f n) s' u' q' → Ev (fun k => impl_NumOf.j0 k (sgn s u) n false) (if sgn s' u' = sgn s u ∧ (q' : Int) - E74 = n then (ldN s e f n, true) else (0, false)) := by
    intro s' u' q' hu' hu1' hq' hst
    refine Ev.step hj0 (Ev.bind (impl_parts_ev hst hu' hu1' hq') (Ev.ite_pos rfl ?_))
    simp only
    by_cases c1 : sgn s' u' = sgn s u
    · by_cases c2 : (q' : Int) - E74 = n
      · have e0 : (if sgn s' u' = sgn s u ∧ (q' : Int) - E74 = n then (ldN s e f n, true) else (0, false)) = (ldN s e f n, true) := if_pos ⟨c1, c2⟩
        rw [e0]; exact Ev.ite_pos c1 (Ev.ite_pos c2 (Ev.now _))
      · have e0 : (if sgn s' u' = sgn s u ∧ (q' : Int) - E74 = n then (ldN s e f n, true) else (0, false)) = (0, false) := if_neg (fun w => c2 w.2)
        rw [e0]; exact Ev.ite_pos c1 (Ev.ite_neg c2 (Ev.now _))
    · have e0 : (if sgn s' u' = sgn s u ∧ (q' : Int) - E74 = n then (ldN s e f n, true) else (0, false)) = (0, false) := if_neg (fun w => c1 w.1)
      rw [e0]; exact Ev.ite_neg c1 (Ev.now _)
  constructor
  · intro q hq ht
    have hst := ldN_st s u hu hu1 n q hq ht e f he1 heE hf hm
    have hqT : q < T98 := by
      have h4 : 2 ^ q ≤ u * 2 ^ q := Nat.le_mul_of_pos_left _ (by omega)
      exact (Nat.pow_lt_pow_iff_right (by omega)).mp (Nat.lt_of_le_of_lt h4 ht)
    have r := hfin s u q hu hu1 hqT hst
    rw [if_pos ⟨rfl, by omega⟩] at r
    exact ⟨_, hst, r⟩
  · intro hR
    have hno : (rg (ldN s e f n) = INF ∨ rg (ldN s e f n) = 0) → Ev (fun k => impl_PartsOf.f k (ldN s e f n)) (0, 0, false) := by
      intro hz
      have hk : kindN (ldN s e f n) < 3 := by
        unfold kindN
        rw [hok.1, if_neg (by simp)]
        rcases hz with hz | hz
        · rw [if_pos hz]; omega
        · rw [hz, if_neg (by decide), if_pos rfl]; omega
      refine Ev.congr (fun k => by simp only [impl_PartsOf.f]; rw [impl_kind hok.2, Option.bind_some]) ?_
      refine Ev.ite_neg (by omega) ?_
      have e4 : (kindN (ldN s e f n) != 4) = true := by simp; omega
      rw [e4]
      refine Ev.step (f := fun _ => some (0, 0, false)) (fun k => ?_) (Ev.now _)
      simp only [impl_PartsOf.j0]; rw [if_pos trivial]
    rcases st_cases hok.1 hok.2 with hi | hz | ⟨u', q', hu', hu1', hq', hst⟩
    · exact Ev.step hj0 (Ev.bind (hno (.inl hi)) (Ev.ite_neg (by simp) (Ev.now _)))
    · exact Ev.step hj0 (Ev.bind (hno (.inr hz)) (Ev.ite_neg (by simp) (Ev.now _)))
    · have r := hfin _ u' q' hu' hu1' hq' hst
      rw [if_neg] at r
      · exact r
      · rintro ⟨c1, c2⟩
        have := sgn_inj hu' hu c1
        exact hR ⟨q', by omega, by rw [← this.2]; exact hst.top⟩
theorem l1In_dec (a b c : Int) : spec_l1In.f a b c = some (decide (b ≤ a ∧ a ≤ c)) := by
  unfold spec_l1In.f
  by_cases h : b ≤ a
  · rw [if_pos h]; simp [h]
  · rw [if_neg h]; simp [h]
theorem in_dec (a b c : Int) : impl_in.f a b c = some (decide (b ≤ a ∧ a ≤ c)) := l1In_dec a b c
theorem num_same (man n : Int) : ∃ y b, y < 18446744073709551616 ∧ Ev (fun k => spec_NumOf.f k man n) (y, b) ∧ Ev (fun k => impl_NumOf.f k man n) (y, b) := by
  have hst : Ev (fun k => spec_NumOf.j0 k man n true) (0, false) := Ev.step (f := fun _ => some (0, false)) (fun k => by simp only [spec_NumOf.j0]; rw [if_pos trivial]) (Ev.now _)
  have hit : Ev (fun k => impl_NumOf.j0 k man n true) (0, false) := Ev.step (f := fun _ => some (0, false)) (fun k => by simp only [impl_NumOf.j0]; rw [if_pos trivial]) (Ev.now _)
  simp only [spec_NumOf.f, impl_NumOf.f, l1In_dec, in_dec, Option.bind_some, decide_eq_true_eq]
  by_cases h1 : Int.tmod man 2 = 0
  · exact ⟨0, false, by omega, Ev.ite_pos h1 hst, Ev.ite_pos h1 hit⟩
  · by_cases h2 : -9007199254740991 ≤ man ∧ man ≤ 9007199254740991
    · by_cases h3 : -1200 ≤ n ∧ n ≤ 1200
      · obtain ⟨s, u, hman, hu1⟩ : ∃ (s : Bool) (u : Nat), man = sgn s u ∧ u < 9007199254740992 := by
          by_cases hneg : man < 0
          · exact ⟨true, man.natAbs, by unfold sgn; simp; omega, by omega⟩
          · exact ⟨false, man.natAbs, by unfold sgn; simp; omega, by omega⟩
        subst hman
        have hu : u % 2 = 1 := by rw [sgn_tmod] at h1; omega
        have hx := fofi_st s u (by omega) hu1
        obtain ⟨y0, hy0, g1, g2⟩ := scaled_any (fofi (sgn s u)) n (by omega) hx.nan hx.lt
        have hS := spec_end s u hu hu1 n h3 y0 g1 g2 hy0
        have hI := impl_end s u hu hu1 n h3
        have e : (!decide (-1200 ≤ n ∧ n ≤ 1200)) = false := by simp [h3]
        by_cases hR : Rep u n
        · obtain ⟨q, hq, ht⟩ := hR
          obtain ⟨y, hyE, hySt⟩ := scaled_st (by omega) hu1 hx n (by omega) q (by have := E74_eq; omega) ht
          have hyy : y0 = y := Ev.unique hy0 hyE
          subst hyy
          obtain ⟨z, hz, hzE⟩ := hI.1 q hq ht
          have := hySt.unique hz
          subst this
          refine ⟨y0, true, g2, Ev.ite_neg h1 (Ev.ite_pos h2 ?_), Ev.ite_neg h1 (Ev.ite_pos h2 ?_)⟩
          · rw [e]; exact hS.1 q hq hySt
          · rw [e]; exact hzE
        · refine ⟨0, false, by omega, Ev.ite_neg h1 (Ev.ite_pos h2 ?_), Ev.ite_neg h1 (Ev.ite_pos h2 ?_)⟩
          · rw [e]; exact hS.2 hR
          · rw [e]; exact hI.2 hR
      · have e : (!decide (-1200 ≤ n ∧ n ≤ 1200)) = true := by simp; omega
        refine ⟨0, false, by omega, Ev.ite_neg h1 (Ev.ite_pos h2 ?_), Ev.ite_neg h1 (Ev.ite_pos h2 ?_)⟩
        · rw [e]; exact hst
        · rw [e]; exact hit
    · exact ⟨0, false, by omega, Ev.ite_neg h1 (Ev.ite_neg h2 hst), Ev.ite_neg h1 (Ev.ite_neg h2 hit)⟩
theorem key_val (x y : Nat) : (key x < key y) ↔ sval x < sval y := (sval_lt_iff x y).symm
theorem sval_fofi (n : Nat) (h : n < 9007199254740992) : sval (fofi (n : Int)) = (n : Int) * (2 ^ E74 : Nat) := by
  rcases Nat.eq_zero_or_pos n with e | e
  · subst e
    rw [show fofi ((0 : Nat) : Int) = 0 from fofi_zero]
    rw [show sval 0 = 0 from by decide]
    simp
  · obtain ⟨r, hr0, hr, hv, he⟩ := fofi_eq (n : Int) (by omega) (by omega)
    have hI := inf_small
    have hng : decide ((n : Int) < 0) = false := decide_eq_false (by omega)
    rw [he, hng]
    unfold sval
    rw [sg_word _ (by omega), rg_word _ (by omega), hv]
    simp
theorem whole_lt {x n : Nat} (hn : n < 9007199254740992) (hs : sg x = false ∨ rg x = 0) (h : sval x < (n : Int) * (2 ^ E74 : Nat)) : whole x < n ∧ swhole x = (whole x : Int) := by
  have hv : sval x = (val (rg x) : Int) := by
    unfold sval
    rcases hs with e | e
    · rw [e]; rfl
    · rw [e]; simp [val_zero]
  rw [hv] at h
  have h' : val (rg x) < n * 2 ^ E74 := by
    rw [← Int.natCast_mul] at h
    exact Int.ofNat_lt.mp h
  refine ⟨(Nat.div_lt_iff_lt_mul (Nat.two_pow_pos _)).mpr h', ?_⟩
  unfold swhole
  rcases hs with e | e
  · rw [e]; rfl
  · have : whole x = 0 := by unfold whole; rw [e, val_zero, Nat.zero_div]
    rw [this]; simp
theorem index_same {x : Nat} (hx : x < 18446744073709551616) (n : Int) : ∃ r, spec_ToIndex.f x n = some r ∧ impl_ToIndex.f x n = some r := by
  simp only [spec_ToIndex.f, impl_ToIndex.f, impl_kind hx, l1In_dec, in_dec, Option.bind_some, decide_eq_true_eq]
  by_cases hm : 1 ≤ n ∧ n ≤ 1000
  · rw [if_pos hm, if_pos hm]
    obtain ⟨m, rfl⟩ : ∃ m : Nat, n = (m : Int) := ⟨n.toNat, by omega⟩
    have hf := fofi_nan (m : Int)
    have hsv := sval_fofi m (by omega)
    cases hn : isNan x with
    | true =>
      rw [flt_nan (.inl hn), flt_nan (.inl hn)]
      unfold kindN
      simp only [hn, if_true, Bool.false_eq_true, if_false]
      exact ⟨_, rfl, rfl⟩
    | false =>
      have hle : ¬ INF < rg x := of_decide_eq_false hn
      rw [flt_eq hn nan_zero, flt_eq hn hf.1, fge_eq hn hf.1, key_zero]
      simp only [decide_eq_true_eq]
      by_cases h0 : key x < 0
      · rw [if_pos h0]
        refine ⟨_, rfl, ?_⟩
        simp only [if_pos h0]
        repeat' split
        all_goals rfl
      · rw [if_neg h0]
        have hs : sg x = false ∨ rg x = 0 := by
          unfold key at h0
          cases hsx : sg x with
          | false => exact .inl rfl
          | true => rw [hsx] at h0; right; simp at h0; exact h0
        by_cases h1 : key x < key (fofi (m : Int))
        · have hlt : sval x < (m : Int) * (2 ^ E74 : Nat) := by rw [← hsv]; exact (key_val _ _).mp h1
          have hw := whole_lt (by omega) hs hlt
          have hfin : rg x < INF := by
            apply Classical.byContradiction
            intro hc
            have hi : rg x = INF := by omega
            have hrm : rg (fofi (m : Int)) ≤ INF := by
              have := hf.1
              have : ¬ INF < rg (fofi (m : Int)) := of_decide_eq_false this
              omega
            unfold key at h1
            rcases hs with e | e
            · rw [e] at h1
              simp only [Bool.false_eq_true, if_false] at h1
              split at h1 <;> omega
            · rw [e] at hi; exact absurd hi (by decide)
          have hfi := fint_eq hfin (by omega)
          have hnge : ¬ key (fofi (m : Int)) ≤ key x := by omega
          rw [if_pos h1, if_pos hfi.1, feq_fint hfin (by omega)]
          simp only [decide_eq_true_eq, if_neg h0, if_neg hnge, if_pos hfi.1]
          unfold kindN
          simp only [hn, Bool.false_eq_true, if_false]
          rw [if_neg (show ¬ rg x = INF by omega)]
          by_cases hz : rg x = 0
          · rw [if_pos hz, if_pos rfl, if_pos (show 2 ^ E74 ∣ val (rg x) by rw [hz, val_zero]; exact Nat.dvd_zero _)]
            exact ⟨_, rfl, rfl⟩
          · rw [if_neg hz]
            by_cases hd : 2 ^ E74 ∣ val (rg x)
            · rw [if_pos hd, if_pos hd]
              exact ⟨_, rfl, rfl⟩
            · rw [if_neg hd, if_neg hd]
              exact ⟨_, rfl, rfl⟩
        · rw [if_neg h1]
          refine ⟨_, rfl, ?_⟩
          have hge : key (fofi (m : Int)) ≤ key x := by omega
          simp only [if_neg h0, if_pos hge]
          repeat' split
          all_goals rfl
  · rw [if_neg hm, if_neg hm]
    exact ⟨_, rfl, rfl⟩
theorem impl_parts_of_num {k : Nat} {c d : Int} {y : Nat} (h : impl_NumOf.f k c d = some (y, true)) : ∃ k, impl_PartsOf.f k y = some (c, d, true) := by
  have hj : ∀ k b, impl_NumOf.j0 k c d b = some (y, true) → ∃ k, impl_PartsOf.f k y = some (c, d, true) := by
    intro k b hb
    cases k with
    | zero => simp [impl_NumOf.j0] at hb
    | succ k =>
      simp only [impl_NumOf.j0] at hb
      by_cases h1 : b = true
      · rw [if_pos h1] at hb; simp at hb
      · rw [if_neg h1] at hb
        obtain ⟨z, hz, hb⟩ := Option.bind_eq_some_iff.mp hb
        obtain ⟨⟨p1, p2, p3⟩, hp, hb⟩ := Option.bind_eq_some_iff.mp hb
        simp only at hb
        by_cases h2 : p3 = true
        · rw [if_pos h2] at hb
          by_cases h3 : p1 = c
          · rw [if_pos h3] at hb
            by_cases h4 : p2 = d
            · rw [if_pos h4] at hb
              simp only [Option.some.injEq, Prod.mk.injEq, and_true] at hb
              subst hb h2 h3 h4
              exact ⟨k, hp⟩
            · rw [if_neg h4] at hb; simp at hb
          · rw [if_neg h3] at hb; simp at hb
        · rw [if_neg h2] at hb; simp at hb
  unfold impl_NumOf.f at h
  by_cases h1 : Int.tmod c 2 = 0
  · rw [if_pos h1] at h; exact hj _ _ h
  · rw [if_neg h1] at h
    obtain ⟨b, _, h⟩ := Option.bind_eq_some_iff.mp h
    by_cases h2 : b = true
    · rw [if_pos h2] at h
      obtain ⟨b2, _, h⟩ := Option.bind_eq_some_iff.mp h
      exact hj _ _ h
    · rw [if_neg h2] at h; exact hj _ _ h
theorem st_minus {x u q : Nat} {s : Bool} (h : St x s u q) : CmpN.minus x = s := by
  unfold CmpN.minus
  have hp := h.pos
  have hz : ¬ x = 9223372036854775808 := by
    rintro rfl
    have : rg 9223372036854775808 = 0 := by decide
    omega
  rw [decide_eq_false hz, Bool.or_false]
  unfold key
  rw [h.sg]
  cases s <;> simp <;> omega
theorem parts_facts {z : Nat} (hz : z < 18446744073709551616) : ∃ (man exp : Int) (ok : Bool), Ev (fun k => spec_PartsOf.f k z) (man, exp, ok) ∧ Ev (fun k => impl_PartsOf.f k z) (man, exp, ok) ∧ ok = decide (3 ≤ kindN z) ∧
    (ok = true → Ev (fun k => impl_NumOf.f k man exp) (z, true) ∧ ¬ Int.tmod man 2 = 0 ∧ decide (0 ≤ exp) = decide (kindN z = 3) ∧ decide (man < 0) = (if isNan z = true then false else CmpN.minus z)) := by
  by_cases hfin : rg z < INF ∧ 0 < rg z
  · obtain ⟨u, q, hu, hu1, hq, hst⟩ := st_of hz hfin.1 hfin.2
    have hE := E74_eq
    have hT := T98_eq
    have hk : kindN z = if E74 ≤ q then 3 else 4 := by
      unfold kindN
      rw [hst.nan, if_neg (by simp), if_neg (by omega), if_neg (by omega), hst.val]
      by_cases h : E74 ≤ q
      · rw [if_pos h, if_pos ((odd_dvd hu).mpr h)]
      · rw [if_neg h, if_neg (fun g => h ((odd_dvd hu).mp g))]
    refine ⟨sgn (sg z) u, (q : Int) - E74, true, ?_, impl_parts_ev hst hu hu1 hq, ?_, fun _ => ⟨?_, ?_, ?_, ?_⟩⟩
    · have hk3 : ¬ kindN z < 3 := by rw [hk]; split <;> omega
      simp only [spec_PartsOf.f]
      exact Ev.bind (spec_kind hz) (Ev.ite_neg hk3 (Ev.bind (parts_ev hst hu hu1 hq) (Ev.now _)))
    · rw [hk]; split <;> rfl
    · have hn : -1200 ≤ (q : Int) - E74 ∧ (q : Int) - E74 ≤ 1200 := by omega
      obtain ⟨y, hy, hE2⟩ := (impl_end (sg z) u hu hu1 ((q : Int) - E74) hn).1 q (by omega) hst.top
      have := hy.unique hst
      subst this
      simp only [impl_NumOf.f, in_dec, Option.bind_some, decide_eq_true_eq]
      have h1 : ¬ Int.tmod (sgn (sg y) u) 2 = 0 := by rw [sgn_tmod]; omega
      have h2 : -9007199254740991 ≤ sgn (sg y) u ∧ sgn (sg y) u ≤ 9007199254740991 := by unfold sgn; split <;> omega
      refine Ev.ite_neg h1 (Ev.ite_pos h2 ?_)
      have e : (!decide (-1200 ≤ (q : Int) - E74 ∧ (q : Int) - E74 ≤ 1200)) = false := by simp; omega
      rw [e]
      exact hE2
    · rw [sgn_tmod]; omega
    · rw [hk, decide_eq_decide]
      split <;> omega
    · rw [hst.nan, st_minus hst]
      simp only [Bool.false_eq_true, if_false]
      unfold sgn
      cases sg z <;> simp <;> omega
  · have hk : kindN z < 3 := by
      unfold kindN
      cases hn : isNan z with
      | true => simp
      | false =>
        have hle : ¬ INF < rg z := of_decide_eq_false hn
        by_cases hi : rg z = INF
        · simp [hi]
        · have : rg z = 0 := by omega
          have hi0 : ¬ (0 : Nat) = INF := by decide
          simp [this, hi0]
    refine ⟨0, 0, false, ?_, ?_, ?_, fun h => by cases h⟩
    · simp only [spec_PartsOf.f]
      exact Ev.bind (spec_kind hz) (Ev.ite_pos hk (Ev.now _))
    · refine Ev.congr (fun k => by simp only [impl_PartsOf.f]; rw [impl_kind hz, Option.bind_some]) ?_
      refine Ev.ite_neg (by omega) ?_
      have e4 : (kindN z != 4) = true := by simp; omega
      rw [e4]
      refine Ev.step (f := fun _ => some (0, 0, false)) (fun k => ?_) (Ev.now _)
      simp only [impl_PartsOf.j0]; rw [if_pos trivial]
    · symm; exact decide_eq_false (by omega)

end Go.Proofs.Ythdpiceiemkjlaa.Pure

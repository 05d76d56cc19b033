/- Plain facts on float64 values, as their bits: what the comparisons tell, and some results. No program in sight. -/
import Derived.Test.YthdpiceiemkjlaaMFlt
import Derived.Test.YthdpiceiemkjlaaMIeee
import Derived.KernelRfl
namespace Go.Proofs.Ythdpiceiemkjlaa.MNum
open Go.Proofs.YthdpiceiemkjlaaW.PrintWords Go.Proofs.Ythdpiceiemkjlaa.MIeee
set_option linter.unusedSimpArgs false

theorem cmp_lt (a b : Int) : (compare a b == .lt) = decide (a < b) := by
  simp only [compare, compareOfLessAndEq]; by_cases h : a < b <;> by_cases h2 : a = b <;> simp [h, h2]
theorem cmp_eq (a b : Int) : (compare a b == .eq) = decide (a = b) := by
  simp only [compare, compareOfLessAndEq]
  by_cases h : a < b
  · have : ¬ a = b := by omega
    simp [h, this]
  · by_cases h2 : a = b <;> simp [h, h2]
theorem some_beq (a b : Ordering) : (some a == some b) = (a == b) := by cases a <;> cases b <;> rfl
theorem flt_eq {x y : Nat} (hx : isNan x = false) (hy : isNan y = false) : flt x y = decide (key x < key y) := by
  unfold flt; rw [order_eq hx hy, some_beq, cmp_lt]
theorem feq_eq {x y : Nat} (hx : isNan x = false) (hy : isNan y = false) : feq x y = decide (key x = key y) := by
  unfold feq; rw [order_eq hx hy, some_beq, cmp_eq]
theorem flt_nan {x y : Nat} (h : isNan x = true ∨ isNan y = true) : flt x y = false := by unfold flt; rw [order_nan h]; rfl
theorem feq_nan {x y : Nat} (h : isNan x = true ∨ isNan y = true) : feq x y = false := by unfold feq; rw [order_nan h]; rfl
theorem feq_self (x : Nat) : feq x x = !isNan x := by
  cases h : isNan x with
  | true => rw [feq_nan (.inl h)]; rfl
  | false => rw [feq_eq h h]; simp
theorem nan_zero : isNan 0 = false := by decide
theorem key_zero : key 0 = 0 := by decide
theorem split_word {x : Nat} (h : x < 18446744073709551616) : x = rg x + (if sg x = true then 9223372036854775808 else 0) := by
  unfold rg sg
  by_cases hs : (x / 9223372036854775808 % 2 == 1) = true
  · rw [if_pos hs]
    have := beq_iff_eq.mp hs
    omega
  · rw [if_neg hs]
    have : ¬ x / 9223372036854775808 % 2 = 1 := fun q => hs (beq_iff_eq.mpr q)
    omega
theorem key_rg_zero {x : Nat} : key x = 0 ↔ rg x = 0 := by
  unfold key
  split <;> omega
theorem zero_cases {x : Nat} (h : x < 18446744073709551616) (hz : rg x = 0) : x = 0 ∨ x = 9223372036854775808 := by
  have := split_word h
  by_cases hs : sg x = true
  · rw [if_pos hs, hz] at this; right; omega
  · rw [if_neg hs, hz] at this; left; omega
theorem key_inj {x y : Nat} (hx : x < 18446744073709551616) (hy : y < 18446744073709551616) (h0 : rg x ≠ 0) (h : key x = key y) : x = y := by
  have ex := split_word hx
  have ey := split_word hy
  unfold key at h
  by_cases sx : sg x = true <;> by_cases sy : sg y = true <;> simp only [sx, sy, if_true, if_false] at h ex ey
  all_goals (first | omega | (simp at h ex ey; omega))
theorem inv_pz : fdivOk 4607182418800017408 0 = true ∧ flt (fdiv 4607182418800017408 0) 0 = false ∧ fgt (fdiv 4607182418800017408 0) 0 = true := by
  refine ⟨?_, ?_, ?_⟩ <;> kernel_rfl
theorem inv_nz : fdivOk 4607182418800017408 9223372036854775808 = true ∧ flt (fdiv 4607182418800017408 9223372036854775808) 0 = true ∧ fgt (fdiv 4607182418800017408 9223372036854775808) 0 = false := by
  refine ⟨?_, ?_, ?_⟩ <;> kernel_rfl
end Go.Proofs.Ythdpiceiemkjlaa.MNum

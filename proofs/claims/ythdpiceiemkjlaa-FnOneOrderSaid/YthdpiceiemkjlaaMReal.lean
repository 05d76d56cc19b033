/- Plain facts on float64 values, as their bits: products and quotients by powers of two, whole numbers, what is cut off; no program in sight. -/
import Derived.Test.YthdpiceiemkjlaaMNum
namespace Go.Proofs.Ythdpiceiemkjlaa.MReal
open Ieee Go.Proofs.YthdpiceiemkjlaaW.PrintWords Go.Proofs.Ythdpiceiemkjlaa.MIeee Go.Proofs.Ythdpiceiemkjlaa.MNum
set_option linter.unusedSimpArgs false

/-- The places that matter: of the point, and behind the greatest number. -/
def E74 : Nat := 1074
def T98 : Nat := 2098
theorem write_num (s : Bool) (m : Nat) (p : Int) : Ieee.double.write (.number s m p) = Ieee.double.nearest s m p := rfl
theorem word_lt (s : Bool) {r : Nat} (h : r < 9223372036854775808) : Ieee.double.word s r < 18446744073709551616 := by
  unfold Format.word
  rw [double_sign]
  cases s
  · simp only [Bool.false_eq_true, if_false]; omega
  · simp only [if_true]; omega
theorem inf_small : INF < 9223372036854775808 := by decide
/-- The word of a sign and a rung that is finite, or infinity. -/
theorem nan_word (s : Bool) {r : Nat} (h : r ≤ INF) : isNan (Ieee.double.word s r) = false := by
  have := inf_small
  unfold isNan
  rw [rg_word s (by omega)]
  exact decide_eq_false (by omega)
theorem nearest_nan (s : Bool) (m : Nat) (p : Int) : isNan (Ieee.double.nearest s m p) = false := by
  unfold Format.nearest
  by_cases h : m = 0
  · rw [if_pos h]; exact nan_word s (by unfold INF; omega)
  · rw [if_neg h]
    dsimp only
    rw [double_inf]
    exact nan_word s (Nat.min_le_right _ _)
theorem nearest_lt (s : Bool) (m : Nat) (p : Int) : Ieee.double.nearest s m p < 18446744073709551616 := by
  have := inf_small
  unfold Format.nearest
  by_cases h : m = 0
  · rw [if_pos h]; exact word_lt s (by omega)
  · rw [if_neg h]
    dsimp only
    rw [double_inf]
    refine word_lt s (Nat.lt_of_le_of_lt (Nat.min_le_right _ _) ?_)
    decide
theorem write_inf (s : Bool) : Ieee.double.write (.infinity s) = Ieee.double.word s INF := by
  unfold Format.write; rw [double_inf]; rfl
/-- A power of two, as a word. -/
def IsPow (y : Nat) (j : Int) : Prop := ∃ b : Nat, b = 2 ^ 52 ∧ Ieee.double.read y = .number false b (j - 52)
theorem pow_two : IsPow 4611686018427387904 1 := ⟨4503599627370496, by decide, by kernel_rfl⟩
/-- A product by a power of two is a number, or infinity. -/
theorem mul_pow_ok {x y : Nat} {j : Int} (hy : IsPow y j) (hx : isNan x = false) : fmulOk x y = true ∧ isNan (fmul x y) = false ∧ fmul x y < 18446744073709551616 := by
  obtain ⟨b, hb, hy⟩ := hy
  have hb0 : 0 < b := by rw [hb]; exact Nat.two_pow_pos _
  have hn : ¬ INF < rg x := of_decide_eq_false hx
  unfold fmulOk fmul Format.mul
  by_cases hi : rg x = INF
  · rw [read_inf hi, hy]
    simp only [Datum.product]
    rw [if_neg (by omega)]
    simp only [Option.map_some, Option.isSome_some, Option.getD_some, write_inf]
    exact ⟨by first | rfl | trivial, nan_word _ (Nat.le_refl _), word_lt _ inf_small⟩
  · obtain ⟨m, a, hr, _⟩ := read_fin (x := x) (by omega)
    rw [hr, hy]
    simp only [Datum.product, Option.map_some, Option.isSome_some, Option.getD_some, write_num]
    exact ⟨by first | rfl | trivial, nearest_nan _ _ _, nearest_lt _ _ _⟩
/-- A half is a number, or infinity. -/
theorem half_ok {x : Nat} (hx : isNan x = false) : fdivOk x 4611686018427387904 = true ∧ isNan (fdiv x 4611686018427387904) = false ∧ fdiv x 4611686018427387904 < 18446744073709551616 := by
  obtain ⟨b, hb, hy⟩ := pow_two
  have hb0 : 0 < b := by rw [hb]; exact Nat.two_pow_pos _
  have hn : ¬ INF < rg x := of_decide_eq_false hx
  unfold fdivOk fdiv Format.div
  by_cases hi : rg x = INF
  · rw [read_inf hi, hy]
    simp only [Datum.quotient, Option.map_some, Option.isSome_some, Option.getD_some, write_inf]
    exact ⟨by first | rfl | trivial, nan_word _ (Nat.le_refl _), word_lt _ inf_small⟩
  · obtain ⟨m, a, hr, _⟩ := read_fin (x := x) (by omega)
    rw [hr, hy]
    simp only [Datum.quotient]
    rw [if_neg (by omega)]
    simp only [Option.map_some, Option.isSome_some, Option.getD_some, write_num]
    exact ⟨by first | rfl | trivial, nearest_nan _ _ _, nearest_lt _ _ _⟩
theorem fofi_nan (n : Int) : isNan (fofi n) = false ∧ fofi n < 18446744073709551616 := by
  unfold fofi
  show isNan (Ieee.double.nearest _ _ _) = false ∧ Ieee.double.nearest _ _ _ < _
  exact ⟨nearest_nan _ _ _, nearest_lt _ _ _⟩
/-- The whole part of a finite number. -/
def whole (x : Nat) : Nat := val (rg x) / 2 ^ E74
def swhole (x : Nat) : Int := if sg x = true then -(whole x : Int) else (whole x : Int)
end Go.Proofs.Ythdpiceiemkjlaa.MReal

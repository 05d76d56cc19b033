/- Plain facts on float64 values, as their bits: products and quotients by powers of two, whole numbers, what is cut off; no program in sight. -/
import Derived.Test.YthdpiceiemkjlaaDoorMNum
namespace Go.Proofs.YthdpiceiemkjlaaDoor.MReal
open Ieee Go.Proofs.YthdpiceiemkjlaaDoorW.PrintWords Go.Proofs.YthdpiceiemkjlaaDoor.MIeee Go.Proofs.YthdpiceiemkjlaaDoor.MNum
set_option linter.unusedSimpArgs false

/-- The places that matter: of the point, and behind the greatest number. -/
def E74 : Nat := 1074
def T98 : Nat := 2098
theorem E74_eq : E74 = 1074 := rfl
theorem T98_eq : T98 = 2098 := rfl
theorem val_inf : val INF = 2 ^ T98 := by kernel_rfl
theorem write_num (s : Bool) (m : Nat) (p : Int) : Ieee.double.write (.number s m p) = Ieee.double.nearest s m p := rfl
theorem val_lt {r : Nat} (h : r < INF) : val r < 2 ^ T98 := by rw [← val_inf]; exact val_mono h
/-- A number of at most 53 digits at a place of the format has a rung. -/
theorem rung_of {u q : Nat} (hu0 : 0 < u) (hu : u < 9007199254740992) (h : u * 2 ^ q < 2 ^ T98) : ∃ r, 0 < r ∧ r < INF ∧ val r = u * 2 ^ q := by
  have h52 : (2 : Nat) ^ 52 = 4503599627370496 := by decide
  have h53 : (2 : Nat) ^ 53 = 9007199254740992 := by decide
  have hl : u.log2 ≤ 52 := by
    have : u.log2 < 53 := by rw [Nat.log2_lt (by omega), h53]; exact hu
    omega
  have hpos : 0 < u * 2 ^ q := Nat.mul_pos hu0 (Nat.two_pow_pos _)
  by_cases hs : u.log2 + q < 52
  · have hN : u * 2 ^ q < 4503599627370496 := by
      have : (u * 2 ^ q).log2 < 52 := by rw [log2_mul_pow _ _ hu0]; exact hs
      rw [Nat.log2_lt (by omega), h52] at this
      exact this
    exact ⟨u * 2 ^ q, hpos, by unfold INF; omega, by conv => lhs; unfold val; rw [if_pos hN]⟩
  · have e : u * 2 ^ q = u * 2 ^ (52 - u.log2) * 2 ^ (q - (52 - u.log2)) := by
      rw [Nat.mul_assoc, ← Nat.pow_add]
      congr 2
      omega
    have hm0 : 0 < u * 2 ^ (52 - u.log2) := Nat.mul_pos hu0 (Nat.two_pow_pos _)
    have hml : (u * 2 ^ (52 - u.log2)).log2 = 52 := by rw [log2_mul_pow _ _ hu0]; omega
    have hm1 : 4503599627370496 ≤ u * 2 ^ (52 - u.log2) := by
      have := Nat.log2_self_le (n := u * 2 ^ (52 - u.log2)) (by omega)
      rw [hml, h52] at this
      exact this
    have hm2 : u * 2 ^ (52 - u.log2) < 9007199254740992 := by
      have := Nat.lt_log2_self (n := u * 2 ^ (52 - u.log2))
      rw [hml, h53] at this
      exact this
    rw [e] at h ⊢
    generalize u * 2 ^ (52 - u.log2) = m at *
    generalize q - (52 - u.log2) = k at *
    have hk : k ≤ 2045 := by
      have h4 : 4503599627370496 * 2 ^ k ≤ m * 2 ^ k := Nat.mul_le_mul_right _ hm1
      rw [← h52, ← Nat.pow_add] at h4
      have h5 : 52 + k < T98 := (Nat.pow_lt_pow_iff_right (by omega)).mp (Nat.lt_of_le_of_lt h4 h)
      have := T98_eq
      omega
    refine ⟨(k + 1) * 4503599627370496 + (m - 4503599627370496), by omega, by unfold INF; omega, ?_⟩
    unfold val
    rw [if_neg (by omega)]
    have e1 : ((k + 1) * 4503599627370496 + (m - 4503599627370496)) / 4503599627370496 = k + 1 := by omega
    have e2 : ((k + 1) * 4503599627370496 + (m - 4503599627370496)) % 4503599627370496 = m - 4503599627370496 := by omega
    rw [e1, e2, show 4503599627370496 + (m - 4503599627370496) = m from by omega, show k + 1 - 1 = k from by omega]
/-- What lies on a finite rung that is not nought. -/
theorem val_parts {x : Nat} (h : rg x < INF) (h0 : 0 < rg x) : ∃ m a : Nat, 0 < m ∧ m < 9007199254740992 ∧ m * 2 ^ a = val (rg x) ∧ Ieee.double.read x = .number (sg x) m (-1074 + (a : Int)) := by
  obtain ⟨m, a, hr, hv, hm, _⟩ := read_fin h
  refine ⟨m, a, ?_, hm, hv, hr⟩
  rcases Nat.eq_zero_or_pos m with e | e
  · rw [e, Nat.zero_mul] at hv
    have := val_pos h0
    omega
  · exact e
theorem word_lt (s : Bool) {r : Nat} (h : r < 9223372036854775808) : Ieee.double.word s r < 18446744073709551616 := by
  unfold Format.word
  rw [double_sign]
  cases s
  · simp only [Bool.false_eq_true, if_false]; omega
  · simp only [if_true]; omega
theorem inf_small : INF < 9223372036854775808 := by decide
/-- The word of a sign and a rung that is finite, or infinity. -/
theorem nan_word (s : Bool) {r : Nat} (h : r ≤ INF) : isNan (Ieee.double.word s r) = false := by
  have := inf_small
  unfold isNan
  rw [rg_word s (by omega)]
  exact decide_eq_false (by omega)
theorem nearest_nan (s : Bool) (m : Nat) (p : Int) : isNan (Ieee.double.nearest s m p) = false := by
  unfold Format.nearest
  by_cases h : m = 0
  · rw [if_pos h]; exact nan_word s (by unfold INF; omega)
  · rw [if_neg h]
    dsimp only
    rw [double_inf]
    exact nan_word s (Nat.min_le_right _ _)
theorem nearest_lt (s : Bool) (m : Nat) (p : Int) : Ieee.double.nearest s m p < 18446744073709551616 := by
  have := inf_small
  unfold Format.nearest
  by_cases h : m = 0
  · rw [if_pos h]; exact word_lt s (by omega)
  · rw [if_neg h]
    dsimp only
    rw [double_inf]
    refine word_lt s (Nat.lt_of_le_of_lt (Nat.min_le_right _ _) ?_)
    decide
theorem write_inf (s : Bool) : Ieee.double.write (.infinity s) = Ieee.double.word s INF := by
  unfold Format.write; rw [double_inf]; rfl
/-- A power of two, as a word. -/
def IsPow (y : Nat) (j : Int) : Prop := ∃ b : Nat, b = 2 ^ 52 ∧ Ieee.double.read y = .number false b (j - 52)
theorem pow_two : IsPow 4611686018427387904 1 := ⟨4503599627370496, by decide, by kernel_rfl⟩
theorem pow_52 : IsPow 4841369599423283200 52 := ⟨4503599627370496, by decide, by kernel_rfl⟩
theorem pow_m53 : IsPow 4368491638549381120 (-53) := ⟨4503599627370496, by decide, by kernel_rfl⟩
/-- A product by a power of two is a number, or infinity. -/
theorem mul_pow_ok {x y : Nat} {j : Int} (hy : IsPow y j) (hx : isNan x = false) : fmulOk x y = true ∧ isNan (fmul x y) = false ∧ fmul x y < 18446744073709551616 := by
  obtain ⟨b, hb, hy⟩ := hy
  have hb0 : 0 < b := by rw [hb]; exact Nat.two_pow_pos _
  have hn : ¬ INF < rg x := of_decide_eq_false hx
  unfold fmulOk fmul Format.mul
  by_cases hi : rg x = INF
  · rw [read_inf hi, hy]
    simp only [Datum.product]
    rw [if_neg (by omega)]
    simp only [Option.map_some, Option.isSome_some, Option.getD_some, write_inf]
    exact ⟨by first | rfl | trivial, nan_word _ (Nat.le_refl _), word_lt _ inf_small⟩
  · obtain ⟨m, a, hr, _⟩ := read_fin (x := x) (by omega)
    rw [hr, hy]
    simp only [Datum.product, Option.map_some, Option.isSome_some, Option.getD_some, write_num]
    exact ⟨by first | rfl | trivial, nearest_nan _ _ _, nearest_lt _ _ _⟩
theorem mul_pow_ok' {x y : Nat} {j : Int} (hy : IsPow y j) (hx : isNan x = false) : fmulOk y x = true ∧ isNan (fmul y x) = false ∧ fmul y x < 18446744073709551616 := by
  obtain ⟨b, hb, hy⟩ := hy
  have hb0 : 0 < b := by rw [hb]; exact Nat.two_pow_pos _
  have hn : ¬ INF < rg x := of_decide_eq_false hx
  unfold fmulOk fmul Format.mul
  by_cases hi : rg x = INF
  · rw [read_inf hi, hy]
    simp only [Datum.product]
    rw [if_neg (by omega)]
    simp only [Option.map_some, Option.isSome_some, Option.getD_some, write_inf]
    exact ⟨by first | rfl | trivial, nan_word _ (Nat.le_refl _), word_lt _ inf_small⟩
  · obtain ⟨m, a, hr, _⟩ := read_fin (x := x) (by omega)
    rw [hr, hy]
    simp only [Datum.product, Option.map_some, Option.isSome_some, Option.getD_some, write_num]
    exact ⟨by first | rfl | trivial, nearest_nan _ _ _, nearest_lt _ _ _⟩
/-- A product by 2^j, where it has a rung. -/
theorem mul_up {x y : Nat} {j : Nat} (hy : IsPow y (j : Int)) (h : rg x < INF) (h0 : 0 < rg x) {r : Nat} (hr0 : 0 < r) (hr : r < INF) (hv : val r = val (rg x) * 2 ^ j) : fmul x y = Ieee.double.word (sg x) r := by
  obtain ⟨b, hb, hy⟩ := hy
  obtain ⟨m, a, hm0, hm, hma, hrd⟩ := val_parts h h0
  unfold fmul Format.mul
  rw [hrd, hy]
  simp only [Datum.product, Option.map_some, Option.getD_some, write_num, Bool.bne_false, Bool.xor_false]
  refine nearest_exact _ _ _ r (a + j) 52 hr0 hr (by omega) ?_
  rw [hv, ← hma, Nat.pow_add, ← hb]
  simp only [Nat.mul_assoc, Nat.mul_comm, Nat.mul_left_comm]
theorem mul_up' {x y : Nat} {j : Nat} (hy : IsPow y (j : Int)) (h : rg x < INF) (h0 : 0 < rg x) {r : Nat} (hr0 : 0 < r) (hr : r < INF) (hv : val r = val (rg x) * 2 ^ j) : fmul y x = Ieee.double.word (sg x) r := by
  obtain ⟨b, hb, hy⟩ := hy
  obtain ⟨m, a, hm0, hm, hma, hrd⟩ := val_parts h h0
  unfold fmul Format.mul
  rw [hrd, hy]
  simp only [Datum.product, Option.map_some, Option.getD_some, write_num, Bool.false_bne, Bool.false_xor]
  refine nearest_exact _ _ _ r (a + j) 52 hr0 hr (by omega) ?_
  rw [hv, ← hma, Nat.pow_add, ← hb]
  simp only [Nat.mul_assoc, Nat.mul_comm, Nat.mul_left_comm]
/-- A product by 2^-j, where it has a rung. -/
theorem mul_down' {x y : Nat} {j : Nat} (hy : IsPow y (-(j : Int))) (h : rg x < INF) (h0 : 0 < rg x) {r : Nat} (hr0 : 0 < r) (hr : r < INF) (hv : val r * 2 ^ j = val (rg x)) : fmul y x = Ieee.double.word (sg x) r := by
  obtain ⟨b, hb, hy⟩ := hy
  obtain ⟨m, a, hm0, hm, hma, hrd⟩ := val_parts h h0
  unfold fmul Format.mul
  rw [hrd, hy]
  simp only [Datum.product, Option.map_some, Option.getD_some, write_num, Bool.false_bne, Bool.false_xor]
  refine nearest_exact _ _ _ r a (52 + j) hr0 hr (by omega) ?_
  rw [Nat.pow_add, ← hb]
  have e : b * m * 2 ^ a = b * (val r * 2 ^ j) := by rw [hv, ← hma, Nat.mul_assoc]
  rw [e]
  simp only [Nat.mul_assoc, Nat.mul_comm, Nat.mul_left_comm]
/-- A half is a number, or infinity. -/
theorem half_ok {x : Nat} (hx : isNan x = false) : fdivOk x 4611686018427387904 = true ∧ isNan (fdiv x 4611686018427387904) = false ∧ fdiv x 4611686018427387904 < 18446744073709551616 := by
  obtain ⟨b, hb, hy⟩ := pow_two
  have hb0 : 0 < b := by rw [hb]; exact Nat.two_pow_pos _
  have hn : ¬ INF < rg x := of_decide_eq_false hx
  unfold fdivOk fdiv Format.div
  by_cases hi : rg x = INF
  · rw [read_inf hi, hy]
    simp only [Datum.quotient, Option.map_some, Option.isSome_some, Option.getD_some, write_inf]
    exact ⟨by first | rfl | trivial, nan_word _ (Nat.le_refl _), word_lt _ inf_small⟩
  · obtain ⟨m, a, hr, _⟩ := read_fin (x := x) (by omega)
    rw [hr, hy]
    simp only [Datum.quotient]
    rw [if_neg (by omega)]
    simp only [Option.map_some, Option.isSome_some, Option.getD_some, write_num]
    exact ⟨by first | rfl | trivial, nearest_nan _ _ _, nearest_lt _ _ _⟩
/-- A half, where it has a rung. -/
theorem half_eq {x : Nat} (h : rg x < INF) (h0 : 0 < rg x) {r : Nat} (hr0 : 0 < r) (hr : r < INF) (hv : val r * 2 = val (rg x)) : fdiv x 4611686018427387904 = Ieee.double.word (sg x) r := by
  obtain ⟨b, hb, hy⟩ := pow_two
  have hb0 : 0 < b := by rw [hb]; exact Nat.two_pow_pos _
  obtain ⟨m, a, hm0, hm, hma, hrd⟩ := val_parts h h0
  unfold fdiv Format.div
  rw [hrd, hy]
  simp only [Datum.quotient]
  rw [if_neg (by omega)]
  simp only [Option.map_some, Option.getD_some, write_num, Bool.bne_false, Bool.xor_false]
  have hl : m.log2 ≤ 52 := by
    have : m.log2 < 53 := by rw [Nat.log2_lt (by omega), show (2 : Nat) ^ 53 = 9007199254740992 from by decide]; exact hm
    omega
  have hL : b.log2 = 52 := by rw [hb]; exact Nat.log2_two_pow
  obtain ⟨t, ht⟩ : ∃ t, Ieee.double.fractionBits + 2 + b.log2 - m.log2 = 52 + t := ⟨54 - m.log2, by rw [hL, show Ieee.double.fractionBits = 52 from rfl]; omega⟩
  rw [ht]
  have e1 : m <<< (52 + t) = m * 2 ^ t * b := by
    rw [Nat.shiftLeft_eq, Nat.pow_add, ← hb]
    simp only [Nat.mul_assoc, Nat.mul_comm, Nat.mul_left_comm]
  rw [e1, Nat.mul_div_cancel _ hb0, Nat.mul_mod_left]
  simp only [bne_self_eq_false, Bool.toNat_false, Nat.add_zero]
  have h2 : (2 : Nat) ^ (t + 2) = 2 * (2 * 2 ^ t) := by rw [Nat.pow_add]; omega
  refine nearest_exact _ _ _ r a (t + 2) hr0 hr (by omega) ?_
  rw [h2]
  have e : 2 * (m * 2 ^ t) * 2 ^ a = 2 * 2 ^ t * (val r * 2) := by
    rw [hv, ← hma]
    simp only [Nat.mul_assoc, Nat.mul_comm, Nat.mul_left_comm]
  rw [e]
  simp only [Nat.mul_assoc, Nat.mul_comm, Nat.mul_left_comm]
/-- A whole number below 2^53. -/
theorem fofi_eq (n : Int) (h0 : n ≠ 0) (h : n.natAbs < 9007199254740992) : ∃ r, 0 < r ∧ r < INF ∧ val r = n.natAbs * 2 ^ E74 ∧ fofi n = Ieee.double.word (decide (n < 0)) r := by
  have hlt : n.natAbs * 2 ^ E74 < 2 ^ T98 := by
    have h1 : n.natAbs * 2 ^ E74 < 9007199254740992 * 2 ^ E74 := Nat.mul_lt_mul_of_pos_right h (Nat.two_pow_pos _)
    have h2 : (9007199254740992 : Nat) * 2 ^ E74 ≤ 2 ^ T98 := by
      have : (9007199254740992 : Nat) = 2 ^ 53 := by decide
      rw [this, ← Nat.pow_add]
      exact Nat.pow_le_pow_right (by omega) (by have := E74_eq; have := T98_eq; omega)
    omega
  obtain ⟨r, hr0, hr, hv⟩ := rung_of (q := E74) (by omega) h hlt
  refine ⟨r, hr0, hr, hv, ?_⟩
  unfold fofi
  show Ieee.double.write (.number (decide (n < 0)) n.natAbs 0) = _
  rw [write_num]
  exact nearest_exact _ _ _ r E74 0 hr0 hr (by have := E74_eq; omega) (by rw [hv, Nat.pow_zero, Nat.mul_one])
theorem fofi_zero : fofi 0 = 0 := by
  unfold fofi
  show Ieee.double.write (.number (decide ((0 : Int) < 0)) 0 0) = _
  rw [write_num]
  exact (nearest_zero _ _).trans rfl
theorem fofi_nan (n : Int) : isNan (fofi n) = false ∧ fofi n < 18446744073709551616 := by
  unfold fofi
  show isNan (Ieee.double.nearest _ _ _) = false ∧ Ieee.double.nearest _ _ _ < _
  exact ⟨nearest_nan _ _ _, nearest_lt _ _ _⟩
/-- Cut towards nought. -/
theorem cut_zero (s : Bool) (n d : Nat) : Toward.zero.cut s n d = n / 2 ^ d := by
  unfold Toward.cut
  simp only [Nat.one_shiftLeft, Bool.toNat_false, Nat.add_zero]
  by_cases h : d ≤ n.log2 + 2
  · rw [Nat.min_eq_left h]
  · rw [Nat.min_eq_right (by omega)]
    have h1 : n < 2 ^ (n.log2 + 1) := Nat.lt_log2_self
    have h2 : 2 ^ (n.log2 + 1) ≤ 2 ^ (n.log2 + 2) := Nat.pow_le_pow_right (by omega) (by omega)
    have h3 : 2 ^ (n.log2 + 2) ≤ 2 ^ d := Nat.pow_le_pow_right (by omega) (by omega)
    rw [Nat.div_eq_of_lt (by omega), Nat.div_eq_of_lt (by omega)]
/-- The whole part of a finite number. -/
def whole (x : Nat) : Nat := val (rg x) / 2 ^ E74
theorem integral_eq {x : Nat} (h : rg x < INF) : (Ieee.double.read x).integral .zero = .number (sg x) (whole x) 0 := by
  obtain ⟨m, a, hr, hv, _⟩ := read_fin h
  rw [hr]
  unfold Datum.integral
  simp only
  congr 1
  rw [cut_zero, Nat.shiftLeft_eq]
  unfold whole
  rw [← hv]
  have hE := E74_eq
  by_cases h : 1074 ≤ a
  · have e1 : (-1074 + (a : Int)).toNat = a - E74 := by omega
    have e2 : (-(-1074 + (a : Int))).toNat = 0 := by omega
    rw [e1, e2, Nat.pow_zero, Nat.div_one]
    have e3 : m * 2 ^ a = m * 2 ^ (a - E74) * 2 ^ E74 := by rw [Nat.mul_assoc, ← Nat.pow_add]; congr 2; omega
    rw [e3, Nat.mul_div_cancel _ (Nat.two_pow_pos _)]
  · have e1 : (-1074 + (a : Int)).toNat = 0 := by omega
    have e2 : (-(-1074 + (a : Int))).toNat = E74 - a := by omega
    rw [e1, e2, Nat.pow_zero, Nat.mul_one]
    have e3 : (2 : Nat) ^ E74 = 2 ^ (E74 - a) * 2 ^ a := by rw [← Nat.pow_add]; congr 1; omega
    rw [e3, Nat.mul_div_mul_right _ _ (Nat.two_pow_pos _)]
def swhole (x : Nat) : Int := if sg x = true then -(whole x : Int) else (whole x : Int)
theorem fint_eq {x : Nat} (h : rg x < INF) (hw : whole x < 9223372036854775808) : fintOk x = true ∧ fint x = swhole x := by
  have hO : fintO x = some (swhole x) := by
    unfold fintO Datum.toInt
    rw [integral_eq h]
    simp only
    have e : signed (sg x) (whole x) 0 = swhole x := by
      unfold signed swhole
      rw [Nat.shiftLeft_zero]
    rw [e, if_pos (by unfold swhole; split <;> omega)]
  unfold fintOk fint
  rw [hO]
  exact ⟨rfl, rfl⟩
/-- The whole part has a rung. -/
theorem whole_rung {x : Nat} (h : rg x < INF) (hw : 0 < whole x) : ∃ r, 0 < r ∧ r < INF ∧ val r = whole x * 2 ^ E74 := by
  obtain ⟨m, a, hr, hv, hm, _⟩ := read_fin h
  have hle : whole x * 2 ^ E74 ≤ val (rg x) := Nat.div_mul_le_self _ _
  have hvl := val_lt h
  have hE := E74_eq
  by_cases hc : 1074 ≤ a
  · have e3 : val (rg x) = m * 2 ^ (a - E74) * 2 ^ E74 := by rw [← hv, Nat.mul_assoc, ← Nat.pow_add]; congr 2; omega
    have e4 : whole x = m * 2 ^ (a - E74) := by unfold whole; rw [e3, Nat.mul_div_cancel _ (Nat.two_pow_pos _)]
    refine ⟨rg x, ?_, h, by rw [e4, ← e3]⟩
    rcases Nat.eq_zero_or_pos (rg x) with e | e
    · have h0 : val (rg x) = 0 := by rw [e]; rfl
      have hp : 0 < whole x * 2 ^ E74 := Nat.mul_pos hw (Nat.two_pow_pos _)
      omega
    · exact e
  · have hwm : whole x ≤ m := by
      unfold whole
      rw [← hv]
      have e3 : (2 : Nat) ^ E74 = 2 ^ (E74 - a) * 2 ^ a := by rw [← Nat.pow_add]; congr 1; omega
      rw [e3, Nat.mul_div_mul_right _ _ (Nat.two_pow_pos _)]
      exact Nat.div_le_self _ _
    exact rung_of hw (by omega) (Nat.lt_of_le_of_lt hle hvl)
theorem ftrunc_eq {x : Nat} (h : rg x < INF) : ∃ r, r < INF ∧ val r = whole x * 2 ^ E74 ∧ ftrunc x = Ieee.double.word (sg x) r := by
  unfold ftrunc
  rw [integral_eq h, write_num]
  rcases Nat.eq_zero_or_pos (whole x) with e | e
  · rw [e, nearest_zero]
    exact ⟨0, by decide, by rw [val_zero, Nat.zero_mul], rfl⟩
  · obtain ⟨r, hr0, hr, hv⟩ := whole_rung h e
    exact ⟨r, hr, hv, nearest_exact _ _ _ r E74 0 hr0 hr (by have := E74_eq; omega) (by rw [hv, Nat.pow_zero, Nat.mul_one])⟩
theorem ftrunc_inf {x : Nat} (h : rg x = INF) (hx : x < 18446744073709551616) : ftrunc x = x := by
  unfold ftrunc
  rw [read_inf h]
  show Ieee.double.write (.infinity (sg x)) = x
  rw [write_inf, ← h]
  exact (word_of hx).symm
theorem fin_nan {x : Nat} (h : rg x < INF) : isNan x = false := decide_eq_false (by omega)
/-- Numbers of one sign are equal where their values are. -/
theorem key_word (s : Bool) {r : Nat} (h : r < 9223372036854775808) : key (Ieee.double.word s r) = if s = true then -(r : Int) else (r : Int) := by
  unfold key
  rw [sg_word s h, rg_word s h]
/-- Whether a finite number is a whole one. -/
theorem feq_trunc {x : Nat} (h : rg x < INF) : feq x (ftrunc x) = decide (2 ^ E74 ∣ val (rg x)) := by
  obtain ⟨r, hr, hv, e⟩ := ftrunc_eq h
  have hI := inf_small
  rw [e, feq_eq (fin_nan h) (nan_word _ (by omega)), key_word _ (by omega), decide_eq_decide]
  unfold key
  have e1 : ((if sg x = true then -(rg x : Int) else (rg x : Int)) = (if sg x = true then -(r : Int) else (r : Int))) ↔ rg x = r := by split <;> omega
  rw [e1, ← val_inj, hv]
  unfold whole
  constructor
  · intro q; rw [q]; exact Nat.dvd_mul_left _ _
  · intro q; exact (Nat.div_mul_cancel q).symm
/-- The same of the whole number, where it is one of int's below 2^53. -/
theorem feq_fint {x : Nat} (h : rg x < INF) (hw : whole x < 9007199254740992) : feq (fofi (fint x)) x = decide (2 ^ E74 ∣ val (rg x)) := by
  have hI := inf_small
  have hf := (fint_eq h (by omega)).2
  rcases Nat.eq_zero_or_pos (whole x) with e | e
  · have e0 : fint x = 0 := by rw [hf]; unfold swhole; rw [e]; simp
    rw [e0, fofi_zero, feq_eq nan_zero (fin_nan h), key_zero, decide_eq_decide, eq_comm, key_rg_zero]
    have hlt : val (rg x) < 2 ^ E74 := by
      have := Nat.div_eq_zero_iff.mp e
      rcases this with q | q
      · have := Nat.two_pow_pos E74; omega
      · exact q
    constructor
    · intro q; rw [q, val_zero]; exact Nat.dvd_zero _
    · intro q
      have := Nat.eq_zero_of_dvd_of_lt q hlt
      exact (val_eq_zero _).mp this
  · have hne : fint x ≠ 0 := by rw [hf]; unfold swhole; split <;> omega
    have hab : (fint x).natAbs = whole x := by rw [hf]; unfold swhole; split <;> omega
    obtain ⟨r, hr0, hr, hv, he⟩ := fofi_eq (fint x) hne (by omega)
    have hsg : decide (fint x < 0) = sg x := by
      rw [hf]
      unfold swhole
      cases hs : sg x
      · simp
      · simp; omega
    rw [he, hsg, feq_eq (nan_word _ (by omega)) (fin_nan h), key_word _ (by omega), decide_eq_decide]
    unfold key
    have e1 : ((if sg x = true then -(r : Int) else (r : Int)) = (if sg x = true then -(rg x : Int) else (rg x : Int))) ↔ rg x = r := by split <;> omega
    rw [e1, ← val_inj, hv, hab]
    unfold whole
    constructor
    · intro q; rw [q]; exact Nat.dvd_mul_left _ _
    · intro q; exact (Nat.div_mul_cancel q).symm
/-! ### bits -/
theorem bits_and (x y : Nat) (hx : x < 18446744073709551616) (hy : y < 18446744073709551616) : (Go.bits .and .u64 (x : Int) (y : Int)) = ((x &&& y : Nat) : Int) := by
  have h : (BitVec.ofInt 64 (x : Int) &&& BitVec.ofInt 64 (y : Int)).toNat = x &&& y := by
    rw [BitVec.toNat_and, BitVec.ofInt_natCast, BitVec.ofInt_natCast, BitVec.toNat_ofNat, BitVec.toNat_ofNat, Nat.mod_eq_of_lt hx, Nat.mod_eq_of_lt hy]
  have hl : x &&& y < 2 ^ 64 := Nat.and_lt_two_pow _ hy
  show IntKind.u64.wrap (((BitVec.ofInt 64 (x : Int) &&& BitVec.ofInt 64 (y : Int)).toNat : Nat) : Int) = _
  rw [h]
  simp [IntKind.wrap, IntKind.bits, IntKind.signed]
  omega
theorem bits_or (x y : Nat) (hx : x < 18446744073709551616) (hy : y < 18446744073709551616) : (Go.bits .or .u64 (x : Int) (y : Int)) = ((x ||| y : Nat) : Int) := by
  have h : (BitVec.ofInt 64 (x : Int) ||| BitVec.ofInt 64 (y : Int)).toNat = x ||| y := by
    rw [BitVec.toNat_or, BitVec.ofInt_natCast, BitVec.ofInt_natCast, BitVec.toNat_ofNat, BitVec.toNat_ofNat, Nat.mod_eq_of_lt hx, Nat.mod_eq_of_lt hy]
  have hl : x ||| y < 2 ^ 64 := Nat.or_lt_two_pow hx hy
  show IntKind.u64.wrap (((BitVec.ofInt 64 (x : Int) ||| BitVec.ofInt 64 (y : Int)).toNat : Nat) : Int) = _
  rw [h]
  simp [IntKind.wrap, IntKind.bits, IntKind.signed]
  omega
theorem bits_andNot (x y : Nat) (hx : x < 18446744073709551616) (hy : y < 18446744073709551616) : (Go.bits .andNot .u64 (x : Int) (y : Int)) = ((x &&& (18446744073709551615 - y) : Nat) : Int) := by
  have h : (BitVec.ofInt 64 (x : Int) &&& ~~~ BitVec.ofInt 64 (y : Int)).toNat = x &&& (18446744073709551615 - y) := by
    rw [BitVec.toNat_and, BitVec.toNat_not, BitVec.ofInt_natCast, BitVec.ofInt_natCast, BitVec.toNat_ofNat, BitVec.toNat_ofNat, Nat.mod_eq_of_lt hx, Nat.mod_eq_of_lt hy]
  have hl : x &&& (18446744073709551615 - y) < 2 ^ 64 := Nat.and_lt_two_pow _ (by omega)
  show IntKind.u64.wrap (((BitVec.ofInt 64 (x : Int) &&& ~~~ BitVec.ofInt 64 (y : Int)).toNat : Nat) : Int) = _
  rw [h]
  simp [IntKind.wrap, IntKind.bits, IntKind.signed]
  omega
theorem andNot_sign {x : Nat} (h : x < 18446744073709551616) : (Go.bits .andNot .u64 (x : Int) 9223372036854775808).toNat = rg x := by
  have e := bits_andNot x 9223372036854775808 h (by omega)
  have e2 : ((9223372036854775808 : Nat) : Int) = 9223372036854775808 := rfl
  rw [← e2, e, Int.toNat_natCast]
  unfold rg
  exact Nat.and_two_pow_sub_one_eq_mod x 63
theorem rg_lt (x : Nat) : rg x < 9223372036854775808 := Nat.mod_lt _ (by decide)
theorem key_rg (x : Nat) : key (rg x) = (rg x : Int) ∧ rg (rg x) = rg x := by
  have h := rg_lt x
  have hs : sg (rg x) = false := by
    unfold sg
    rw [Nat.div_eq_of_lt h]
    rfl
  have hr : rg (rg x) = rg x := Nat.mod_eq_of_lt h
  exact ⟨by unfold key; rw [hs, hr]; rfl, hr⟩
theorem tb3 (a e f j : Nat) (he : e < 2048) (hf : f < 4503599627370496) : (2 ^ 63 * a + (2 ^ 52 * e + f)).testBit j = if j < 63 then (if j < 52 then f.testBit j else e.testBit (j - 52)) else a.testBit (j - 63) := by
  have h1 : 2 ^ 52 * e + f < 2 ^ 63 := by
    have : (2 : Nat) ^ 52 = 4503599627370496 := by decide
    have : (2 : Nat) ^ 63 = 9223372036854775808 := by decide
    omega
  rw [Nat.testBit_two_pow_mul_add _ h1]
  by_cases h : j < 63
  · rw [if_pos h, if_pos h, Nat.testBit_two_pow_mul_add _ (show f < 2 ^ 52 from hf)]
  · rw [if_neg h, if_neg h]
theorem and3 (a e f : Nat) (ha : a < 2) (he : e < 2048) (hf : f < 4503599627370496) : (2 ^ 63 * a + (2 ^ 52 * e + f)) &&& (2 ^ 63 * 1 + (2 ^ 52 * 0 + 4503599627370495)) = 2 ^ 63 * a + (2 ^ 52 * 0 + f) := by
  apply Nat.eq_of_testBit_eq
  intro j
  rw [Nat.testBit_and, tb3 _ _ _ _ he hf, tb3 _ _ _ _ (by omega) (by omega), tb3 _ _ _ _ (by omega) hf]
  by_cases h : j < 63
  · rw [if_pos h, if_pos h, if_pos h]
    by_cases h2 : j < 52
    · rw [if_pos h2, if_pos h2, if_pos h2, show (4503599627370495 : Nat) = 2 ^ 52 - 1 from by decide, Nat.testBit_two_pow_sub_one, decide_eq_true h2, Bool.and_true]
    · rw [if_neg h2, if_neg h2, if_neg h2]; simp
  · rw [if_neg h, if_neg h, if_neg h]
    rcases (show a = 0 ∨ a = 1 by omega) with rfl | rfl <;> simp
theorem or3 (a e f : Nat) (he : e < 2048) (hf : f < 4503599627370496) : (2 ^ 63 * a + (2 ^ 52 * 0 + f)) ||| (2 ^ 63 * 0 + (2 ^ 52 * e + 0)) = 2 ^ 63 * a + (2 ^ 52 * e + f) := by
  apply Nat.eq_of_testBit_eq
  intro j
  rw [Nat.testBit_or, tb3 _ _ _ _ (by omega) hf, tb3 _ _ _ _ he (by omega), tb3 _ _ _ _ he hf]
  by_cases h : j < 63
  · rw [if_pos h, if_pos h, if_pos h]
    by_cases h2 : j < 52
    · rw [if_pos h2, if_pos h2, if_pos h2]; simp
    · rw [if_neg h2, if_neg h2, if_neg h2]; simp
  · rw [if_neg h, if_neg h, if_neg h]; simp
theorem word3 {x : Nat} (h : x < 18446744073709551616) : x = 2 ^ 63 * (if sg x = true then 1 else 0) + (2 ^ 52 * (rg x / 4503599627370496) + rg x % 4503599627370496) := by
  have e := split_word h
  have h63 : (2 : Nat) ^ 63 = 9223372036854775808 := by decide
  have h52 : (2 : Nat) ^ 52 = 4503599627370496 := by decide
  rw [h63, h52]
  by_cases hs : sg x = true
  · rw [if_pos hs] at e ⊢; omega
  · rw [if_neg hs] at e ⊢; omega
theorem word_eq3 (s : Bool) (e f : Nat) : Ieee.double.word s (e * 4503599627370496 + f) = 2 ^ 63 * (if s = true then 1 else 0) + (2 ^ 52 * e + f) := by
  have h63 : (2 : Nat) ^ 63 = 9223372036854775808 := by decide
  have h52 : (2 : Nat) ^ 52 = 4503599627370496 := by decide
  unfold Format.word
  rw [double_sign, h63, h52]
  cases s
  · simp only [Bool.false_eq_true, if_false]; omega
  · simp only [if_true]; omega
/-- The exponent's field is set anew. -/
theorem set_exp {x e : Nat} (hx : x < 18446744073709551616) (he : e < 2047) : (Go.bits .or .u64 (Go.bits .andNot .u64 (x : Int) 9218868437227405312) ((e * 4503599627370496 : Nat) : Int)).toNat = Ieee.double.word (sg x) (e * 4503599627370496 + rg x % 4503599627370496) := by
  have h63 : (2 : Nat) ^ 63 = 9223372036854775808 := by decide
  have h52 : (2 : Nat) ^ 52 = 4503599627370496 := by decide
  have hr := rg_lt x
  have e1 := bits_andNot x 9218868437227405312 hx (by omega)
  rw [show ((9218868437227405312 : Nat) : Int) = 9218868437227405312 from rfl] at e1
  have hm : (18446744073709551615 - 9218868437227405312 : Nat) = 2 ^ 63 * 1 + (2 ^ 52 * 0 + 4503599627370495) := by decide
  have hsb : (if sg x = true then 1 else 0) < 2 := by split <;> omega
  have hand : x &&& (18446744073709551615 - 9218868437227405312) = 2 ^ 63 * (if sg x = true then 1 else 0) + (2 ^ 52 * 0 + rg x % 4503599627370496) := by
    rw [hm]
    conv => lhs; rw [word3 hx]
    exact and3 _ _ _ hsb (by omega) (by omega)
  rw [e1, hand, bits_or _ _ (by rw [h63, h52]; split <;> omega) (by omega), Int.toNat_natCast, word_eq3]
  have ho := or3 (if sg x = true then 1 else 0) e (rg x % 4503599627370496) (by omega) (by omega)
  rw [← ho]
  congr 1
  rw [h52]
  omega
theorem get_exp {x : Nat} (hx : x < 18446744073709551616) : Go.bits .and .u64 ((x : Int) / 4503599627370496) 2047 = ((rg x / 4503599627370496 : Nat) : Int) := by
  have e1 : ((x : Int) / 4503599627370496) = ((x / 4503599627370496 : Nat) : Int) := by omega
  have e2 := bits_and (x / 4503599627370496) 2047 (by omega) (by omega)
  rw [show ((2047 : Nat) : Int) = 2047 from rfl] at e2
  rw [e1, e2]
  congr 1
  have := Nat.and_two_pow_sub_one_eq_mod (x / 4503599627370496) 11
  rw [show (2 : Nat) ^ 11 - 1 = 2047 from by decide, show (2 : Nat) ^ 11 = 2048 from by decide] at this
  rw [this]
  unfold rg
  omega
theorem bits_and_i64 (x y : Nat) (hx : x < 9223372036854775808) (hy : y < 9223372036854775808) : (Go.bits .and .i64 (x : Int) (y : Int)) = ((x &&& y : Nat) : Int) := by
  have h : (BitVec.ofInt 64 (x : Int) &&& BitVec.ofInt 64 (y : Int)).toNat = x &&& y := by
    rw [BitVec.toNat_and, BitVec.ofInt_natCast, BitVec.ofInt_natCast, BitVec.toNat_ofNat, BitVec.toNat_ofNat, Nat.mod_eq_of_lt (by omega), Nat.mod_eq_of_lt (by omega)]
  have hl : x &&& y < 2 ^ 63 := Nat.and_lt_two_pow _ hy
  show IntKind.i64.wrap (((BitVec.ofInt 64 (x : Int) &&& BitVec.ofInt 64 (y : Int)).toNat : Nat) : Int) = _
  rw [h]
  simp [IntKind.wrap, IntKind.bits, IntKind.signed]
  omega
theorem get_exp_i64 {x : Nat} (hx : x < 18446744073709551616) : Go.bits .and .i64 ((x : Int) / 4503599627370496) 2047 = ((rg x / 4503599627370496 : Nat) : Int) := by
  have e1 : ((x : Int) / 4503599627370496) = ((x / 4503599627370496 : Nat) : Int) := by omega
  have e2 := bits_and_i64 (x / 4503599627370496) 2047 (by omega) (by omega)
  rw [show ((2047 : Nat) : Int) = 2047 from rfl] at e2
  rw [e1, e2]
  congr 1
  have := Nat.and_two_pow_sub_one_eq_mod (x / 4503599627370496) 11
  rw [show (2 : Nat) ^ 11 - 1 = 2047 from by decide, show (2 : Nat) ^ 11 = 2048 from by decide] at this
  rw [this]
  unfold rg
  omega
theorem pow_zero_one : IsPow 4607182418800017408 0 := ⟨4503599627370496, by decide, by kernel_rfl⟩
theorem val_norm {e f : Nat} (he : 1 ≤ e) (hf : f < 4503599627370496) : val (e * 4503599627370496 + f) = (4503599627370496 + f) * 2 ^ (e - 1) := by
  unfold val
  rw [if_neg (by omega)]
  have e1 : (e * 4503599627370496 + f) / 4503599627370496 = e := by omega
  have e2 : (e * 4503599627370496 + f) % 4503599627370496 = f := by omega
  rw [e1, e2]
end Go.Proofs.YthdpiceiemkjlaaDoor.MReal

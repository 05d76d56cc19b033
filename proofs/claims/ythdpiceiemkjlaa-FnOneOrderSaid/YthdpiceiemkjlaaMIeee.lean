/- Plain facts on the doubles of Ieee: their order is the order of their signed rungs; what is written exactly comes back. No program in sight. -/
import Ieee.Arith
namespace Go.Proofs.Ythdpiceiemkjlaa.MIeee
open Ieee

/-- The sign and the rung of a word; what a rung stands for, in units of the least place. -/
def sg (x : Nat) : Bool := x / 9223372036854775808 % 2 == 1
def rg (x : Nat) : Nat := x % 9223372036854775808
def val (r : Nat) : Nat := if r < 4503599627370496 then r else (4503599627370496 + r % 4503599627370496) * 2 ^ (r / 4503599627370496 - 1)
def INF : Nat := 9218868437227405312
theorem double_binade : Ieee.double.binade = 4503599627370496 := by decide
theorem double_inf : Ieee.double.infRung = 9218868437227405312 := by decide
theorem double_sign : Ieee.double.signWeight = 9223372036854775808 := by decide
theorem double_least : Ieee.double.leastPlace = -1074 := by decide
theorem read_eq (x : Nat) : Ieee.double.read x =
    if rg x < 4503599627370496 then .number (sg x) (rg x) (-1074)
    else if rg x < INF then .number (sg x) (4503599627370496 + rg x % 4503599627370496) (-1074 + ((rg x / 4503599627370496 - 1 : Nat) : Int))
    else if rg x = INF then .infinity (sg x) else .nan (sg x) (rg x - INF) := by
  unfold Format.read
  rw [double_binade, double_inf, double_sign, double_least]
  rfl
theorem val_step (r : Nat) : val r < val (r + 1) := by
  unfold val
  by_cases h : r + 1 < 4503599627370496
  · rw [if_pos (by omega), if_pos h]; omega
  · rw [if_neg h]
    by_cases h2 : r < 4503599627370496
    · rw [if_pos h2]
      have e : r = 4503599627370495 := by omega
      subst e
      decide
    · rw [if_neg h2]
      by_cases h3 : r % 4503599627370496 + 1 < 4503599627370496
      · have e1 : (r + 1) / 4503599627370496 = r / 4503599627370496 := by omega
        have e2 : (r + 1) % 4503599627370496 = r % 4503599627370496 + 1 := by omega
        rw [e1, e2]
        exact Nat.mul_lt_mul_of_pos_right (by omega) (Nat.two_pow_pos _)
      · have e1 : (r + 1) / 4503599627370496 = r / 4503599627370496 + 1 := by omega
        have e2 : (r + 1) % 4503599627370496 = 0 := by omega
        have e3 : r % 4503599627370496 = 4503599627370495 := by omega
        obtain ⟨q, hq⟩ : ∃ q, r / 4503599627370496 = q + 1 := ⟨r / 4503599627370496 - 1, by omega⟩
        rw [e1, e2, e3, hq]
        simp only [Nat.add_sub_cancel, Nat.pow_succ]
        have := Nat.two_pow_pos q
        omega
theorem val_mono {r s : Nat} (h : r < s) : val r < val s := by
  induction s with
  | zero => omega
  | succ s ih =>
    rcases Nat.lt_succ_iff_lt_or_eq.1 h with h | h
    · exact Nat.lt_trans (ih h) (val_step s)
    · subst h; exact val_step _
theorem val_lt_iff {r s : Nat} : val r < val s ↔ r < s := by
  constructor
  · intro h
    rcases Nat.lt_trichotomy r s with h1 | h1 | h1
    · exact h1
    · subst h1; omega
    · have := val_mono h1; omega
  · exact val_mono
theorem val_inj {r s : Nat} : val r = val s ↔ r = s := by
  constructor
  · intro h
    rcases Nat.lt_trichotomy r s with h1 | h1 | h1
    · have := val_mono h1; omega
    · exact h1
    · have := val_mono h1; omega
  · rintro rfl; rfl
theorem val_zero : val 0 = 0 := rfl
theorem val_eq_zero (r : Nat) : val r = 0 ↔ r = 0 := by
  have := @val_inj r 0
  rwa [val_zero] at this
/-- The signed rung. -/
def key (x : Nat) : Int := if sg x then -(rg x : Int) else rg x
def sval (x : Nat) : Int := if sg x then -(val (rg x) : Int) else val (rg x)
theorem cmp_congr {a b c d : Int} (h1 : a < b ↔ c < d) (h2 : a = b ↔ c = d) : compare a b = compare c d := by
  simp only [compare, compareOfLessAndEq, h1, h2]
theorem mul_zero_iff {u P : Nat} (hp : 0 < P) : u = 0 ↔ u * P = 0 := by
  rw [Nat.mul_eq_zero]
  omega
theorem signed_eq (s : Bool) (m k : Nat) : signed s m k = (if s then -((m * 2 ^ k : Nat) : Int) else ((m * 2 ^ k : Nat) : Int)) := by
  unfold signed
  rw [Nat.shiftLeft_eq]
theorem sval_lt_iff (x y : Nat) : sval x < sval y ↔ key x < key y := by
  have h1 := @val_lt_iff (rg x) (rg y)
  have h2 := @val_lt_iff (rg y) (rg x)
  have h3 := @val_inj (rg x) (rg y)
  have h4 := val_eq_zero (rg x)
  have h5 := val_eq_zero (rg y)
  unfold sval key
  cases sg x <;> cases sg y <;> simp only [if_true, if_false, Bool.false_eq_true] <;> omega
theorem sval_eq_iff (x y : Nat) : sval x = sval y ↔ key x = key y := by
  have h1 := sval_lt_iff x y
  have h2 := sval_lt_iff y x
  omega
/-- A finite word, read. -/
theorem read_fin {x : Nat} (h : rg x < INF) : ∃ m a : Nat, Ieee.double.read x = .number (sg x) m (-1074 + (a : Int)) ∧ m * 2 ^ a = val (rg x) ∧ m < 9007199254740992 ∧ (rg x < 4503599627370496 → m = rg x ∧ a = 0) ∧ (¬ rg x < 4503599627370496 → m = 4503599627370496 + rg x % 4503599627370496 ∧ a = rg x / 4503599627370496 - 1) := by
  rw [read_eq]
  by_cases h1 : rg x < 4503599627370496
  · rw [if_pos h1]
    exact ⟨rg x, 0, by simp, by unfold val; rw [if_pos h1]; simp, by omega, fun _ => ⟨rfl, rfl⟩, fun h => absurd h1 h⟩
  · rw [if_neg h1, if_pos h]
    exact ⟨_, _, rfl, by unfold val; rw [if_neg h1], by omega, fun h => absurd h h1, fun _ => ⟨rfl, rfl⟩⟩
theorem read_inf {x : Nat} (h : rg x = INF) : Ieee.double.read x = .infinity (sg x) := by
  rw [read_eq, if_neg (by rw [h]; decide), if_neg (by omega), if_pos h]
theorem read_nan {x : Nat} (h : INF < rg x) : Ieee.double.read x = .nan (sg x) (rg x - INF) := by
  rw [read_eq, if_neg (by unfold INF at h; omega), if_neg (by omega), if_neg (by omega)]
def isNan (x : Nat) : Bool := decide (INF < rg x)
def isInf (x : Nat) : Bool := decide (rg x = INF)
theorem order_nan {x y : Nat} (h : isNan x = true ∨ isNan y = true) : Ieee.double.order x y = none := by
  unfold Format.order
  rcases h with h | h
  · rw [read_nan (of_decide_eq_true h)]; rfl
  · rw [read_nan (of_decide_eq_true h)]; cases Ieee.double.read x <;> rfl
theorem order_eq {x y : Nat} (hx : isNan x = false) (hy : isNan y = false) : Ieee.double.order x y = some (compare (key x) (key y)) := by
  have hx' : rg x ≤ INF := by have := of_decide_eq_false hx; omega
  have hy' : rg y ≤ INF := by have := of_decide_eq_false hy; omega
  unfold Format.order
  rcases Nat.lt_or_ge (rg x) INF with h1 | h1
  · obtain ⟨m, a, e1, v1, _⟩ := read_fin h1
    rcases Nat.lt_or_ge (rg y) INF with h2 | h2
    · obtain ⟨n, b, e2, v2, _⟩ := read_fin h2
      rw [e1, e2]
      simp only [Datum.order]
      congr 1
      have ea : (-1074 + (a : Int) - min (-1074 + (a : Int)) (-1074 + (b : Int))).toNat = a - min a b := by omega
      have eb : (-1074 + (b : Int) - min (-1074 + (a : Int)) (-1074 + (b : Int))).toNat = b - min a b := by omega
      rw [ea, eb, signed_eq, signed_eq]
      have c1 : m * 2 ^ (a - min a b) * 2 ^ (min a b) = val (rg x) := by rw [Nat.mul_assoc, ← Nat.pow_add, show a - min a b + min a b = a from by omega, v1]
      have c2 : n * 2 ^ (b - min a b) * 2 ^ (min a b) = val (rg y) := by rw [Nat.mul_assoc, ← Nat.pow_add, show b - min a b + min a b = b from by omega, v2]
      have hp : 0 < 2 ^ (min a b) := Nat.two_pow_pos _
      generalize m * 2 ^ (a - min a b) = u at c1 ⊢
      generalize n * 2 ^ (b - min a b) = v at c2 ⊢
      generalize 2 ^ (min a b) = P at c1 c2 hp
      have huv : u < v ↔ val (rg x) < val (rg y) := by rw [← c1, ← c2]; exact (Nat.mul_lt_mul_right hp).symm
      have hvu : v < u ↔ val (rg y) < val (rg x) := by rw [← c1, ← c2]; exact (Nat.mul_lt_mul_right hp).symm
      have hu0 : u = 0 ↔ val (rg x) = 0 := by rw [← c1]; exact mul_zero_iff hp
      have hv0 : v = 0 ↔ val (rg y) = 0 := by rw [← c2]; exact mul_zero_iff hp
      have k1 := sval_lt_iff x y
      have k2 := sval_eq_iff x y
      unfold sval at k1 k2
      refine cmp_congr ?_ ?_
      · rw [← k1]; cases sg x <;> cases sg y <;> simp only [if_true, if_false, Bool.false_eq_true] <;> omega
      · rw [← k2]; cases sg x <;> cases sg y <;> simp only [if_true, if_false, Bool.false_eq_true] <;> omega
    · have h2' : rg y = INF := by omega
      rw [e1, read_inf h2']
      simp only [Datum.order]
      unfold key
      rw [h2']
      unfold INF at h1 ⊢
      cases sg x <;> cases sg y <;> simp only [if_true, if_false, Bool.false_eq_true, compare, compareOfLessAndEq] <;> (first | rw [if_pos (by omega)] | rw [if_neg (by omega), if_neg (by omega)])
  · have h1' : rg x = INF := by omega
    rw [read_inf h1']
    rcases Nat.lt_or_ge (rg y) INF with h2 | h2
    · obtain ⟨n, b, e2, v2, _⟩ := read_fin h2
      rw [e2]
      simp only [Datum.order]
      unfold key
      rw [h1']
      unfold INF at h2 ⊢
      cases sg x <;> cases sg y <;> simp only [if_true, if_false, Bool.false_eq_true, compare, compareOfLessAndEq] <;> (first | rw [if_pos (by omega)] | rw [if_neg (by omega), if_neg (by omega)])
    · have h2' : rg y = INF := by omega
      rw [read_inf h2']
      unfold key
      rw [h1', h2']
      cases sg x <;> cases sg y <;> rfl
theorem rg_word (s : Bool) {r : Nat} (h : r < 9223372036854775808) : rg (Ieee.double.word s r) = r := by
  unfold Format.word rg
  rw [double_sign]
  cases s
  · simp only [Bool.false_eq_true, if_false]; omega
  · simp only [if_true]; omega
end Go.Proofs.Ythdpiceiemkjlaa.MIeee

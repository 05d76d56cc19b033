/- What OrderFor, CountOrders, FitsOrder, PlayObject and CallAhead answer: the orders that are listed are those that fit. -/
import Derived.Test.YthdpiceiemkjlaaGFnOneOrderx18
import Derived.Test.YthdpiceiemkjlaaMBase
import Derived.KernelRfl
import Derived.Test.YthdpiceiemkjlaaMReal
import Derived.Test.YthdpiceiemkjlaaGFnOneOrderx10
import Derived.Test.YthdpiceiemkjlaaGFnOneOrderx14
import Derived.Test.YthdpiceiemkjlaaGFnOneOrderx17
set_option linter.unusedVariables false
set_option linter.unusedSimpArgs false
namespace Go.Proofs.Ythdpiceiemkjlaa.Pure
open Go.RowKit Go.Proofs.Ythdpiceiemkjlaa.GFnOneOrder Go.Proofs.YthdpiceiemkjlaaW.PrintWords Go.Proofs.YthdpiceiemkjlaaW.PrintLast Go.Proofs.YthdpiceiemkjlaaW.PrintMore Go.Proofs.Ythdpiceiemkjlaa.MBase
open Go.Proofs.Ythdpiceiemkjlaa Go.Proofs.Ythdpiceiemkjlaa.MNum Go.Proofs.Ythdpiceiemkjlaa.MIeee Go.Proofs.Ythdpiceiemkjlaa.MReal
def minus (x : Nat) : Bool := decide (key x < 0) || decide (x = 9223372036854775808)
theorem spec_minus {x : Nat} (hx : x < 18446744073709551616) : spec_IsMinus.f x = some (if isNan x = true then false else minus x) := by
 unfold spec_IsMinus.f
 cases hn : isNan x with
 | true => rw [flt_nan (.inl hn), feq_nan (.inl hn)]; rfl
 | false =>
  rw [flt_eq hn nan_zero, feq_eq hn nan_zero, key_zero]
  unfold minus
  by_cases h : key x < 0
  ·simp [h]
  ·by_cases h2 : key x = 0
   ·rcases zero_cases hx (key_rg_zero.mp h2) with rfl | rfl
    ·rw [if_neg (by simp [h]), if_pos (by simp [h2]), if_pos inv_pz.1, inv_pz.2.1]; rfl
    ·rw [if_neg (by simp [h]), if_pos (by simp [h2]), if_pos inv_nz.1, inv_nz.2.1]; rfl
   ·have : x ≠ 9223372036854775808 := by rintro rfl; exact h2 (by decide)
    simp [h, h2, this]
/-- Two numbers are one: both no number, or the same bits. -/
def same (x y : Nat) : Bool := if isNan x = true then isNan y else decide (isNan y = false ∧ x = y)
theorem spec_nan (x : Nat) : spec_l1Nan.f x = some (isNan x) := by
 unfold spec_l1Nan.f; rw [feq_self]; cases isNan x <;> rfl
theorem spec_same {x y : Nat} (hx : x < 18446744073709551616) (hy : y < 18446744073709551616) : Ev (fun k => spec_l1SameNum.f k x y) (same x y) := by
 simp only [spec_l1SameNum.f, spec_nan, Option.bind_some]
 unfold same
 cases hn : isNan x with
 | true =>
  rw [if_pos rfl]
  refine Ev.ite_pos rfl (Ev.step (f := fun _ => some (isNan y)) (fun k => ?_) (Ev.now _))
  simp only [spec_l1SameNum.j0, spec_nan, Option.bind_some]; rw [if_pos trivial, hn, if_pos rfl]
 | false =>
  rw [if_neg (by simp)]
  refine Ev.ite_neg (by simp) ?_
  cases hm : isNan y with
  | true =>
   rw [decide_eq_false (by simp)]
   refine Ev.step (f := fun _ => some false) (fun k => ?_) (Ev.now _)
   simp only [spec_l1SameNum.j0, spec_nan, Option.bind_some]; rw [if_pos trivial, hn, if_neg (by simp)]
  | false =>
   refine Ev.step (f := fun _ => some (decide (false = false ∧ x = y))) (fun k => ?_) (Ev.now _)
   simp only [spec_l1SameNum.j0, spec_minus hx, spec_minus hy, Option.bind_some]
   rw [if_neg (by simp), feq_eq hn hm, hn, hm]
   simp only [Bool.false_eq_true, if_false, decide_eq_true_eq, true_and]
   by_cases hk : key x = key y
   ·rw [if_pos hk]
    congr 1
    by_cases h0 : rg x = 0
    ·have hy0 : rg y = 0 := key_rg_zero.mp (hk ▸ key_rg_zero.mpr h0)
     rcases zero_cases hx h0 with rfl | rfl <;> rcases zero_cases hy hy0 with rfl | rfl <;> decide
    ·have := key_inj hx hy h0 hk
     subst this
     simp
   ·rw [if_neg hk]
    congr 1
    rw [eq_comm, decide_eq_false_iff_not]
    rintro rfl
    exact hk rfl
theorem math_nan (x : Nat) : math_IsNaN.f x = some (isNan x) := by
 unfold math_IsNaN.f; rw [feq_self]; cases isNan x <;> rfl
theorem impl_same {x y : Nat} : impl_SameNum.f x y = some (same x y) := by
 simp only [impl_SameNum.f, math_nan, Option.bind_some]
 unfold same
 cases hn : isNan x with
 | true =>
  rw [if_pos rfl, if_pos rfl]
  cases hm : isNan y with
  | true => rfl
  | false =>
   rw [if_neg (by simp)]
   congr 1
   rw [beq_eq_false_iff_ne]
   intro q
   have : x = y := by omega
   rw [this, hm] at hn
   cases hn
 | false =>
  rw [if_neg (by simp), if_neg (by simp)]
  congr 1
  rw [Bool.eq_iff_iff, beq_iff_eq, decide_eq_true_eq]
  constructor
  ·intro q
   have : x = y := by omega
   exact ⟨this ▸ hn, this⟩
  ·rintro ⟨_, rfl⟩; rfl
theorem l1In_dec (a b c : Int) : spec_l1In.f a b c = some (decide (b ≤ a ∧ a ≤ c)) := by
 unfold spec_l1In.f
 by_cases h : b ≤ a
 ·rw [if_pos h]; simp [h]
 ·rw [if_neg h]; simp [h]
theorem in_dec (a b c : Int) : impl_in.f a b c = some (decide (b ≤ a ∧ a ≤ c)) := l1In_dec a b c
def badC (x : S77) : Bool := !decide ((0 ≤ x.f0 ∧ x.f0 ≤ 9) ∧ 0 ≤ x.f1 ∧ x.f1 < x.f2 ∧ x.f2 ≤ 999)
def meets (x y : S77) : Bool := decide (x.f0 = y.f0 ∧ x.f2 ≥ y.f1 ∧ y.f2 ≥ x.f1)
theorem rd92 (xs : List S77) (i : Nat) (h : i < xs.length) : rd_T77 xs (i : Int) = xs[i] := by
 simp [rd_T77, h]
theorem spec_l0_step (xs : List S77) (hx : xs.length ≤ 1048576) (i : Nat) (hi : i < xs.length) (k : Nat) :
  spec_l16Good.l0 (k+1) xs xs (xs.length : Int) (i : Int) = spec_l16Good.j1 k xs (i : Int) xs (xs.length : Int) (i : Int) (badC xs[i]) (xs[i]).f0 (xs[i]).f1 (xs[i]).f2 (xs[i]).f3 (xs[i]).f4 := by
 simp only [spec_l16Good.l0, l1In_dec, Option.bind_some, decide_eq_true_eq]
 rw [if_pos (by omega), if_pos (by omega), if_pos (by omega), rd92 xs i hi]
 unfold badC
 by_cases h0 : 0 ≤ (xs[i]).f0 ∧ (xs[i]).f0 ≤ 9
 ·by_cases h1 : 0 ≤ (xs[i]).f1 ∧ (xs[i]).f1 ≤ 999
  ·rw [if_pos h0, if_pos h1, wrap_id (n := (xs[i]).f1 + 1) (by omega) (by omega)]
   congr 2
   rw [decide_eq_decide]
   omega
  ·rw [if_pos h0, if_neg h1, decide_eq_false (by omega)]; rfl
 ·rw [if_neg h0, decide_eq_false (by omega)]; rfl
theorem impl_l0_step (xs : List S77) (hx : xs.length ≤ 1048576) (i : Nat) (hi : i < xs.length) (k : Nat) :
  impl_GoodHistory.l0 (k+1) xs xs (xs.length : Int) (i : Int) = impl_GoodHistory.j1 k xs (i : Int) xs (xs.length : Int) (i : Int) (badC xs[i]) (xs[i]).f0 (xs[i]).f1 (xs[i]).f2 (xs[i]).f3 (xs[i]).f4 := by
 simp only [impl_GoodHistory.l0, in_dec, Option.bind_some, decide_eq_true_eq]
 rw [if_pos (by omega), if_pos (by omega), if_pos (by omega), rd92 xs i hi]
 unfold badC
 by_cases h0 : 0 ≤ (xs[i]).f0 ∧ (xs[i]).f0 ≤ 9
 ·by_cases h1 : (xs[i]).f1 < 0
  ·rw [if_pos h0, if_pos h1, decide_eq_false (by omega)]; rfl
  ·by_cases h2 : (xs[i]).f1 ≥ (xs[i]).f2
   ·rw [if_pos h0, if_neg h1, if_pos h2, decide_eq_false (by omega)]; rfl
   ·rw [if_pos h0, if_neg h1, if_neg h2]
    congr 1
    rw [← decide_not, decide_eq_decide]
    omega
 ·rw [if_neg h0, decide_eq_false (by omega)]; rfl
theorem spec_l1_step (xs ys : List S77) (hy : ys.length ≤ 1048576) (i : Int) (x : S77) (j : Nat) (hj : j < ys.length) (k : Nat) :
  spec_l16Good.l1 (k+1) xs xs (xs.length : Int) i ys (ys.length : Int) (j : Int) x.f0 x.f1 x.f2 x.f3 x.f4 = if meets x ys[j] = true then some false else spec_l16Good.l1 k xs xs (xs.length : Int) i ys (ys.length : Int) ((j + 1 : Nat) : Int) x.f0 x.f1 x.f2 x.f3 x.f4 := by
 simp only [spec_l16Good.l1]
 rw [if_pos (by omega), if_pos (by omega), if_pos (by omega), rd92 ys j hj, wrap_id (n := (j : Int) + 1) (by omega) (by omega)]
 unfold meets
 simp only [decide_eq_true_eq]
 by_cases h0 : x.f0 = (ys[j]).f0 <;> by_cases h1 : x.f2 ≥ (ys[j]).f1 <;> by_cases h2 : (ys[j]).f2 ≥ x.f1 <;> simp only [h0, h1, h2, if_true, if_false, true_and, and_true, false_and, and_false] <;> rfl
theorem impl_l1_step (xs ys : List S77) (hy : ys.length ≤ 1048576) (i : Int) (x : S77) (j : Nat) (hj : j < ys.length) (k : Nat) :
  impl_GoodHistory.l1 (k+1) xs xs (xs.length : Int) i ys (ys.length : Int) (j : Int) x.f0 x.f1 x.f2 x.f3 x.f4 = if meets x ys[j] = true then some false else impl_GoodHistory.l1 k xs xs (xs.length : Int) i ys (ys.length : Int) ((j + 1 : Nat) : Int) x.f0 x.f1 x.f2 x.f3 x.f4 := by
 simp only [impl_GoodHistory.l1]
 rw [if_pos (by omega), if_pos (by omega), if_pos (by omega), rd92 ys j hj, wrap_id (n := (j : Int) + 1) (by omega) (by omega)]
 unfold meets
 simp only [decide_eq_true_eq]
 have e : ((ys[j]).f0 = x.f0) = (x.f0 = (ys[j]).f0) := propext ⟨Eq.symm, Eq.symm⟩
 simp only [e]
 by_cases h0 : x.f0 = (ys[j]).f0 <;> by_cases h1 : x.f2 ≥ (ys[j]).f1 <;> by_cases h2 : (ys[j]).f2 ≥ x.f1 <;> simp only [h0, h1, h2, if_true, if_false, true_and, and_true, false_and, and_false] <;> rfl
/-- What both loops come to, from call i on. -/
def goodR (xs : List S77) : Nat → Nat → Bool
 | 0, _ => decide ((xs.length : Int) ≤ 8)
 | d + 1, i => if badC (xs.getD i z77) = true then false else if (xs.take i).any (meets (xs.getD i z77)) = true then false else goodR xs d (i + 1)
theorem inner_spec (xs ys : List S77) (hy : ys.length ≤ 1048576) (i : Int) (x : S77) (r : Bool) (h : Ev (fun k => spec_l16Good.l0 k xs xs (xs.length : Int) (wrap64 (i + 1))) r) : ∀ d j : Nat, j + d = ys.length →
  Ev (fun k => spec_l16Good.l1 k xs xs (xs.length : Int) i ys (ys.length : Int) (j : Int) x.f0 x.f1 x.f2 x.f3 x.f4) (if (ys.drop j).any (meets x) = true then false else r)
 | 0, j, e => by
  rw [List.drop_eq_nil_of_le (by omega), List.any_nil, if_neg (by simp)]
  refine Ev.step (fun k => ?_) h
  simp only [spec_l16Good.l1]; rw [if_neg (by omega)]
 | d + 1, j, e => by
  have hj : j < ys.length := by omega
  rw [List.drop_eq_getElem_cons hj, List.any_cons]
  refine Ev.step (spec_l1_step xs ys hy i x j hj) ?_
  cases hm : meets x ys[j] with
  | true => rw [Bool.true_or, if_pos rfl]; exact Ev.ite_pos rfl (Ev.now _)
  | false => rw [Bool.false_or]; exact Ev.ite_neg (by simp) (inner_spec xs ys hy i x r h d (j + 1) (by omega))
theorem inner_impl (xs ys : List S77) (hy : ys.length ≤ 1048576) (i : Int) (x : S77) (r : Bool) (h : Ev (fun k => impl_GoodHistory.l0 k xs xs (xs.length : Int) (wrap64 (i + 1))) r) : ∀ d j : Nat, j + d = ys.length →
  Ev (fun k => impl_GoodHistory.l1 k xs xs (xs.length : Int) i ys (ys.length : Int) (j : Int) x.f0 x.f1 x.f2 x.f3 x.f4) (if (ys.drop j).any (meets x) = true then false else r)
 | 0, j, e => by
  rw [List.drop_eq_nil_of_le (by omega), List.any_nil, if_neg (by simp)]
  refine Ev.step (fun k => ?_) h
  simp only [impl_GoodHistory.l1]; rw [if_neg (by omega)]
 | d + 1, j, e => by
  have hj : j < ys.length := by omega
  rw [List.drop_eq_getElem_cons hj, List.any_cons]
  refine Ev.step (impl_l1_step xs ys hy i x j hj) ?_
  cases hm : meets x ys[j] with
  | true => rw [Bool.true_or, if_pos rfl]; exact Ev.ite_pos rfl (Ev.now _)
  | false => rw [Bool.false_or]; exact Ev.ite_neg (by simp) (inner_impl xs ys hy i x r h d (j + 1) (by omega))
theorem outer_spec (xs : List S77) (hx : xs.length ≤ 1048576) : ∀ d i : Nat, i + d = xs.length → Ev (fun k => spec_l16Good.l0 k xs xs (xs.length : Int) (i : Int)) (goodR xs d i)
 | 0, i, h => by
  refine Ev.step (f := fun _ => some (decide ((xs.length : Int) ≤ 8))) (fun k => ?_) (Ev.now _)
  simp only [spec_l16Good.l0]; rw [if_neg (by omega)]
 | d + 1, i, h => by
  have hi : i < xs.length := by omega
  have eg : xs.getD i z77 = xs[i] := by simp [hi]
  unfold goodR
  rw [eg]
  refine Ev.step (spec_l0_step xs hx i hi) ?_
  cases hb : badC xs[i] with
  | true =>
   refine Ev.step (f := fun _ => some false) (fun k => ?_) (Ev.now _)
   simp only [spec_l16Good.j1]; rw [if_pos trivial]
  | false =>
   have hl : (xs.take i).length = i := by simp; omega
   have ih := outer_spec xs hx d (i + 1) (by omega)
   have q := inner_spec xs (xs.take i) (by omega) (i : Int) xs[i] (goodR xs d (i + 1)) (by rw [wrap_id (n := (i : Int) + 1) (by omega) (by omega)]; exact ih) i 0 (by omega)
   rw [List.drop_zero] at q
   rw [if_neg (by simp)]
   refine Ev.step (fun k => ?_) q
   simp only [spec_l16Good.j1]
   rw [if_neg (by simp), if_pos (by omega), if_pos (by omega), Int.toNat_natCast, Option.bind_some]
   rfl
theorem outer_impl (xs : List S77) (hx : xs.length ≤ 1048576) : ∀ d i : Nat, i + d = xs.length → Ev (fun k => impl_GoodHistory.l0 k xs xs (xs.length : Int) (i : Int)) (goodR xs d i)
 | 0, i, h => by
  refine Ev.step (f := fun _ => some (decide ((xs.length : Int) ≤ 8))) (fun k => ?_) (Ev.now _)
  simp only [impl_GoodHistory.l0]; rw [if_neg (by omega)]
 | d + 1, i, h => by
  have hi : i < xs.length := by omega
  have eg : xs.getD i z77 = xs[i] := by simp [hi]
  unfold goodR
  rw [eg]
  refine Ev.step (impl_l0_step xs hx i hi) ?_
  cases hb : badC xs[i] with
  | true =>
   refine Ev.step (f := fun _ => some false) (fun k => ?_) (Ev.now _)
   simp only [impl_GoodHistory.j1]; rw [if_pos trivial]
  | false =>
   have hl : (xs.take i).length = i := by simp; omega
   have ih := outer_impl xs hx d (i + 1) (by omega)
   have q := inner_impl xs (xs.take i) (by omega) (i : Int) xs[i] (goodR xs d (i + 1)) (by rw [wrap_id (n := (i : Int) + 1) (by omega) (by omega)]; exact ih) i 0 (by omega)
   rw [List.drop_zero] at q
   rw [if_neg (by simp)]
   refine Ev.step (fun k => ?_) q
   simp only [impl_GoodHistory.j1]
   rw [if_neg (by simp), if_pos (by omega), if_pos (by omega), Int.toNat_natCast, Option.bind_some]
   rfl
def goodH (xs : List S77) : Bool := goodR xs xs.length 0
theorem spec_good (xs : List S77) (hx : xs.length ≤ 1048576) : Ev (fun k => spec_l16Good.f k xs) (goodH xs) := outer_spec xs hx xs.length 0 (by omega)
theorem impl_good (xs : List S77) (hx : xs.length ≤ 1048576) : Ev (fun k => impl_GoodHistory.f k xs) (goodH xs) := outer_impl xs hx xs.length 0 (by omega)
def inB (lo hi x : Int) : Bool := decide (lo ≤ x ∧ x ≤ hi)
theorem all_loop (lo hi : Int) (xs : List Int) (hx : xs.length ≤ 1048576) : ∀ d i : Nat, i + d = xs.length → Ev (fun k => spec_l1All.l0 k lo hi xs (xs.length : Int) (i : Int)) ((xs.drop i).all (inB lo hi))
 | 0, i, h => by
  rw [List.drop_eq_nil_of_le (by omega)]
  refine Ev.step (f := fun _ => some true) (fun k => ?_) (Ev.now _)
  simp only [spec_l1All.l0]; rw [if_neg (by omega)]
 | d + 1, i, h => by
  have hil : i < xs.length := by omega
  rw [List.drop_eq_getElem_cons hil, List.all_cons]
  have hst : ∀ k, spec_l1All.l0 (k+1) lo hi xs (xs.length : Int) (i : Int) = if inB lo hi xs[i] = true then spec_l1All.l0 k lo hi xs (xs.length : Int) ((i + 1 : Nat) : Int) else some false := by
   intro k
   simp only [spec_l1All.l0, l1In_dec, Option.bind_some]
   rw [if_pos (by omega), if_pos (by omega), if_pos (by omega), rd_nat, wrap_id (n := (i : Int) + 1) (by omega) (by omega)]
   have : xs.getD i 0 = xs[i] := by simp [hil]
   rw [this]
   rfl
  cases hg : inB lo hi xs[i] with
  | true => rw [Bool.true_and]; exact Ev.step hst (Ev.ite_pos hg (all_loop lo hi xs hx d (i + 1) (by omega)))
  | false => rw [Bool.false_and]; exact Ev.step hst (Ev.ite_neg (by simp [hg]) (Ev.now _))
theorem has_loop (n : Int) (xs : List Int) (hx : xs.length ≤ 1048576) : ∀ d i : Nat, i + d = xs.length → Ev (fun k => spec_l1Has.l0 k n xs (xs.length : Int) (i : Int)) (decide (n ∈ xs.drop i))
 | 0, i, h => by
  rw [List.drop_eq_nil_of_le (by omega)]
  refine Ev.step (f := fun _ => some (decide (n ∈ ([] : List Int)))) (fun k => ?_) (Ev.now _)
  simp only [spec_l1Has.l0]; rw [if_neg (by omega)]; simp
 | d + 1, i, h => by
  have hi : i < xs.length := by omega
  rw [List.drop_eq_getElem_cons hi]
  have hst : ∀ k, spec_l1Has.l0 (k+1) n xs (xs.length : Int) (i : Int) = if xs[i] = n then some true else spec_l1Has.l0 k n xs (xs.length : Int) ((i + 1 : Nat) : Int) := by
   intro k
   simp only [spec_l1Has.l0]
   rw [if_pos (by omega), if_pos (by omega), if_pos (by omega), rd_nat, wrap_id (n := (i : Int) + 1) (by omega) (by omega)]
   have : xs.getD i 0 = xs[i] := by simp [hi]
   rw [this]
   rfl
  by_cases he : xs[i] = n
  ·rw [decide_eq_true (by rw [he]; exact List.mem_cons_self)]
   exact Ev.step hst (Ev.ite_pos he (Ev.now _))
  ·have e : decide (n ∈ xs[i] :: xs.drop (i + 1)) = decide (n ∈ xs.drop (i + 1)) := by
    rw [decide_eq_decide, List.mem_cons]
    exact ⟨fun q => q.resolve_left (fun z => he z.symm), Or.inr⟩
   rw [e]
   exact Ev.step hst (Ev.ite_neg he (has_loop n xs hx d (i + 1) (by omega)))
def riseR (lo hi : Int) (xs : List Int) : Nat → Nat → Bool
 | 0, _ => true
 | d + 1, i => if inB lo hi (xs.getD i 0) = true then (if 0 < i ∧ xs.getD (i - 1) 0 ≥ xs.getD i 0 then false else riseR lo hi xs d (i + 1)) else false
theorem impl_rise (hi : Int) (xs : List Int) (hx : xs.length ≤ 1048576) : ∀ d i : Nat, i + d = xs.length → Ev (fun k => impl_isRising.l0 k xs hi xs (xs.length : Int) (i : Int)) (riseR 0 hi xs d i)
 | 0, i, h => by
  refine Ev.step (f := fun _ => some true) (fun k => ?_) (Ev.now _)
  simp only [impl_isRising.l0]; rw [if_neg (by omega)]
 | d + 1, i, h => by
  unfold riseR
  have hst : ∀ k, impl_isRising.l0 (k+1) xs hi xs (xs.length : Int) (i : Int) = if inB 0 hi (xs.getD i 0) = true then (if 0 < i ∧ xs.getD (i - 1) 0 ≥ xs.getD i 0 then some false else impl_isRising.l0 k xs hi xs (xs.length : Int) ((i + 1 : Nat) : Int)) else some false := by
   intro k
   simp only [impl_isRising.l0, in_dec, Option.bind_some]
   rw [if_pos (by omega), if_pos (by omega), if_pos (by omega), rd_nat, wrap_id (n := (i : Int) + 1) (by omega) (by omega)]
   by_cases hb : inB 0 hi (xs.getD i 0) = true
   ·rw [if_pos (show decide (0 ≤ xs.getD i 0 ∧ xs.getD i 0 ≤ hi) = true from hb), if_pos hb]
    by_cases h0 : 0 < i
    ·have e1 : wrap64 ((i : Int) - 1) = ((i - 1 : Nat) : Int) := by rw [wrap_id] <;> omega
     rw [if_pos (show (i : Int) > 0 by omega), e1, if_pos (by omega), if_pos (by omega), rd_nat]
     simp only [h0, true_and]
     rfl
    ·rw [if_neg (show ¬ (i : Int) > 0 by omega)]
     simp only [h0, false_and, if_false]
     rfl
   ·rw [if_neg (show ¬ decide (0 ≤ xs.getD i 0 ∧ xs.getD i 0 ≤ hi) = true from hb), if_neg hb]
  by_cases hb : inB 0 hi (xs.getD i 0) = true
  ·rw [if_pos hb]
   by_cases hc : 0 < i ∧ xs.getD (i - 1) 0 ≥ xs.getD i 0
   ·rw [if_pos hc]; exact Ev.step hst (Ev.ite_pos hb (Ev.ite_pos hc (Ev.now _)))
   ·rw [if_neg hc]; exact Ev.step hst (Ev.ite_pos hb (Ev.ite_neg hc (impl_rise hi xs hx d (i + 1) (by omega))))
  ·rw [if_neg hb]; exact Ev.step hst (Ev.ite_neg hb (Ev.now _))
theorem riseR_iff (lo hi : Int) (xs : List Int) : ∀ d i : Nat, i + d = xs.length → (riseR lo hi xs d i = true ↔ ∀ j, i ≤ j → j < xs.length → (lo ≤ xs.getD j 0 ∧ xs.getD j 0 ≤ hi) ∧ (0 < j → xs.getD (j - 1) 0 < xs.getD j 0))
 | 0, i, h => by
  unfold riseR
  exact ⟨fun _ j h1 h2 => by omega, fun _ => rfl⟩
 | d + 1, i, h => by
  unfold riseR
  have ih := riseR_iff lo hi xs d (i + 1) (by omega)
  by_cases hb : inB lo hi (xs.getD i 0) = true
  ·rw [if_pos hb]
   have hb' := of_decide_eq_true hb
   by_cases hc : 0 < i ∧ xs.getD (i - 1) 0 ≥ xs.getD i 0
   ·rw [if_pos hc]
    refine ⟨fun q => (by cases q), fun q => ?_⟩
    have := (q i (Nat.le_refl _) (by omega)).2 hc.1
    omega
   ·rw [if_neg hc, ih]
    constructor
    ·intro q j h1 h2
     by_cases e : j = i
     ·subst e
      exact ⟨hb', fun z => by
       have : ¬ xs.getD (j - 1) 0 ≥ xs.getD j 0 := fun y => hc ⟨z, y⟩
       omega⟩
     ·exact q j (by omega) h2
    ·intro q j h1 h2
     exact q j (by omega) h2
  ·rw [if_neg hb]
   refine ⟨fun q => (by cases q), fun q => ?_⟩
   exact absurd (decide_eq_true (q i (Nat.le_refl _) (by omega)).1) hb
def dupR (xs : List Int) (e : Bool) : Nat → Nat → Bool
 | 0, _ => e
 | d + 1, i => if xs.getD i 0 ∈ xs.take i then false else dupR xs e d (i + 1)
theorem dupR_iff (xs : List Int) (e : Bool) : ∀ d i : Nat, i + d = xs.length → (dupR xs e d i = true ↔ e = true ∧ ∀ j, i ≤ j → j < xs.length → xs.getD j 0 ∉ xs.take j)
 | 0, i, h => by
  unfold dupR
  exact ⟨fun q => ⟨q, fun j h1 h2 => by omega⟩, fun q => q.1⟩
 | d + 1, i, h => by
  unfold dupR
  have ih := dupR_iff xs e d (i + 1) (by omega)
  by_cases hm : xs.getD i 0 ∈ xs.take i
  ·rw [if_pos hm]
   exact ⟨fun q => (by cases q), fun q => absurd hm (q.2 i (Nat.le_refl _) (by omega))⟩
  ·rw [if_neg hm, ih]
   refine ⟨fun q => ⟨q.1, fun j h1 h2 => ?_⟩, fun q => ⟨q.1, fun j h1 h2 => q.2 j (by omega) h2⟩⟩
   by_cases e1 : j = i
   ·subst e1; exact hm
   ·exact q.2 j (by omega) h2
theorem keeps_all (s : List Int) (h : (Go.Lib.compact s).length = s.length) : ∀ j, j < s.length → Go.Lib.keeps s.toArray j = true := by
 unfold Go.Lib.compact Go.Lib.compactUpTo at h
 rw [List.length_map] at h
 have h2 : ((List.range s.length).filter (Go.Lib.keeps s.toArray)).length = (List.range s.length).length := by rw [h, List.length_range]
 rw [List.length_filter_eq_length_iff] at h2
 exact fun j hj => h2 j (List.mem_range.mpr hj)
theorem compact_self (s : List Int) (h : ∀ j, j < s.length → Go.Lib.keeps s.toArray j = true) : Go.Lib.compact s = s := by
 unfold Go.Lib.compact Go.Lib.compactUpTo
 rw [List.filter_eq_self.mpr (fun j hj => h j (List.mem_range.mp hj))]
 apply List.ext_getElem
 ·simp
 ·intro i h1 h2
  simp at h1
  simp [getElem!_pos, h1]
theorem nodup_take (xs : List Int) : (∀ j, j < xs.length → xs.getD j 0 ∉ xs.take j) ↔ xs.Nodup := by
 rw [List.Nodup, List.pairwise_iff_getElem]
 constructor
 ·intro h i j hi hj hij e
  apply h j hj
  have : xs.getD j 0 = xs[j] := by simp [hj]
  rw [this, ← e]
  exact List.mem_take_iff_getElem.mpr ⟨i, by omega, rfl⟩
 ·intro h j hj hm
  have e : xs.getD j 0 = xs[j] := by simp [hj]
  rw [e] at hm
  obtain ⟨i, hi, hx⟩ := List.mem_take_iff_getElem.mp hm
  exact h i j (by omega) hj (by omega) hx
theorem adj_lt (s : List Int) (h : ∀ j, 0 < j → j < s.length → s.getD (j - 1) 0 < s.getD j 0) : ∀ d i : Nat, i + (d + 1) < s.length → s.getD i 0 < s.getD (i + (d + 1)) 0
 | 0, i, hl => by have := h (i + 1) (by omega) hl; simpa using this
 | d + 1, i, hl => by
  have h1 := adj_lt s h d i (by omega)
  have h2 := h (i + (d + 1 + 1)) (by omega) hl
  rw [show i + (d + 1 + 1) - 1 = i + (d + 1) from by omega] at h2
  omega
theorem ranks_iff (xs : List Int) (n : Nat) (h5 : xs.length = n) :
  (xs.all (inB 0 ((n : Int) - 1)) = true ∧ ∀ j, j < xs.length → xs.getD j 0 ∉ xs.take j) ↔ ((Go.Lib.compact (xs.mergeSort fun x y => decide (x ≤ y))).length = n ∧ riseR 0 ((n : Int) - 1) (Go.Lib.compact (xs.mergeSort fun x y => decide (x ≤ y))) (Go.Lib.compact (xs.mergeSort fun x y => decide (x ≤ y))).length 0 = true) := by
 have hp : (xs.mergeSort fun x y => decide (x ≤ y)).Perm xs := List.mergeSort_perm xs _
 have hs : (xs.mergeSort fun x y => decide (x ≤ y)).Pairwise (fun a b => decide (a ≤ b) = true) := List.pairwise_mergeSort (by intro a b c; simp; omega) (by intro a b; simp; omega) xs
 generalize (xs.mergeSort fun x y => decide (x ≤ y)) = s at hp hs
 have hl : s.length = n := by rw [hp.length_eq, h5]
 rw [nodup_take, ← hp.nodup_iff]
 have hs' := List.pairwise_iff_getElem.mp hs
 constructor
 ·rintro ⟨ha, hn⟩
  have hn' := List.pairwise_iff_getElem.mp hn
  have hk : ∀ j, j < s.length → Go.Lib.keeps s.toArray j = true := by
   intro j hj
   unfold Go.Lib.keeps
   rw [decide_eq_true_eq]
   by_cases h0 : j = 0
   ·exact .inl h0
   ·right
    have := hn' (j - 1) j (by omega) hj (by omega)
    simp [getElem!_pos, hj, show j - 1 < s.length by omega]
    exact fun e => this e.symm
  rw [compact_self s hk]
  refine ⟨hl, (riseR_iff 0 ((n : Int) - 1) s s.length 0 (by omega)).mpr (fun j _ hj => ⟨?_, fun h0 => ?_⟩)⟩
  ·have e : s.getD j 0 = s[j] := by simp [hj]
   rw [e]
   have := List.all_eq_true.mp ha s[j] (hp.mem_iff.mp (List.getElem_mem hj))
   exact of_decide_eq_true this
  ·have e : s.getD j 0 = s[j] := by simp [hj]
   have e2 : s.getD (j - 1) 0 = s[j - 1] := by simp [show j - 1 < s.length by omega]
   have h1 := of_decide_eq_true (hs' (j - 1) j (by omega) hj (by omega))
   have h2 := hn' (j - 1) j (by omega) hj (by omega)
   rw [e, e2]
   omega
 ·rintro ⟨hc, hr⟩
  have hk := keeps_all s (by omega)
  rw [compact_self s hk] at hr
  have hr' := (riseR_iff 0 ((n : Int) - 1) s s.length 0 (by omega)).mp hr
  refine ⟨List.all_eq_true.mpr (fun x hx => ?_), List.pairwise_iff_getElem.mpr (fun i j hi hj hij => ?_)⟩
  ·obtain ⟨j, hj, rfl⟩ := List.getElem_of_mem (hp.mem_iff.mpr hx)
   have e : s.getD j 0 = s[j] := by simp [hj]
   have := (hr' j (by omega) hj).1
   rw [e] at this
   exact decide_eq_true this
  ·obtain ⟨d, hd⟩ : ∃ d, j = i + (d + 1) := ⟨j - i - 1, by omega⟩
   have h1 := adj_lt s (fun k h0 hk => (hr' k (by omega) hk).2 h0) d i (by omega)
   rw [← hd] at h1
   have e : s.getD j 0 = s[j] := by simp [hj]
   have e2 : s.getD i 0 = s[i] := by simp [hi]
   rw [e, e2] at h1
   omega
theorem clone_eq (xs : List Int) (hx : xs.length ≤ 1048576) : slices_Clone_int_int.f xs = some xs := by
 simp only [slices_Clone_int_int.f, Option.bind_some]; rw [if_pos (by simp; omega)]; rfl
theorem order_dup (xs : List Int) (hx : xs.length ≤ 1048576) : ∀ d i : Nat, i + d = xs.length → Ev (fun k => spec_l16Order.l0 k xs xs (xs.length : Int) (i : Int)) (dupR xs true d i)
 | 0, i, h => by
  refine Ev.step (f := fun _ => some true) (fun k => ?_) (Ev.now _)
  simp only [spec_l16Order.l0]; rw [if_neg (by omega)]
 | d + 1, i, h => by
  have hil : i < xs.length := by omega
  unfold dupR
  have hh := has_loop (xs.getD i 0) (xs.take i) (by simp; omega) (xs.take i).length 0 (by omega)
  rw [List.drop_zero] at hh
  refine Ev.step (f := fun k => (spec_l1Has.f k (xs.take i) (xs.getD i 0)).bind fun t => if t = true then some false else spec_l16Order.l0 k xs xs (xs.length : Int) ((i + 1 : Nat) : Int)) (fun k => ?_) (Ev.bind hh ?_)
  ·simp only [spec_l16Order.l0]
   rw [if_pos (by omega), if_pos (by omega), if_pos (by omega), if_pos (by omega), rd_nat, Int.toNat_natCast, wrap_id (n := (i : Int) + 1) (by omega) (by omega)]
   rfl
  ·by_cases hm : xs.getD i 0 ∈ xs.take i
   ·rw [if_pos hm]; exact Ev.ite_pos (decide_eq_true hm) (Ev.now _)
   ·rw [if_neg hm]; exact Ev.ite_neg (by simpa using hm) (order_dup xs hx d (i + 1) (by omega))
/-- An order of n: each number below n once. -/
def isOrd (hs : List S77) (xs : List Int) : Prop := xs.length = hs.length ∧ (∀ x ∈ xs, 0 ≤ x ∧ x < (hs.length : Int)) ∧ xs.Nodup
theorem order_char (hs : List S77) (xs : List Int) (hh : hs.length ≤ 1048576) (hx : xs.length ≤ 1048576) :
  ∃ r : Bool, (r = true ↔ isOrd hs xs) ∧ Ev (fun k => spec_l16Order.f k hs xs) r ∧ Ev (fun k => impl_isOrder.f k xs (hs.length : Int)) r := by
 have hj0 : Ev (fun k => spec_l16Order.j0 k xs true) false := Ev.step (f := fun _ => some false) (fun k => by simp only [spec_l16Order.j0]; rw [if_pos trivial]) (Ev.now _)
 have hris : impl_rising.f xs = some (Go.Lib.compact (xs.mergeSort fun x y => decide (x ≤ y))) := by
  simp only [impl_rising.f, slices_Sort_int_int.f, slices_Compact_int_int.f]
  rw [if_pos (by omega), Option.bind_some, Option.bind_some]
 have hw : wrap64 ((hs.length : Int) - 1) = (hs.length : Int) - 1 := wrap_id (by omega) (by omega)
 simp only [spec_l16Order.f, impl_isOrder.f, clone_eq xs hx, hris, Option.bind_some, hw]
 by_cases h5 : (xs.length : Int) = (hs.length : Int)
 ·have h5' : xs.length = hs.length := by omega
  have hall := all_loop 0 ((hs.length : Int) - 1) xs hx xs.length 0 (by omega)
  rw [List.drop_zero] at hall
  have hR := ranks_iff xs hs.length h5'
  have hcl : (Go.Lib.compact (xs.mergeSort fun x y => decide (x ≤ y))).length ≤ 1048576 := by
   unfold Go.Lib.compact Go.Lib.compactUpTo
   rw [List.length_map]
   refine Nat.le_trans (List.length_filter_le _ _) ?_
   rw [List.length_range, List.length_mergeSort]
   exact hx
  have hrise := impl_rise ((hs.length : Int) - 1) _ hcl _ 0 (Nat.zero_add _)
  generalize Go.Lib.compact (xs.mergeSort fun x y => decide (x ≤ y)) = c at hR hcl hrise
  have hdup := order_dup xs hx xs.length 0 (by omega)
  have hdi := dupR_iff xs true xs.length 0 (by omega)
  by_cases hcond : xs.all (inB 0 ((hs.length : Int) - 1)) = true ∧ ∀ j, j < xs.length → xs.getD j 0 ∉ xs.take j
  ·obtain ⟨hc5, hcr⟩ := hR.mp hcond
   have hde : dupR xs true xs.length 0 = true := hdi.mpr ⟨rfl, fun j _ hj => hcond.2 j hj⟩
   rw [hde] at hdup
   refine ⟨true, ⟨fun _ => ⟨h5', fun x hx => ?_, (nodup_take xs).1 hcond.2⟩, fun _ => rfl⟩, Ev.ite_pos h5 (Ev.bind (g := fun k => spec_l1All.f k xs 0 ((hs.length : Int) - 1)) hall ?_), Ev.ite_pos h5 (Ev.ite_pos (by omega) (Ev.bind (g := fun k => impl_isRising.f k c ((hs.length : Int) - 1)) hrise (by rw [hcr]; exact Ev.now _)))⟩
   ·have := of_decide_eq_true (List.all_eq_true.mp hcond.1 x hx)
    omega
   ·rw [hcond.1]
    refine Ev.step (fun k => ?_) hdup
    simp only [spec_l16Order.j0]; rw [if_neg (by simp)]; rfl
  ·refine ⟨false, ⟨fun q => (by cases q), fun q => absurd ⟨List.all_eq_true.2 (fun x hx => decide_eq_true (by have := q.2.1 x hx; omega)), (nodup_take xs).2 q.2.2⟩ hcond⟩, Ev.ite_pos h5 (Ev.bind (g := fun k => spec_l1All.f k xs 0 ((hs.length : Int) - 1)) hall ?_), Ev.ite_pos h5 ?_⟩
   ·cases ha : xs.all (inB 0 ((hs.length : Int) - 1)) with
    | false => exact hj0
    | true =>
     have hde : dupR xs true xs.length 0 = false := by
      rw [← Bool.not_eq_true, hdi]
      exact fun q => hcond ⟨ha, fun j hj => q.2 j (by omega) hj⟩
     rw [hde] at hdup
     refine Ev.step (fun k => ?_) hdup
     simp only [spec_l16Order.j0]; rw [if_neg (by simp)]; rfl
   ·by_cases hc5 : (c.length : Int) = (hs.length : Int)
    ·refine Ev.ite_pos hc5 (Ev.bind (g := fun k => impl_isRising.f k c ((hs.length : Int) - 1)) hrise ?_)
     cases hq : riseR 0 ((hs.length : Int) - 1) c c.length 0 with
     | false => exact Ev.now _
     | true => exact absurd (hR.mpr ⟨by omega, hq⟩) hcond
    ·exact Ev.ite_neg hc5 (Ev.now _)
 ·exact ⟨false, ⟨fun q => (by cases q), fun q => absurd (by have := q.1; omega) h5⟩, Ev.ite_neg h5 hj0, Ev.ite_neg h5 (Ev.now _)⟩
theorem has_ev (xs : List Int) (hx : xs.length ≤ 1048576) (n : Int) : Ev (fun k => spec_l1Has.f k xs n) (decide (n ∈ xs)) := by
 have h := has_loop n xs hx xs.length 0 (by omega)
 rwa [List.drop_zero] at h
theorem idx_loop (n : Int) (xs : List Int) (hx : xs.length ≤ 1048576) : ∀ d i : Nat, i + d = xs.length → ∃ r : Int, Ev (fun k => slices_Index_int_int.l0 k xs n (xs.length : Int) (i : Int)) r ∧ decide (r ≥ 0) = decide (n ∈ xs.drop i)
 | 0, i, h => by
  rw [List.drop_eq_nil_of_le (by omega)]
  refine ⟨-1, Ev.step (f := fun _ => some (-1)) (fun k => ?_) (Ev.now _), by simp⟩
  simp only [slices_Index_int_int.l0]; rw [if_neg (by omega)]
 | d + 1, i, h => by
  have hi : i < xs.length := by omega
  rw [List.drop_eq_getElem_cons hi]
  have hst : ∀ k, slices_Index_int_int.l0 (k+1) xs n (xs.length : Int) (i : Int) = if n = xs[i] then some (i : Int) else slices_Index_int_int.l0 k xs n (xs.length : Int) ((i + 1 : Nat) : Int) := by
   intro k
   simp only [slices_Index_int_int.l0]
   rw [if_pos (by omega), if_pos (by omega), if_pos (by omega), rd_nat, wrap_id (n := (i : Int) + 1) (by omega) (by omega)]
   have : xs.getD i 0 = xs[i] := by simp [hi]
   rw [this]
   rfl
  by_cases he : n = xs[i]
  ·refine ⟨(i : Int), Ev.step hst (Ev.ite_pos he (Ev.now _)), ?_⟩
   rw [decide_eq_true (by omega), decide_eq_true (by rw [he]; exact List.mem_cons_self)]
  ·obtain ⟨r, h1, h2⟩ := idx_loop n xs hx d (i + 1) (by omega)
   refine ⟨r, Ev.step hst (Ev.ite_neg he h1), ?_⟩
   rw [h2, decide_eq_decide, List.mem_cons]
   exact ⟨.inr, fun q => q.elim (fun q => absurd q he) id⟩
theorem contains_ev (xs : List Int) (hx : xs.length ≤ 1048576) (n : Int) : Ev (fun k => slices_Contains_int_int.f k xs n) (decide (n ∈ xs)) := by
 obtain ⟨r, h1, h2⟩ := idx_loop n xs hx xs.length 0 (by omega)
 rw [List.drop_zero] at h2
 rw [← h2]
 simp only [slices_Contains_int_int.f, slices_Index_int_int.f]
 exact Ev.bind h1 (Ev.now _)
theorem own_eq (xs : List Int) (hx : xs.length ≤ 1048576) : spec_l1Own.f xs = some xs := by
 simp only [spec_l1Own.f, Option.bind_some]; rw [if_pos (by simp; omega)]; rfl
theorem cloneI_eq (xs : List Int) (hx : xs.length ≤ 1048576) : slices_Clone_int_int.f xs = some xs := by
 simp only [slices_Clone_int_int.f, Option.bind_some]; rw [if_pos (by simp; omega)]; rfl
theorem clone_fl (L : List Nat) (h : L.length ≤ 1048576) : slices_Clone_float64_float64.f L = some L := by
 simp only [slices_Clone_float64_float64.f, Option.bind_some]; rw [if_pos (by simp; omega)]; rfl
theorem nan_quo : fdivOk 0 0 = false := by kernel_rfl
def flL (x : List Nat) : Prop := ∀ a ∈ x, a < 18446744073709551616
theorem flL.snoc {x : List Nat} {a : Nat} (h : flL x) (ha : a < 18446744073709551616) : flL (x ++ [a]) := fun b hb => by
 rcases List.mem_append.mp hb with q | q
 ·exact h b q
 ·rw [List.mem_singleton.mp q]; exact ha
/-! ### an object, played -/
def vOf (L : List Nat) (c : S77) : Nat := if c.f3 = true then c.f4 else if L = [] then 9221120237041090561 else L.getD 0 0
def stOf (kind : Int) (L : List Nat) (c : S77) : List Nat := if c.f3 = true then (if kind = 1 then [c.f4] else L ++ [c.f4]) else if kind = 1 then L else L.drop 1
def told (kind : Int) : List Nat → List S77 → List Nat
 | _, [] => []
 | L, c :: r => vOf L c :: told kind (stOf kind L c) r
def stAll (kind : Int) : List Nat → List S77 → List Nat
 | L, [] => L
 | L, c :: r => stAll kind (stOf kind L c) r
theorem told_snoc (kind : Int) (c : S77) : ∀ (cs : List S77) (L : List Nat), told kind L (cs ++ [c]) = told kind L cs ++ [vOf (stAll kind L cs) c]
 | [], L => rfl
 | d :: cs, L => by
  simp only [List.cons_append, told, stAll, told_snoc kind c cs]
theorem stAll_snoc (kind : Int) (c : S77) : ∀ (cs : List S77) (L : List Nat), stAll kind L (cs ++ [c]) = stOf kind (stAll kind L cs) c
 | [], L => rfl
 | d :: cs, L => by
  simp only [List.cons_append, stAll, stAll_snoc kind c cs]
theorem told_len (kind : Int) : ∀ (cs : List S77) (L : List Nat), (told kind L cs).length = cs.length
 | [], L => rfl
 | d :: cs, L => by simp only [told, List.length_cons, told_len kind cs]
/-- What an object may hold. -/
structure OkL (kind : Int) (n : Nat) (L : List Nat) : Prop where
 fl : flL L
 one : kind = 1 → L ≠ []
 le : L.length ≤ n + 1
theorem OkL.step {kind : Int} {n : Nat} {L : List Nat} (h : OkL kind n L) (c : S77) (hc : c.f4 < 18446744073709551616) : OkL kind (n + 1) (stOf kind L c) := by
 have hl := h.le
 unfold stOf
 split
 ·split
  ·exact ⟨fun a ha => by rw [List.mem_singleton.mp ha]; exact hc, fun _ => by simp, by simp⟩
  ·rename_i hk
   exact ⟨h.fl.snoc hc, fun q => absurd q hk, by simp; omega⟩
 ·split
  ·exact ⟨h.fl, h.one, by omega⟩
  ·rename_i hk
   exact ⟨fun a ha => h.fl a (List.mem_of_mem_drop ha), fun q => absurd q hk, by simp; omega⟩
theorem OkL.v {kind : Int} {n : Nat} {L : List Nat} (h : OkL kind n L) (c : S77) (hc : c.f4 < 18446744073709551616) : vOf L c < 18446744073709551616 := by
 unfold vOf
 split
 ·exact hc
 ·split
  ·decide
  ·rename_i hL
   cases L with
   | nil => exact absurd rfl hL
   | cons x r => exact h.fl x List.mem_cons_self
theorem play_ev (kind : Int) (hk : kind = 1 ∨ kind = 2) (n : Nat) (hn : n ≤ 1000) (L : List Nat) (h : OkL kind n L) (c : S77) :
  Ev (fun k => impl_object_play.f k kind L c.f0 c.f1 c.f2 c.f3 c.f4) (vOf L c, kind, stOf kind L c) := by
 have hl := h.le
 have hnan : math_NaN.f = some 9221120237041090561 := by kernel_rfl
 unfold vOf stOf
 by_cases hp : c.f3 = true
 ·simp only [hp, if_true]
  rcases hk with rfl | rfl
  ·refine Ev.step (f := fun _ => some (c.f4, 1, [c.f4])) (fun k => ?_) (Ev.now _)
   simp only [impl_object_play.f, impl_object_play.j0]; rw [if_pos trivial, if_pos trivial]
  ·refine Ev.step (f := fun _ => some (c.f4, 2, L ++ [c.f4])) (fun k => ?_) (Ev.now _)
   simp only [impl_object_play.f, impl_object_play.j0, clone_fl L (by omega), Option.bind_some]; rw [if_neg (by omega), if_neg (by simp), if_neg (by omega), if_pos trivial, if_pos (by simp; omega)]
 ·have hp' : c.f3 = false := by simpa using hp
  simp only [hp', Bool.false_eq_true, if_false]
  rcases hk with rfl | rfl
  ·have h1 := h.one rfl
   have h0 : 0 < (L.length : Int) := by have := List.length_pos_iff.2 h1; omega
   rw [if_neg h1, if_pos rfl]
   refine Ev.step (f := fun _ => some (L.getD 0 0, 1, L)) (fun k => ?_) (Ev.now _)
   simp only [impl_object_play.f, impl_object_play.j0]; rw [if_pos trivial, if_neg (by simp), if_pos trivial, if_pos h0]; rfl
  ·rw [if_neg (show ¬ (2 : Int) = 1 by decide)]
   by_cases he : L = []
   ·subst he
    refine Ev.step (f := fun _ => some (9221120237041090561, 2, [])) (fun k => ?_) (Ev.now _)
    simp only [impl_object_play.f, impl_object_play.j0, hnan, Option.bind_some]; rw [if_neg (by omega), if_neg (by simp), if_neg (by omega), if_neg (by simp), if_pos (by simp)]
   ·have h0 := List.length_pos_iff.2 he
    rw [if_neg he]
    refine Ev.step (f := fun _ => some (L.getD 0 0, 2, L.drop 1)) (fun k => ?_) (Ev.now _)
    simp only [impl_object_play.f, impl_object_play.j0]; rw [if_neg (by omega), if_neg (by simp), if_neg (by omega), if_neg (by simp), if_neg (by omega), if_pos (by omega), if_pos (by omega)]; rfl
theorem splay_loop (kind : Int) (hk : kind = 1 ∨ kind = 2) (hs : List S77) (xs : List Int) (hb : ∀ x ∈ xs, 0 ≤ x ∧ x < (hs.length : Int)) (hl : xs.length ≤ 1000) :
  ∀ (d i : Nat) (x7 x8 : List Nat) (x9 : Nat) (L : List Nat), i + d = xs.length → x7.length = i → x8.length ≤ i → (kind = 1 → L = [x9]) → (kind = 2 → L = x8) →
  Ev (fun k => spec_l16Play.l0 k kind hs x7 x8 x9 xs (xs.length : Int) (i : Int)) (x7 ++ told kind L ((xs.drop i).map (rd_T77 hs)))
 | 0, i, x7, x8, x9, L, h, h7, h8, k1, k2 => by
  rw [List.drop_eq_nil_of_le (by omega), List.map_nil, told, List.append_nil]
  refine Ev.step (f := fun _ => some x7) (fun k => ?_) (Ev.now _)
  simp only [spec_l16Play.l0]; rw [if_neg (by omega)]
 | d + 1, i, x7, x8, x9, L, h, h7, h8, k1, k2 => by
  have hi : i < xs.length := by omega
  have e0 : rd xs (i : Int) = xs[i] := by rw [rd_nat]; simp [hi]
  obtain ⟨b0, b1⟩ := hb xs[i] (List.getElem_mem hi)
  have hw : wrap64 ((i : Int) + 1) = ((i + 1 : Nat) : Int) := by rw [wrap_id] <;> omega
  rw [List.drop_eq_getElem_cons hi, List.map_cons, told]
  have sstep : ∀ k, spec_l16Play.l0 (k + 1) kind hs x7 x8 x9 xs (xs.length : Int) (i : Int) = if (rd_T77 hs xs[i]).f3 = true then spec_l16Play.l0 k kind hs (x7 ++ [(rd_T77 hs xs[i]).f4]) (x8 ++ [(rd_T77 hs xs[i]).f4]) (rd_T77 hs xs[i]).f4 xs (xs.length : Int) ((i + 1 : Nat) : Int) else if kind = 1 then spec_l16Play.l0 k kind hs (x7 ++ [x9]) x8 x9 xs (xs.length : Int) ((i + 1 : Nat) : Int) else if (x8.length : Int) = 0 then spec_l16Play.l0 k kind hs (x7 ++ [9221120237041090561]) x8 x9 xs (xs.length : Int) ((i + 1 : Nat) : Int) else spec_l16Play.l0 k kind hs (x7 ++ [rdOf (0 : Nat) x8 0]) (x8.drop 1) x9 xs (xs.length : Int) ((i + 1 : Nat) : Int) := by
   intro k
   simp only [spec_l16Play.l0, e0, hw]
   rw [if_pos (by omega), if_pos (by omega), if_pos (by omega), if_pos b0, if_pos b1]
   simp only [if_pos (show x8.length < 17592186044416 by omega), if_pos (show x7.length < 17592186044416 by omega), if_pos nan_quo]
   by_cases c : (x8.length : Int) = 0
   ·rw [if_pos c, if_pos c]
   ·rw [if_neg c, if_neg c, if_pos (show 0 < (x8.length : Int) by omega), if_pos (show 1 ≤ (x8.length : Int) by omega)]; rfl
  generalize rd_T77 hs xs[i] = c at sstep
  have fin : ∀ (x7' x8' : List Nat) (x9' : Nat) (L' : List Nat), x7' = x7 ++ [vOf L c] → L' = stOf kind L c → x8'.length ≤ i + 1 → (kind = 1 → L' = [x9']) → (kind = 2 → L' = x8') →
    Ev (fun k => spec_l16Play.l0 k kind hs x7' x8' x9' xs (xs.length : Int) ((i + 1 : Nat) : Int)) (x7 ++ vOf L c :: told kind (stOf kind L c) ((xs.drop (i + 1)).map (rd_T77 hs))) := by
   intro x7' x8' x9' L' e7 eL l8 q1 q2
   have ih := splay_loop kind hk hs xs hb hl d (i + 1) x7' x8' x9' L' (by omega) (by rw [e7]; simp [h7]) l8 q1 q2
   rw [e7, eL, List.append_assoc] at ih
   rw [e7]
   exact ih
  by_cases hp : c.f3 = true
  ·refine Ev.step (fun k => by rw [sstep, if_pos hp]) (fin (x7 ++ [c.f4]) (x8 ++ [c.f4]) c.f4 (stOf kind L c) ?_ rfl (by simp; omega) ?_ ?_)
   ·unfold vOf; rw [if_pos hp]
   ·intro q; unfold stOf; rw [if_pos hp, if_pos q]
   ·intro q; unfold stOf; rw [if_pos hp, if_neg (by omega), k2 q]
  ·rcases hk with rfl | rfl
   ·have hL := k1 rfl
    refine Ev.step (fun k => by rw [sstep, if_neg hp, if_pos rfl]) (fin (x7 ++ [x9]) x8 x9 (stOf 1 L c) ?_ rfl (by omega) ?_ (fun q => by omega))
    ·unfold vOf; rw [if_neg hp, hL]; rfl
    ·intro _; unfold stOf; rw [if_neg hp, if_pos rfl, hL]
   ·have hL := k2 rfl
    by_cases ce : (x8.length : Int) = 0
    ·have he : L = [] := by rw [hL]; exact List.eq_nil_of_length_eq_zero (by omega)
     refine Ev.step (fun k => by rw [sstep, if_neg hp, if_neg (by omega), if_pos ce]) (fin (x7 ++ [9221120237041090561]) x8 x9 (stOf 2 L c) ?_ rfl (by omega) (fun q => by omega) ?_)
     ·unfold vOf; rw [if_neg hp, if_pos he]
     ·intro _; unfold stOf; rw [if_neg hp, if_neg (by omega), ← hL, he]; rfl
    ·have he : L ≠ [] := by rw [hL]; intro q; rw [q] at ce; simp at ce
     refine Ev.step (fun k => by rw [sstep, if_neg hp, if_neg (by omega), if_neg ce]) (fin (x7 ++ [rdOf (0 : Nat) x8 0]) (x8.drop 1) x9 (stOf 2 L c) ?_ rfl (by simp; omega) (fun q => by omega) ?_)
     ·unfold vOf; rw [if_neg hp, if_neg he, hL]; rfl
     ·intro _; unfold stOf; rw [if_neg hp, if_neg (by omega), hL]
def L0 (kind : Int) : List Nat := if kind = 1 then [0] else []
theorem L0_ok (kind : Int) : OkL kind 0 (L0 kind) := by
 unfold L0
 split
 ·exact ⟨fun a ha => by rw [List.mem_singleton.mp ha]; decide, fun _ => by simp, by simp⟩
 ·rename_i hk
  exact ⟨fun a ha => by simp at ha, fun q => absurd q hk, by simp⟩
theorem splay_ev (kind : Int) (hk : kind = 1 ∨ kind = 2) (hs : List S77) (xs : List Int) (hb : ∀ x ∈ xs, 0 ≤ x ∧ x < (hs.length : Int)) (hl : xs.length ≤ 1000) : Ev (fun k => spec_l16Play.f k kind hs xs) (told kind (L0 kind) (xs.map (rd_T77 hs))) := by
 have h := splay_loop kind hk hs xs hb hl xs.length 0 [] [] 0 (L0 kind) (by omega) rfl (by simp) (fun q => by unfold L0; rw [if_pos q]) (fun q => by unfold L0; rw [if_neg (by omega)])
 rw [List.drop_zero, List.nil_append] at h
 exact h
theorem new_ev (kind : Int) : impl_newObject.f kind = some (kind, L0 kind) := by
 unfold impl_newObject.f L0
 split <;> rfl
/-! ### the orders -/
def anyF (p : Nat → Bool) : Nat → Nat → Bool
 | 0, _ => false
 | d + 1, i => if p i = true then true else anyF p d (i + 1)
theorem anyF_congr (p q : Nat → Bool) : ∀ d i, (∀ j, i ≤ j → j < i + d → p j = q j) → anyF p d i = anyF q d i
 | 0, _, _ => rfl
 | d + 1, i, h => by
  unfold anyF
  rw [h i (Nat.le_refl _) (by omega), anyF_congr p q d (i + 1) (fun j h1 h2 => h j (by omega) (by omega))]
/-- Is call j ahead of c, and not in the order b? -/
def before (hs : List S77) (b : List Int) (c : S77) (j : Nat) : Bool := decide ((rd_T77 hs (j : Int)).f2 < c.f1) && decide ((j : Int) ∉ b)
def okk (hs : List S77) (b : List Int) (L : List Nat) (k : Int) : Bool := !anyF (before hs b (rd_T77 hs k)) hs.length 0 && same (vOf L (rd_T77 hs k)) (rd_T77 hs k).f4
def ord (kind : Int) (hs : List S77) : Nat → List Int → List Nat → List (List Int)
 | 0, b, _ => [b]
 | d + 1, b, L => (List.range hs.length).flatMap fun k : Nat => if (k : Int) ∈ b then [] else if okk hs b L (k : Int) = true then ord kind hs d (b ++ [(k : Int)]) (stOf kind L (rd_T77 hs (k : Int))) else []
theorem flat_len {α : Type} (f : Nat → List α) (m : Nat) : ∀ l : List Nat, (∀ k ∈ l, (f k).length ≤ m) → (l.flatMap f).length ≤ l.length * m
 | [], _ => by simp
 | x :: l, h => by
  have h1 := h x List.mem_cons_self
  have h2 := flat_len f m l (fun k hk => h k (List.mem_cons_of_mem _ hk))
  rw [List.flatMap_cons, List.length_append, List.length_cons, Nat.succ_mul]
  omega
theorem ord_len (kind : Int) (hs : List S77) (hn : hs.length ≤ 8) : ∀ (d : Nat) (b : List Int) (L : List Nat), (ord kind hs d b L).length ≤ 8 ^ d
 | 0, b, L => by simp [ord]
 | d + 1, b, L => by
  unfold ord
  have h := flat_len (fun k : Nat => if (k : Int) ∈ b then [] else if okk hs b L (k : Int) = true then ord kind hs d (b ++ [(k : Int)]) (stOf kind L (rd_T77 hs (k : Int))) else []) (8 ^ d) (List.range hs.length) (fun k _ => by
   split
   ·simp
   ·split
    ·exact ord_len kind hs hn d _ _
    ·simp)
  rw [List.length_range] at h
  refine Nat.le_trans h ?_
  rw [Nat.pow_succ, Nat.mul_comm]
  exact Nat.mul_le_mul_left _ hn
theorem ord_lim (kind : Int) (hs : List S77) (hn : hs.length ≤ 8) (d : Nat) (hd : d ≤ 8) (b : List Int) (L : List Nat) : (ord kind hs d b L).length ≤ 16777216 :=
 Nat.le_trans (ord_len kind hs hn d b L) (Nat.le_trans (Nat.pow_le_pow_right (by decide) hd) (by decide))
/-- What is asked of a history. -/
structure GoodHs (kind : Int) (hs : List S77) : Prop where
 k : kind = 1 ∨ kind = 2
 n : hs.length ≤ 8
 f : ∀ c ∈ hs, c.f4 < 18446744073709551616
 g : ∀ c ∈ hs, c.f1 < c.f2
theorem rdC_mem (hs : List S77) (k : Int) (h0 : 0 ≤ k) (h1 : k < (hs.length : Int)) : rd_T77 hs k ∈ hs := by
 have : k.toNat < hs.length := by omega
 simp only [rd_T77, List.getD_eq_getElem?_getD, List.getElem?_eq_getElem this, Option.getD_some]
 exact List.getElem_mem this
/-- An order that is begun: its numbers, and where the object stands. -/
structure Begun (kind : Int) (hs : List S77) (b : List Int) (L : List Nat) : Prop where
 r : ∀ x ∈ b, 0 ≤ x ∧ x < (hs.length : Int)
 l : b.length ≤ hs.length
 s : L = stAll kind (L0 kind) (b.map (rd_T77 hs))
 o : OkL kind b.length L
theorem Begun.step {kind : Int} {hs : List S77} {b : List Int} {L : List Nat} (G : GoodHs kind hs) (h : Begun kind hs b L) (hl : b.length < hs.length) (k : Int) (h0 : 0 ≤ k) (h1 : k < (hs.length : Int)) : Begun kind hs (b ++ [k]) (stOf kind L (rd_T77 hs k)) :=
 ⟨fun x hx => by
  rcases List.mem_append.mp hx with q | q
  ·exact h.r x q
  ·rw [List.mem_singleton.mp q]; exact ⟨h0, h1⟩, by simp; omega, by rw [h.s, List.map_append, List.map_cons, List.map_nil, stAll_snoc], by
  have := h.o.step (rd_T77 hs k) (G.f _ (rdC_mem hs k h0 h1))
  simpa using this⟩
theorem Begun.nil (kind : Int) (hs : List S77) : Begun kind hs [] (L0 kind) := ⟨fun x hx => by simp at hx, by simp, rfl, L0_ok kind⟩
theorem ahead_ev (kind : Int) (hs : List S77) (b : List Int) (last : Int) (hb : b.length ≤ 1000) (h0 : 0 ≤ last) (h1 : last < (hs.length : Int)) (hn : hs.length ≤ 1000) (r : Bool)
  (he : Ev (fun k => spec_l16Begun.l0 k kind hs b last (hs.length : Int) (hs.length : Int)) r) : ∀ d i : Nat, i + d = hs.length →
  Ev (fun k => spec_l16Begun.l0 k kind hs b last (hs.length : Int) (i : Int)) (if anyF (before hs b (rd_T77 hs last)) d i = true then false else r)
 | 0, i, h => by
  have : i = hs.length := by omega
  subst this
  rw [anyF, if_neg (by simp)]
  exact he
 | d + 1, i, h => by
  have ih := ahead_ev kind hs b last hb h0 h1 hn r he d (i + 1) (by omega)
  have hw : wrap64 ((i : Int) + 1) = ((i + 1 : Nat) : Int) := by rw [wrap_id] <;> omega
  have hst : ∀ k, spec_l16Begun.l0 (k + 1) kind hs b last (hs.length : Int) (i : Int) = (spec_l1Has.f k b (i : Int)).bind fun t => if t = true then spec_l16Begun.l0 k kind hs b last (hs.length : Int) ((i + 1 : Nat) : Int) else if (rd_T77 hs (i : Int)).f2 < (rd_T77 hs last).f1 then some false else spec_l16Begun.l0 k kind hs b last (hs.length : Int) ((i + 1 : Nat) : Int) := by
   intro k
   simp only [spec_l16Begun.l0, spec_l16Ahead.f, Option.bind_some, hw, decide_eq_true_eq]
   rw [if_pos (by omega)]
   congr 1
   funext t
   split
   ·rfl
   ·simp only [show (0 ≤ (i : Int)) from by omega, show ((i : Int) < (hs.length : Int)) from by omega, h0, h1, if_true]
  refine Ev.step hst (Ev.bind (has_ev b (by omega) (i : Int)) ?_)
  show Ev _ (if (if before hs b (rd_T77 hs last) i = true then true else anyF (before hs b (rd_T77 hs last)) d (i + 1)) = true then false else r)
  by_cases hm : (i : Int) ∈ b
  ·have hq : ¬ before hs b (rd_T77 hs last) i = true := by unfold before; simp [hm]
   rw [if_neg hq]
   exact Ev.ite_pos (decide_eq_true hm) ih
  ·refine Ev.ite_neg (by simpa using hm) ?_
   by_cases hlt : (rd_T77 hs (i : Int)).f2 < (rd_T77 hs last).f1
   ·have hq : before hs b (rd_T77 hs last) i = true := by unfold before; simp [hlt, hm]
    rw [if_pos hq, if_pos rfl]
    exact Ev.ite_pos hlt (Ev.now _)
   ·have hq : ¬ before hs b (rd_T77 hs last) i = true := by unfold before; simp [hlt]
    rw [if_neg hq]
    exact Ev.ite_neg hlt ih
/-- A longer order fits so far, where the shorter one did and the new call may stand. -/
theorem begun_ev {kind : Int} {hs : List S77} (G : GoodHs kind hs) (b : List Int) (L : List Nat) (hB : Begun kind hs b L) (hl : b.length < hs.length) (k : Int) (h0 : 0 ≤ k) (h1 : k < (hs.length : Int)) (hm : k ∉ b) : Ev (fun q => spec_l16Begun.f q kind hs (b ++ [k])) (okk hs b L k) := by
 have hn := G.n
 have hB' := hB.step G hl k h0 h1
 have hlen : (b ++ [k]).length = b.length + 1 := by simp
 have hlast : rd (b ++ [k]) (b.length : Int) = k := by rw [rd_nat]; simp
 have hw : wrap64 (((b ++ [k]).length : Int) - 1) = (b.length : Int) := by rw [hlen, wrap_id] <;> omega
 have hpl := splay_ev kind G.k hs (b ++ [k]) hB'.r (by rw [hlen]; omega)
 rw [List.map_append, List.map_cons, List.map_nil, told_snoc, ← hB.s] at hpl
 have hv := hB.o.v (rd_T77 hs k) (G.f _ (rdC_mem hs k h0 h1))
 have hse := spec_same hv (G.f _ (rdC_mem hs k h0 h1))
 have htl : (told kind (L0 kind) (b.map (rd_T77 hs)) ++ [vOf L (rd_T77 hs k)]).length = b.length + 1 := by rw [List.length_append, told_len]; simp
 have hend : Ev (fun q => spec_l16Begun.l0 q kind hs (b ++ [k]) k (hs.length : Int) (hs.length : Int)) (same (vOf L (rd_T77 hs k)) (rd_T77 hs k).f4) := by
  refine Ev.step (f := fun q => (spec_l16Play.f q kind hs (b ++ [k])).bind fun t => if 0 ≤ (wrap64 ((t.length : Int) - 1)) then (if (wrap64 ((t.length : Int) - 1)) < (t.length : Int) then (if 0 ≤ k then (if k < (hs.length : Int) then ((spec_l1SameNum.f q (rdOf (0 : Nat) t (wrap64 ((t.length : Int) - 1))) ((rd_T77 hs k).f4)).bind fun t182 => (some t182)) else (none)) else (none)) else (none)) else none) (fun q => ?_) (Ev.bind hpl ?_)
  ·simp only [spec_l16Begun.l0]; rw [if_neg (by omega)]
  ·have hw2 : wrap64 (((told kind (L0 kind) (b.map (rd_T77 hs)) ++ [vOf L (rd_T77 hs k)]).length : Int) - 1) = (b.length : Int) := by rw [htl, wrap_id] <;> omega
   have hrd : rdOf (0 : Nat) (told kind (L0 kind) (b.map (rd_T77 hs)) ++ [vOf L (rd_T77 hs k)]) (b.length : Int) = vOf L (rd_T77 hs k) := by
    simp only [rdOf, Int.toNat_natCast, List.getD_eq_getElem?_getD]
    rw [List.getElem?_append_right (by rw [told_len]; simp), told_len]
    simp
   rw [hw2, hrd]
   exact Ev.ite_pos (by omega) (Ev.ite_pos (by rw [htl]; omega) (Ev.ite_pos h0 (Ev.ite_pos h1 (Ev.bind hse (Ev.now _)))))
 have ha := ahead_ev kind hs (b ++ [k]) k (by rw [hlen]; omega) h0 h1 (by omega) _ hend hs.length 0 (by omega)
 have hc : anyF (before hs (b ++ [k]) (rd_T77 hs k)) hs.length 0 = anyF (before hs b (rd_T77 hs k)) hs.length 0 := by
  refine anyF_congr _ _ _ _ (fun j _ hj => ?_)
  unfold before
  by_cases hjk : (j : Int) = k
  ·have := G.g _ (rdC_mem hs k h0 h1)
   rw [hjk, decide_eq_false (by omega)]; rfl
  ·congr 1
   rw [decide_eq_decide, List.mem_append, List.mem_singleton]
   exact ⟨fun q r => q (.inl r), fun q r => r.elim q hjk⟩
 rw [hc] at ha
 have e : (if anyF (before hs b (rd_T77 hs k)) hs.length 0 = true then false else same (vOf L (rd_T77 hs k)) (rd_T77 hs k).f4) = okk hs b L k := by
  unfold okk
  cases anyF (before hs b (rd_T77 hs k)) hs.length 0 <;> simp
 rw [e] at ha
 simp only [spec_l16Begun.f, hw, hlast]
 exact Ev.ite_pos (by omega) (Ev.ite_pos (by rw [hlen]; omega) ha)
theorem orders_loop {kind : Int} {hs : List S77} (G : GoodHs kind hs) (b : List Int) (L : List Nat) (hB : Begun kind hs b L) (d : Nat) (hd : b.length + (d + 1) = hs.length)
  (ih : ∀ k : Nat, k < hs.length → (k : Int) ∉ b → Ev (fun q => spec_l16Orders.f q kind hs (b ++ [(k : Int)])) (if okk hs b L (k : Int) = true then ord kind hs d (b ++ [(k : Int)]) (stOf kind L (rd_T77 hs (k : Int))) else [])) :
  ∀ (m i : Nat) (acc : List (List Int)), i + m = hs.length → acc.length ≤ i * 16777216 →
  Ev (fun q => spec_l16Orders.l0 q kind hs b acc (hs.length : Int) (i : Int)) (acc ++ (List.range' i m).flatMap fun k : Nat => if (k : Int) ∈ b then [] else if okk hs b L (k : Int) = true then ord kind hs d (b ++ [(k : Int)]) (stOf kind L (rd_T77 hs (k : Int))) else [])
 | 0, i, acc, h, ha => by
  rw [List.range'_zero, List.flatMap_nil, List.append_nil]
  refine Ev.step (f := fun _ => some acc) (fun k => ?_) (Ev.now _)
  simp only [spec_l16Orders.l0]; rw [if_neg (by omega)]
 | m + 1, i, acc, h, ha => by
  have hn := G.n
  have hi : i < hs.length := by omega
  have hw : wrap64 ((i : Int) + 1) = ((i + 1 : Nat) : Int) := by rw [wrap_id] <;> omega
  rw [List.range'_succ, List.flatMap_cons]
  have hst : ∀ q, spec_l16Orders.l0 (q + 1) kind hs b acc (hs.length : Int) (i : Int) = (spec_l1Has.f q b (i : Int)).bind fun t => if t = true then spec_l16Orders.l0 q kind hs b acc (hs.length : Int) ((i + 1 : Nat) : Int) else (spec_l16Orders.f q kind hs (b ++ [(i : Int)])).bind fun t2 => if acc.length + t2.length < 5864062014805 then spec_l16Orders.l0 q kind hs b (acc ++ t2) (hs.length : Int) ((i + 1 : Nat) : Int) else none := by
   intro q
   simp only [spec_l16Orders.l0, own_eq b (by omega), Option.bind_some, hw]
   rw [if_pos (by omega), if_pos (show b.length < 17592186044416 by omega)]
  refine Ev.step hst (Ev.bind (has_ev b (by omega) (i : Int)) ?_)
  by_cases hm : (i : Int) ∈ b
  ·rw [if_pos hm, List.nil_append]
   exact Ev.ite_pos (decide_eq_true hm) (orders_loop G b L hB d hd ih m (i + 1) acc (by omega) (Nat.le_trans ha (Nat.mul_le_mul_right _ (Nat.le_succ i))))
  ·rw [if_neg hm, ← List.append_assoc]
   have hlen : (if okk hs b L (i : Int) = true then ord kind hs d (b ++ [(i : Int)]) (stOf kind L (rd_T77 hs (i : Int))) else []).length ≤ 16777216 := by
    split
    ·exact ord_lim kind hs hn d (by omega) _ _
    ·simp
   exact Ev.ite_neg (by simpa using hm) (Ev.bind (ih i hi hm) (Ev.ite_pos (by omega) (orders_loop G b L hB d hd ih m (i + 1) _ (by omega) (by rw [List.length_append, Nat.succ_mul]; omega))))
theorem orders_ev {kind : Int} {hs : List S77} (G : GoodHs kind hs) : ∀ (d : Nat) (b : List Int) (L : List Nat), Begun kind hs b L → b.length + d = hs.length → ∀ v : Bool, (b ≠ [] → Ev (fun q => spec_l16Begun.f q kind hs b) v) → (b = [] → v = true) → Ev (fun q => spec_l16Orders.f q kind hs b) (if v = true then ord kind hs d b L else []) := by
 intro d
 induction d with
 | zero =>
  intro b L hB hd v hv hv0
  have hj : Ev (fun q => spec_l16Orders.j0 q kind hs b (!v)) (if v = true then ord kind hs 0 b L else []) := by
   cases v with
   | false => exact Ev.step (f := fun _ => some []) (fun q => by simp only [spec_l16Orders.j0]; rw [if_pos (by simp)]) (Ev.now _)
   | true => exact Ev.step (f := fun _ => some [b]) (fun q => by simp only [spec_l16Orders.j0]; rw [if_neg (by simp), if_pos (by omega)]) (Ev.now _)
  by_cases hb : b = []
  ·have := hv0 hb
   subst this
   refine Ev.step (fun q => ?_) hj
   simp only [spec_l16Orders.f]; rw [if_neg (by rw [hb]; simp)]; rfl
  ·refine Ev.step (f := fun q => (spec_l16Begun.f q kind hs b).bind fun t => spec_l16Orders.j0 q kind hs b (!t)) (fun q => ?_) (Ev.bind (hv hb) hj)
   have := List.length_pos_iff.2 hb
   simp only [spec_l16Orders.f]; rw [if_pos (by omega)]
 | succ d ih =>
  intro b L hB hd v hv hv0
  have hj : Ev (fun q => spec_l16Orders.j0 q kind hs b (!v)) (if v = true then ord kind hs (d + 1) b L else []) := by
   cases v with
   | false => exact Ev.step (f := fun _ => some []) (fun q => by simp only [spec_l16Orders.j0]; rw [if_pos (by simp)]) (Ev.now _)
   | true =>
    have h := orders_loop G b L hB d hd (fun k hk hm => by
     have hB' := hB.step G (by omega) (k : Int) (by omega) (by omega)
     exact ih (b ++ [(k : Int)]) _ hB' (by simp; omega) (okk hs b L (k : Int)) (fun _ => begun_ev G b L hB (by omega) (k : Int) (by omega) (by omega) hm) (fun q => by simp at q)) hs.length 0 [] (by omega) (by simp)
    rw [List.nil_append, ← List.range_eq_range'] at h
    refine Ev.step (fun q => ?_) h
    simp only [spec_l16Orders.j0]; rw [if_neg (by simp), if_neg (by omega)]; rfl
  by_cases hb : b = []
  ·have := hv0 hb
   subst this
   refine Ev.step (fun q => ?_) hj
   simp only [spec_l16Orders.f]; rw [if_neg (by rw [hb]; simp)]; rfl
  ·refine Ev.step (f := fun q => (spec_l16Begun.f q kind hs b).bind fun t => spec_l16Orders.j0 q kind hs b (!t)) (fun q => ?_) (Ev.bind (hv hb) hj)
   have := List.length_pos_iff.2 hb
   simp only [spec_l16Orders.f]; rw [if_pos (by omega)]
def one (kind : Int) (hs : List S77) (d : Nat) (b : List Int) (L : List Nat) (k : Nat) : List (List Int) := if (k : Int) ∈ b then [] else if okk hs b L (k : Int) = true then ord kind hs d (b ++ [(k : Int)]) (stOf kind L (rd_T77 hs (k : Int))) else []
section
variable {kind : Int} {hs : List S77} (G : GoodHs kind hs) (b : List Int) (L : List Nat) (hB : Begun kind hs b L) (c : S77)
include G hB
theorem waits_loop {α : Type} (l1_ : Nat → Bool → Int → Option α) (h0 : ∀ q (w : Bool) (j : Nat), j < hs.length → l1_ (q + 1) w (j : Int) = if w = true then l1_ q true ((j + 1 : Nat) : Int) else if (rd_T77 hs (j : Int)).f2 < c.f1 then ((slices_Contains_int_int.f q b (j : Int)).bind fun t => l1_ q (!t) ((j + 1 : Nat) : Int)) else l1_ q false ((j + 1 : Nat) : Int)) (R : α) :
  ∀ (d j : Nat) (w : Bool), j + d = hs.length → Ev (fun q => l1_ q (w || anyF (before hs b c) d j) (hs.length : Int)) R → Ev (fun q => l1_ q w (j : Int)) R
 | 0, j, w, h, hR => by
  have : j = hs.length := by omega
  subst this
  rwa [anyF, Bool.or_false] at hR
 | d + 1, j, w, h, hR => by
  have hn := G.n; have hb := hB.l
  cases w with
  | true =>
   rw [Bool.true_or] at hR
   have ih := waits_loop l1_ h0 R d (j + 1) true (by omega) (by rw [Bool.true_or]; exact hR)
   exact Ev.step (fun q => by rw [h0 q true j (by omega), if_pos rfl]) ih
  | false =>
   rw [Bool.false_or] at hR
   replace hR : Ev (fun q => l1_ q (if before hs b c j = true then true else anyF (before hs b c) d (j + 1)) (hs.length : Int)) R := hR
   have hst : ∀ q, l1_ (q + 1) false (j : Int) = if (rd_T77 hs (j : Int)).f2 < c.f1 then ((slices_Contains_int_int.f q b (j : Int)).bind fun t => l1_ q (!t) ((j + 1 : Nat) : Int)) else l1_ q false ((j + 1 : Nat) : Int) := fun q => by rw [h0 q false j (by omega), if_neg (by simp)]
   by_cases hlt : (rd_T77 hs (j : Int)).f2 < c.f1
   ·refine Ev.step hst (Ev.ite_pos hlt (Ev.bind (contains_ev b (by omega) (j : Int)) ?_))
    by_cases hm : (j : Int) ∈ b
    ·have hq : ¬ before hs b c j = true := by unfold before; simp [hm]
     rw [if_neg hq] at hR
     rw [decide_eq_true hm]
     exact waits_loop l1_ h0 R d (j + 1) false (by omega) (by rw [Bool.false_or]; exact hR)
    ·have hq : before hs b c j = true := by unfold before; simp [hlt, hm]
     rw [if_pos hq] at hR
     rw [decide_eq_false hm]
     exact waits_loop l1_ h0 R d (j + 1) true (by omega) (by rw [Bool.true_or]; exact hR)
   ·have hq : ¬ before hs b c j = true := by unfold before; simp [hlt]
    rw [if_neg hq] at hR
    exact Ev.step hst (Ev.ite_neg hlt (waits_loop l1_ h0 R d (j + 1) false (by omega) (by rw [Bool.false_or]; exact hR)))
end
theorem wrap_nat (i : Nat) (h : i ≤ 1000) : wrap64 ((i : Int) + 1) = ((i + 1 : Nat) : Int) := by rw [wrap_id] <;> omega
theorem goodH_of (hs : List S77) : ∀ d i : Nat, i + d = hs.length → goodR hs d i = true → hs.length ≤ 8 ∧ ∀ j, i ≤ j → j < hs.length → badC (hs.getD j z77) = false
 | 0, i, h, hg => by
  have := of_decide_eq_true hg
  exact ⟨by omega, fun j h1 h2 => by omega⟩
 | d + 1, i, h, hg => by
  unfold goodR at hg
  split at hg
  ·cases hg
  ·rename_i h1
   split at hg
   ·cases hg
   ·obtain ⟨a1, a2⟩ := goodH_of hs d (i + 1) (by omega) hg
    refine ⟨a1, fun j h2 h3 => ?_⟩
    by_cases e : j = i
    ·subst e; simpa using h1
    ·exact a2 j (by omega) h3
theorem goodHs (kind : Int) (hk : kind = 1 ∨ kind = 2) (hs : List S77) (hg : goodH hs = true) (hf : ∀ c ∈ hs, c.f4 < 18446744073709551616) : GoodHs kind hs := by
 obtain ⟨h1, h2⟩ := goodH_of hs hs.length 0 (by omega) hg
 refine ⟨hk, h1, hf, fun c hc => ?_⟩
 obtain ⟨j, hj, rfl⟩ := List.getElem_of_mem hc
 have := h2 j (by omega) hj
 have e : hs.getD j z77 = hs[j] := by simp [hj]
 rw [e] at this
 unfold badC at this
 simp at this
 omega
theorem kind_ev (kind : Int) : (if kind = 1 then some true else some (kind == 2)) = some (kind == 1 || kind == 2) := by
 by_cases c : kind = 1
 ·rw [if_pos c, c]; rfl
 ·rw [if_neg c, show (kind == 1) = false from by simpa using c, Bool.false_or]
/-- What a function that is handed over makes of a list of orders. -/
def runO (mr : Int → List Int → Option Int) : Int → List (List Int) → Int × Option (List Int)
 | n, [] => (n, none)
 | n, o :: r => match mr n o with
  | some m => runO mr m r
  | none => (n, some o)
theorem runO_app (mr : Int → List Int → Option Int) (ys : List (List Int)) : ∀ (xs : List (List Int)) (n : Int), runO mr n (xs ++ ys) = if (runO mr n xs).2.isNone = true then runO mr (runO mr n xs).1 ys else runO mr n xs
 | [], n => rfl
 | o :: r, n => by
  cases hm : mr n o with
  | some m =>
   have e2 : ∀ zs, runO mr n (o :: zs) = runO mr m zs := fun zs => by simp only [runO, hm]
   rw [List.cons_append, e2, e2]
   exact runO_app mr ys r m
  | none =>
   have e2 : ∀ zs, runO mr n (o :: zs) = (n, some o) := fun zs => by simp only [runO, hm]
   rw [List.cons_append, e2, e2]
   rfl
theorem runO_one (mr : Int → List Int → Option Int) (n : Int) (o : List Int) : runO mr n [o] = Srch.ans mr n o := by
 simp only [runO, Srch.ans]
 cases mr n o <;> rfl
theorem runO_count : ∀ (xs : List (List Int)) (n : Int), 0 ≤ n → n + (xs.length : Int) ≤ 4611686018427387904 → runO Srch.mrC n xs = (n + (xs.length : Int), none)
 | [], n, _, _ => by simp [runO]
 | o :: r, n, h0, h1 => by
  rw [List.length_cons] at h1
  simp only [runO, Srch.mrC]
  rw [wrap_id (n := n + 1) (by omega) (by omega), runO_count r (n + 1) (by omega) (by omega), List.length_cons, show n + 1 + (r.length : Int) = n + ((r.length + 1 : Nat) : Int) by omega]
theorem runO_find (n : Int) : ∀ xs : List (List Int), runO Srch.mrN n xs = (n, xs.head?)
 | [] => rfl
 | o :: r => rfl
set_option maxHeartbeats 2000000 in
theorem search_loop (mr : Int → List Int → Option Int) {kind : Int} {hs : List S77} (G : GoodHs kind hs) (b : List Int) (L : List Nat) (hB : Begun kind hs b L) (d : Nat) (hd : b.length + (d + 1) = hs.length)
  (ih : ∀ (k : Nat) (n0 : Int), k < hs.length → Ev (fun q => impl_search.f q hs (b ++ [(k : Int)]) kind (stOf kind L (rd_T77 hs (k : Int))) mr n0) (runO mr n0 (ord kind hs d (b ++ [(k : Int)]) (stOf kind L (rd_T77 hs (k : Int)))))) :
  ∀ (m i : Nat) (n0 : Int), i + m = hs.length →
  Ev (fun q => impl_search.l0 q hs b hs (hs.length : Int) (i : Int) kind L mr n0) (runO mr n0 ((List.range' i m).flatMap (one kind hs d b L)))
 | 0, i, n0, h => by
  rw [List.range'_zero, List.flatMap_nil]
  refine Ev.step (f := fun _ => some (n0, none)) (fun k => ?_) (Ev.now _)
  simp only [impl_search.l0]; rw [if_neg (by omega)]
 | m + 1, i, n0, h => by
  have hn := G.n; have hb := hB.l
  have hi : i < hs.length := by omega
  rw [List.range'_succ, List.flatMap_cons]
  have hst : ∀ q, impl_search.l0 (q + 1) hs b hs (hs.length : Int) (i : Int) kind L mr n0 = (slices_Contains_int_int.f q b (i : Int)).bind fun t => if t = true then impl_search.l0 q hs b hs (hs.length : Int) ((i + 1 : Nat) : Int) kind L mr n0 else impl_search.l1 q hs b (i : Int) false hs (hs.length : Int) (i : Int) hs (hs.length : Int) 0 kind L (rd_T77 hs (i : Int)).f0 (rd_T77 hs (i : Int)).f1 (rd_T77 hs (i : Int)).f2 (rd_T77 hs (i : Int)).f3 (rd_T77 hs (i : Int)).f4 mr n0 := by
   intro q
   simp only [impl_search.l0, wrap_nat i (by omega)]
   rw [if_pos (by omega), if_pos (by omega), if_pos (by omega)]
  refine Ev.step hst (Ev.bind (contains_ev b (by omega) (i : Int)) ?_)
  by_cases hm : (i : Int) ∈ b
  ·have e1 : one kind hs d b L i = [] := by unfold one; rw [if_pos hm]
   rw [e1, List.nil_append]
   exact Ev.ite_pos (decide_eq_true hm) (search_loop mr G b L hB d hd ih m (i + 1) n0 (by omega))
  ·refine Ev.ite_neg (by simpa using hm) ?_
   have hmem := rdC_mem hs (i : Int) (by omega) (by omega)
   have hf := G.f _ hmem
   have hpl := play_ev kind G.k b.length (by omega) L hB.o (rd_T77 hs (i : Int))
   have hv := hB.o.v (rd_T77 hs (i : Int)) hf
   have rest := search_loop mr G b L hB d hd ih m (i + 1) n0 (by omega)
   have e1 : one kind hs d b L i = if okk hs b L (i : Int) = true then ord kind hs d (b ++ [(i : Int)]) (stOf kind L (rd_T77 hs (i : Int))) else [] := by unfold one; rw [if_neg hm]
   rw [e1]
   refine waits_loop G b L hB (rd_T77 hs (i : Int)) (fun q w j => impl_search.l1 q hs b (i : Int) w hs (hs.length : Int) (i : Int) hs (hs.length : Int) j kind L (rd_T77 hs (i : Int)).f0 (rd_T77 hs (i : Int)).f1 (rd_T77 hs (i : Int)).f2 (rd_T77 hs (i : Int)).f3 (rd_T77 hs (i : Int)).f4 mr n0) (fun q w j hj => ?_) _ hs.length 0 false (by omega) ?_
   ·simp only [impl_search.l1, wrap_nat j (Nat.le_trans (Nat.le_of_lt hj) (Nat.le_trans hn (by decide))), impl_Call_ahead.f, Option.bind_some, decide_eq_true_eq]
    rw [if_pos (Int.ofNat_lt.mpr hj), if_pos (Int.natCast_nonneg j), if_pos (Int.ofNat_lt.mpr hj)]
   ·rw [Bool.false_or]
    have hend : ∀ (w : Bool) q, impl_search.l1 (q + 1) hs b (i : Int) w hs (hs.length : Int) (i : Int) hs (hs.length : Int) (hs.length : Int) kind L (rd_T77 hs (i : Int)).f0 (rd_T77 hs (i : Int)).f1 (rd_T77 hs (i : Int)).f2 (rd_T77 hs (i : Int)).f3 (rd_T77 hs (i : Int)).f4 mr n0 = (impl_object_play.f q kind L (rd_T77 hs (i : Int)).f0 (rd_T77 hs (i : Int)).f1 (rd_T77 hs (i : Int)).f2 (rd_T77 hs (i : Int)).f3 (rd_T77 hs (i : Int)).f4).bind fun bt => if w = true then impl_search.l0 q hs b hs (hs.length : Int) ((i + 1 : Nat) : Int) kind L mr n0 else if same bt.1 (rd_T77 hs (i : Int)).f4 = true then ((impl_search.f q hs (b ++ [(i : Int)]) bt.2.1 bt.2.2 mr n0).bind fun t => if t.2.isNone = true then impl_search.l0 q hs b hs (hs.length : Int) ((i + 1 : Nat) : Int) kind L mr t.1 else some t) else impl_search.l0 q hs b hs (hs.length : Int) ((i + 1 : Nat) : Int) kind L mr n0 := by
     intro w q
     simp only [impl_search.l1, wrap_nat i (by omega), impl_same, cloneI_eq b (by omega), Option.bind_some]
     rw [if_neg (by omega)]
     congr 1
     funext bt
     rw [if_pos (show b.length + [(i : Int)].length < 17592186044416 by simp; omega)]
    cases hA : anyF (before hs b (rd_T77 hs (i : Int))) hs.length 0 with
    | true =>
     have ho : okk hs b L (i : Int) = false := by unfold okk; rw [hA]; rfl
     rw [ho, if_neg (by simp), List.nil_append]
     exact Ev.step (hend true) (Ev.bind hpl (Ev.ite_pos rfl rest))
    | false =>
     cases hS : same (vOf L (rd_T77 hs (i : Int))) (rd_T77 hs (i : Int)).f4 with
     | false =>
      have ho : okk hs b L (i : Int) = false := by unfold okk; rw [hA, hS]; rfl
      rw [ho, if_neg (by simp), List.nil_append]
      exact Ev.step (hend false) (Ev.bind hpl (Ev.ite_neg (by simp) (Ev.ite_neg (by simp [hS]) rest)))
     | true =>
      have ho : okk hs b L (i : Int) = true := by unfold okk; rw [hA, hS]; rfl
      rw [ho, if_pos rfl, runO_app]
      refine Ev.step (hend false) (Ev.bind hpl (Ev.ite_neg (by simp) (Ev.ite_pos hS (Ev.bind (ih i n0 hi) ?_))))
      by_cases hq : (runO mr n0 (ord kind hs d (b ++ [(i : Int)]) (stOf kind L (rd_T77 hs (i : Int))))).2.isNone = true
      ·rw [if_pos hq]
       exact Ev.ite_pos hq (search_loop mr G b L hB d hd ih m (i + 1) _ (by omega))
      ·rw [if_neg hq]
       exact Ev.ite_neg hq (Ev.now _)
theorem search_ev (mr : Int → List Int → Option Int) {kind : Int} {hs : List S77} (G : GoodHs kind hs) : ∀ (d : Nat) (b : List Int) (L : List Nat), Begun kind hs b L → b.length + d = hs.length → ∀ n0 : Int, Ev (fun q => impl_search.f q hs b kind L mr n0) (runO mr n0 (ord kind hs d b L)) := by
 intro d
 induction d with
 | zero =>
  intro b L hB hd n0
  refine Ev.step (f := fun _ => some (Srch.ans mr n0 b)) (fun q => ?_) (by rw [show ord kind hs 0 b L = [b] from rfl, runO_one]; exact Ev.now _)
  simp only [impl_search.f]; rw [if_pos (by omega)]
 | succ d ih =>
  intro b L hB hd n0
  have h := search_loop mr G b L hB d hd (fun k n1 hk => ih (b ++ [(k : Int)]) _ (hB.step G (by omega) (k : Int) (by omega) (by omega)) (by simp; omega) n1) hs.length 0 n0 (by omega)
  rw [← List.range_eq_range'] at h
  refine Ev.step (fun q => ?_) h
  simp only [impl_search.f]; rw [if_neg (by omega)]; rfl
theorem play_loop (kind : Int) (hk : kind = 1 ∨ kind = 2) (hs : List S77) (hv : ∀ c ∈ hs, c.f4 < 18446744073709551616) (xs : List Int) (hb : ∀ x ∈ xs, 0 ≤ x ∧ x < (hs.length : Int)) (hl : xs.length ≤ 1048576) :
  ∀ (d i : Nat) (x7 x8 : List Nat) (x9 : Nat) (L : List Nat), i + d = xs.length → x7.length = i → x8.length ≤ i → (kind = 1 → L = [x9]) → (kind = 2 → L = x8) → flL x7 → flL x8 → x9 < 18446744073709551616 →
  ∃ T : List Nat, T.length = xs.length ∧ flL T ∧ Ev (fun k => spec_l16Play.l0 k kind hs x7 x8 x9 xs (xs.length : Int) (i : Int)) T ∧ Ev (fun k => impl_toldBy.l0 k hs x7 xs (xs.length : Int) (i : Int) kind L) T
 | 0, i, x7, x8, x9, L, h, h7, h8, k1, k2, f7, f8, f9 => by
  refine ⟨x7, by omega, f7, Ev.step (f := fun _ => some x7) (fun k => ?_) (Ev.now _), Ev.step (f := fun _ => some x7) (fun k => ?_) (Ev.now _)⟩
  ·simp only [spec_l16Play.l0]; rw [if_neg (by omega)]
  ·simp only [impl_toldBy.l0]; rw [if_neg (by omega)]
 | d + 1, i, x7, x8, x9, L, h, h7, h8, k1, k2, f7, f8, f9 => by
  have hi : i < xs.length := by omega
  have e0 : rd xs (i : Int) = xs[i] := by rw [rd_nat]; simp [hi]
  obtain ⟨b0, b1⟩ := hb xs[i] (List.getElem_mem hi)
  have hw : wrap64 ((i : Int) + 1) = ((i + 1 : Nat) : Int) := by rw [wrap_id] <;> omega
  have hc : rd_T77 hs xs[i] ∈ hs := by
   have : xs[i].toNat < hs.length := by omega
   simp only [rd_T77, List.getD_eq_getElem?_getD, List.getElem?_eq_getElem this, Option.getD_some]
   exact List.getElem_mem this
  have hf := hv _ hc
  have istep : ∀ (v : Nat) (L' T : List Nat), Ev (fun k => impl_object_play.f k kind L (rd_T77 hs xs[i]).f0 (rd_T77 hs xs[i]).f1 (rd_T77 hs xs[i]).f2 (rd_T77 hs xs[i]).f3 (rd_T77 hs xs[i]).f4) (v, kind, L') →
    Ev (fun k => impl_toldBy.l0 k hs (x7 ++ [v]) xs (xs.length : Int) ((i + 1 : Nat) : Int) kind L') T → Ev (fun k => impl_toldBy.l0 k hs x7 xs (xs.length : Int) (i : Int) kind L) T := by
   intro v L' T hp hr
   refine Ev.step (f := fun k => (impl_object_play.f k kind L (rd_T77 hs xs[i]).f0 (rd_T77 hs xs[i]).f1 (rd_T77 hs xs[i]).f2 (rd_T77 hs xs[i]).f3 (rd_T77 hs xs[i]).f4).bind fun bt => impl_toldBy.l0 k hs (x7 ++ [bt.1]) xs (xs.length : Int) ((i + 1 : Nat) : Int) bt.2.1 bt.2.2) (fun k => ?_) (Ev.bind hp hr)
   simp only [impl_toldBy.l0, e0, hw]
   rw [if_pos (by omega), if_pos (by omega), if_pos (by omega), if_pos b0, if_pos b1]
   congr 1
   funext bt
   rw [if_pos (by omega)]
  have sstep : ∀ k, spec_l16Play.l0 (k + 1) kind hs x7 x8 x9 xs (xs.length : Int) (i : Int) = if (rd_T77 hs xs[i]).f3 = true then spec_l16Play.l0 k kind hs (x7 ++ [(rd_T77 hs xs[i]).f4]) (x8 ++ [(rd_T77 hs xs[i]).f4]) (rd_T77 hs xs[i]).f4 xs (xs.length : Int) ((i + 1 : Nat) : Int) else if kind = 1 then spec_l16Play.l0 k kind hs (x7 ++ [x9]) x8 x9 xs (xs.length : Int) ((i + 1 : Nat) : Int) else if (x8.length : Int) = 0 then spec_l16Play.l0 k kind hs (x7 ++ [9221120237041090561]) x8 x9 xs (xs.length : Int) ((i + 1 : Nat) : Int) else spec_l16Play.l0 k kind hs (x7 ++ [rdOf (0 : Nat) x8 0]) (x8.drop 1) x9 xs (xs.length : Int) ((i + 1 : Nat) : Int) := by
   intro k
   simp only [spec_l16Play.l0, e0, hw]
   rw [if_pos (by omega), if_pos (by omega), if_pos (by omega), if_pos b0, if_pos b1]
   simp only [if_pos (show x8.length < 17592186044416 by omega), if_pos (show x7.length < 17592186044416 by omega), if_pos nan_quo]
   by_cases c : (x8.length : Int) = 0
   ·rw [if_pos c, if_pos c]
   ·rw [if_neg c, if_neg c, if_pos (show 0 < (x8.length : Int) by omega), if_pos (show 1 ≤ (x8.length : Int) by omega)]; rfl
  generalize rd_T77 hs xs[i] = c at istep sstep hf
  by_cases hp : c.f3 = true
  ·have sst : ∀ k, spec_l16Play.l0 (k + 1) kind hs x7 x8 x9 xs (xs.length : Int) (i : Int) = spec_l16Play.l0 k kind hs (x7 ++ [c.f4]) (x8 ++ [c.f4]) c.f4 xs (xs.length : Int) ((i + 1 : Nat) : Int) := fun k => by rw [sstep, if_pos hp]
   rcases hk with rfl | rfl
   ·obtain ⟨T, t1, t2, t3, t4⟩ := play_loop 1 (.inl rfl) hs hv xs hb hl d (i + 1) (x7 ++ [c.f4]) (x8 ++ [c.f4]) c.f4 [c.f4] (by omega) (by simp [h7]) (by simp; omega) (fun _ => rfl) (fun q => by omega) (f7.snoc hf) (f8.snoc hf) hf
    refine ⟨T, t1, t2, Ev.step sst t3, istep c.f4 [c.f4] T ?_ t4⟩
    refine Ev.step (f := fun _ => some (c.f4, 1, [c.f4])) (fun k => ?_) (Ev.now _)
    simp only [impl_object_play.f, impl_object_play.j0, hp]; rw [if_pos trivial, if_pos trivial]
   ·obtain rfl := k2 rfl
    obtain ⟨T, t1, t2, t3, t4⟩ := play_loop 2 (.inr rfl) hs hv xs hb hl d (i + 1) (x7 ++ [c.f4]) (L ++ [c.f4]) c.f4 (L ++ [c.f4]) (by omega) (by simp [h7]) (by simp; omega) (fun q => by omega) (fun _ => rfl) (f7.snoc hf) (f8.snoc hf) hf
    refine ⟨T, t1, t2, Ev.step sst t3, istep c.f4 (L ++ [c.f4]) T ?_ t4⟩
    refine Ev.step (f := fun _ => some (c.f4, 2, L ++ [c.f4])) (fun k => ?_) (Ev.now _)
    simp only [impl_object_play.f, impl_object_play.j0, hp, clone_fl L (by omega), Option.bind_some]; rw [if_neg (by omega), if_neg (by simp), if_neg (by omega), if_pos trivial, if_pos (by simp; omega)]
  ·have hp' : c.f3 = false := by simpa using hp
   rcases hk with rfl | rfl
   ·obtain rfl := k1 rfl
    have sst : ∀ k, spec_l16Play.l0 (k + 1) 1 hs x7 x8 x9 xs (xs.length : Int) (i : Int) = spec_l16Play.l0 k 1 hs (x7 ++ [x9]) x8 x9 xs (xs.length : Int) ((i + 1 : Nat) : Int) := fun k => by rw [sstep, if_neg hp, if_pos (rfl : (1 : Int) = 1)]
    obtain ⟨T, t1, t2, t3, t4⟩ := play_loop 1 (.inl rfl) hs hv xs hb hl d (i + 1) (x7 ++ [x9]) x8 x9 [x9] (by omega) (by simp [h7]) (by omega) (fun _ => rfl) (fun q => by omega) (f7.snoc f9) f8 f9
    refine ⟨T, t1, t2, Ev.step sst t3, istep x9 [x9] T ?_ t4⟩
    refine Ev.step (f := fun _ => some (x9, 1, [x9])) (fun k => ?_) (Ev.now _)
    simp only [impl_object_play.f, impl_object_play.j0, hp']; rw [if_pos trivial, if_neg (by simp), if_pos trivial, if_pos (by simp)]; rfl
   ·obtain rfl := k2 rfl
    by_cases ce : (L.length : Int) = 0
    ·have sst : ∀ k, spec_l16Play.l0 (k + 1) 2 hs x7 L x9 xs (xs.length : Int) (i : Int) = spec_l16Play.l0 k 2 hs (x7 ++ [9221120237041090561]) L x9 xs (xs.length : Int) ((i + 1 : Nat) : Int) := fun k => by rw [sstep, if_neg hp, if_neg (by omega), if_pos ce]
     obtain ⟨T, t1, t2, t3, t4⟩ := play_loop 2 (.inr rfl) hs hv xs hb hl d (i + 1) (x7 ++ [9221120237041090561]) L x9 L (by omega) (by simp [h7]) (by omega) (fun q => by omega) (fun _ => rfl) (f7.snoc (by omega)) f8 f9
     refine ⟨T, t1, t2, Ev.step sst t3, istep 9221120237041090561 L T ?_ t4⟩
     refine Ev.step (f := fun _ => some (9221120237041090561, 2, L)) (fun k => ?_) (Ev.now _)
     simp only [impl_object_play.f, impl_object_play.j0, hp', math_NaN.f, Option.bind_some]; rw [if_neg (by omega), if_neg (by simp), if_neg (by omega), if_neg (by simp), if_pos ce]; rfl
    ·have hz : rdOf (0 : Nat) L 0 < 18446744073709551616 := by
      have hp : 0 < L.length := by omega
      have : rdOf (0 : Nat) L 0 = L[0] := by simp [rdOf, hp]
      rw [this]; exact f8 _ (List.getElem_mem hp)
     have sst : ∀ k, spec_l16Play.l0 (k + 1) 2 hs x7 L x9 xs (xs.length : Int) (i : Int) = spec_l16Play.l0 k 2 hs (x7 ++ [rdOf (0 : Nat) L 0]) (L.drop 1) x9 xs (xs.length : Int) ((i + 1 : Nat) : Int) := fun k => by rw [sstep, if_neg hp, if_neg (by omega), if_neg ce]
     obtain ⟨T, t1, t2, t3, t4⟩ := play_loop 2 (.inr rfl) hs hv xs hb hl d (i + 1) (x7 ++ [rdOf (0 : Nat) L 0]) (L.drop 1) x9 (L.drop 1) (by omega) (by simp [h7]) (by simp; omega) (fun q => by omega) (fun _ => rfl) (f7.snoc hz) (fun a ha => f8 a (List.mem_of_mem_drop ha)) f9
     refine ⟨T, t1, t2, Ev.step sst t3, istep (rdOf (0 : Nat) L 0) (L.drop 1) T ?_ t4⟩
     refine Ev.step (f := fun _ => some (rdOf (0 : Nat) L 0, 2, L.drop 1)) (fun k => ?_) (Ev.now _)
     simp only [impl_object_play.f, impl_object_play.j0, hp']; rw [if_neg (by omega), if_neg (by simp), if_neg (by omega), if_neg (by simp), if_neg ce, if_pos (by omega), if_pos (by omega)]
theorem play_same (kind : Int) (hk : kind = 1 ∨ kind = 2) (hs : List S77) (hv : ∀ c ∈ hs, c.f4 < 18446744073709551616) (xs : List Int) (hb : ∀ x ∈ xs, 0 ≤ x ∧ x < (hs.length : Int)) (hl : xs.length ≤ 1048576) :
  ∃ T : List Nat, T.length = xs.length ∧ flL T ∧ Ev (fun k => spec_l16Play.f k kind hs xs) T ∧ Ev (fun k => impl_toldBy.f k kind hs xs) T := by
 rcases hk with rfl | rfl
 ·obtain ⟨T, t1, t2, t3, t4⟩ := play_loop 1 (.inl rfl) hs hv xs hb hl xs.length 0 [] [] 0 [0] (by omega) rfl (by simp) (fun _ => rfl) (fun q => by omega) (fun _ h => by simp at h) (fun _ h => by simp at h) (by omega)
  refine ⟨T, t1, t2, t3, ?_⟩
  simp only [impl_toldBy.f, impl_newObject.f]
  rw [if_pos trivial]
  exact t4
 ·obtain ⟨T, t1, t2, t3, t4⟩ := play_loop 2 (.inr rfl) hs hv xs hb hl xs.length 0 [] [] 0 [] (by omega) rfl (by simp) (fun q => by omega) (fun _ => rfl) (fun _ h => by simp at h) (fun _ h => by simp at h) (by omega)
  refine ⟨T, t1, t2, t3, ?_⟩
  simp only [impl_toldBy.f, impl_newObject.f]
  rw [if_neg (by omega)]
  exact t4
theorem rdOf_nat (l : List Nat) (i : Nat) : rdOf (0 : Nat) l (i : Int) = l.getD i 0 := by simp [rdOf]
def allP (p : Nat → Bool) : Nat → Nat → Bool
 | _, 0 => true
 | i, d + 1 => if p i = true then allP p (i + 1) d else false
theorem allP_and (p q : Nat → Bool) : ∀ d i : Nat, allP (fun i => p i && q i) i d = (allP p i d && allP q i d)
 | 0, i => rfl
 | d + 1, i => by
  have ih := allP_and p q d (i + 1)
  simp only [allP]
  by_cases h1 : p i = true <;> by_cases h2 : q i = true <;> simp [h1, h2, ih]
/-- Is one of the calls behind place i of the order ahead of that at i? -/
def anyA (hs : List S77) (xs : List Int) (i : Nat) : Bool := (xs.drop (i + 1)).any (fun b => decide ((rd_T77 hs b).f2 < (rd_T77 hs (xs.getD i 0)).f1))
def sameAt (hs : List S77) (xs : List Int) (T : List Nat) (i : Nat) : Bool := same (T.getD i 0) (rd_T77 hs (xs.getD i 0)).f4
theorem at_ok (hs : List S77) (xs : List Int) (hb : ∀ x ∈ xs, 0 ≤ x ∧ x < (hs.length : Int)) (_hl : xs.length ≤ 1048576) (i : Nat) (hi : i < xs.length) : 0 ≤ xs.getD i 0 ∧ xs.getD i 0 < (hs.length : Int) := by
 have : xs.getD i 0 = xs[i] := by simp [hi]
 rw [this]
 exact hb _ (List.getElem_mem hi)
theorem drop_ok (hs : List S77) (xs : List Int) (hb : ∀ x ∈ xs, 0 ≤ x ∧ x < (hs.length : Int)) (_hl : xs.length ≤ 1048576) (i : Nat) : ∀ x ∈ xs.drop i, 0 ≤ x ∧ x < (hs.length : Int) := fun x hx => hb x (List.mem_of_mem_drop hx)
section
variable (kind : Int) (hs : List S77) (xs : List Int) (hb : ∀ x ∈ xs, 0 ≤ x ∧ x < (hs.length : Int)) (hl : xs.length ≤ 1048576)
include hb hl
theorem fits_inner (i : Nat) (hi : i < xs.length) (r0 : Bool) (h0 : Ev (fun k => spec_l16Fits.l0 k kind hs xs xs (xs.length : Int) ((i + 1 : Nat) : Int)) r0) (rest : List Int) (hr : ∀ x ∈ rest, 0 ≤ x ∧ x < (hs.length : Int)) (hrl : rest.length ≤ 1048576) : ∀ d j : Nat, j + d = rest.length →
  Ev (fun k => spec_l16Fits.l1 k kind hs xs (xs.getD i 0) xs (xs.length : Int) (i : Int) rest (rest.length : Int) (j : Int)) (if (rest.drop j).any (fun b => decide ((rd_T77 hs b).f2 < (rd_T77 hs (xs.getD i 0)).f1)) = true then false else r0)
 | 0, j, h => by
  rw [List.drop_eq_nil_of_le (by omega), List.any_nil, if_neg (by simp)]
  refine Ev.step (fun k => ?_) h0
  simp only [spec_l16Fits.l1]
  rw [if_neg (by omega), wrap_id (n := (i : Int) + 1) (by omega) (by omega)]; rfl
 | d + 1, j, h => by
  have hj : j < rest.length := by omega
  have e0 : rd rest (j : Int) = rest[j] := by rw [rd_nat]; simp [hj]
  obtain ⟨b0, b1⟩ := hr rest[j] (List.getElem_mem hj)
  obtain ⟨a0, a1⟩ := at_ok hs xs hb hl i hi
  have ih := fits_inner i hi r0 h0 rest hr hrl d (j + 1) (by omega)
  rw [List.drop_eq_getElem_cons hj, List.any_cons]
  have hst : ∀ k, spec_l16Fits.l1 (k + 1) kind hs xs (xs.getD i 0) xs (xs.length : Int) (i : Int) rest (rest.length : Int) (j : Int) = if decide ((rd_T77 hs rest[j]).f2 < (rd_T77 hs (xs.getD i 0)).f1) = true then some false else spec_l16Fits.l1 k kind hs xs (xs.getD i 0) xs (xs.length : Int) (i : Int) rest (rest.length : Int) ((j + 1 : Nat) : Int) := by
   intro k
   simp only [spec_l16Fits.l1, spec_l16Ahead.f, Option.bind_some, e0]
   rw [if_pos (by omega), if_pos (by omega), if_pos (by omega), if_pos b0, if_pos b1, if_pos a0, if_pos a1, wrap_id (n := (j : Int) + 1) (by omega) (by omega)]; rfl
  cases hq : decide ((rd_T77 hs rest[j]).f2 < (rd_T77 hs (xs.getD i 0)).f1) with
  | true => rw [Bool.true_or, if_pos rfl]; exact Ev.step hst (Ev.ite_pos hq (Ev.now _))
  | false => rw [Bool.false_or]; exact Ev.step hst (Ev.ite_neg (by rw [hq]; simp) ih)
theorem fits_told (T : List Nat) (hT : T.length = xs.length) (fT : flL T) (fh : ∀ c ∈ hs, c.f4 < 18446744073709551616) : ∀ d i : Nat, i + d = xs.length → Ev (fun k => spec_l16Fits.l2 k hs xs T (T.length : Int) (i : Int)) (allP (sameAt hs xs T) i d)
 | 0, i, h => by
  refine Ev.step (f := fun _ => some true) (fun k => ?_) (Ev.now _)
  simp only [spec_l16Fits.l2]; rw [if_neg (by omega)]
 | d + 1, i, h => by
  have hi : i < xs.length := by omega
  obtain ⟨a0, a1⟩ := at_ok hs xs hb hl i hi
  have ih := fits_told T hT fT fh d (i + 1) (by omega)
  have f1 : T.getD i 0 < 18446744073709551616 := by
   have : T.getD i 0 = T[i]'(by omega) := by simp [show i < T.length by omega]
   rw [this]; exact fT _ (List.getElem_mem _)
  have f2 : (rd_T77 hs (xs.getD i 0)).f4 < 18446744073709551616 := by
   have q : (xs.getD i 0).toNat < hs.length := by omega
   simp only [rd_T77, List.getD_eq_getElem?_getD (l := hs), List.getElem?_eq_getElem q, Option.getD_some]
   exact fh _ (List.getElem_mem q)
  refine Ev.step (f := fun k => (spec_l1SameNum.f k (T.getD i 0) (rd_T77 hs (xs.getD i 0)).f4).bind fun t => if t = true then spec_l16Fits.l2 k hs xs T (T.length : Int) ((i + 1 : Nat) : Int) else some false) (fun k => ?_) (Ev.bind (spec_same f1 f2) ?_)
  ·simp only [spec_l16Fits.l2, rdOf_nat, rd_nat]
   rw [if_pos (by omega), if_pos (by omega), if_pos (by omega), if_pos (by omega), if_pos a0, if_pos a1, wrap_id (n := (i : Int) + 1) (by omega) (by omega)]; rfl
  ·show Ev _ (if sameAt hs xs T i = true then allP (sameAt hs xs T) (i + 1) d else false)
   cases hq : same (T.getD i 0) (rd_T77 hs (xs.getD i 0)).f4 with
   | true => rw [if_pos (show sameAt hs xs T i = true from hq)]; exact Ev.ite_pos rfl ih
   | false => rw [if_neg (show ¬ sameAt hs xs T i = true by unfold sameAt; rw [hq]; simp)]; exact Ev.ite_neg (by simp) (Ev.now _)
theorem fits_outer (T : List Nat) (r : Bool) (hp : Ev (fun k => spec_l16Play.f k kind hs xs) T) (hr : Ev (fun k => spec_l16Fits.l2 k hs xs T (T.length : Int) 0) r) : ∀ d i : Nat, i + d = xs.length →
  Ev (fun k => spec_l16Fits.l0 k kind hs xs xs (xs.length : Int) (i : Int)) (if allP (fun i => !anyA hs xs i) i d = true then r else false)
 | 0, i, h => by
  rw [show allP (fun i => !anyA hs xs i) i 0 = true from rfl, if_pos rfl]
  refine Ev.step (f := fun k => (spec_l16Play.f k kind hs xs).bind fun t => spec_l16Fits.l2 k hs xs t (t.length : Int) 0) (fun k => ?_) (Ev.bind hp hr)
  simp only [spec_l16Fits.l0]; rw [if_neg (by omega)]
 | d + 1, i, h => by
  have hi : i < xs.length := by omega
  have ih := fits_outer T r hp hr d (i + 1) (by omega)
  have hin := fits_inner kind hs xs hb hl i hi _ ih (xs.drop (i + 1)) (drop_ok hs xs hb hl (i + 1)) (by simp; omega) (xs.drop (i + 1)).length 0 (by omega)
  rw [List.drop_zero] at hin
  refine Ev.step (f := fun k => spec_l16Fits.l1 k kind hs xs (xs.getD i 0) xs (xs.length : Int) (i : Int) (xs.drop (i + 1)) ((xs.drop (i + 1)).length : Int) 0) (fun k => ?_) ?_
  ·simp only [spec_l16Fits.l0, rd_nat]
   rw [wrap_id (n := (i : Int) + 1) (by omega) (by omega), if_pos (by omega), if_pos (by omega), if_pos (by omega), if_pos (by omega), if_pos (by omega), show ((i : Int) + 1).toNat = i + 1 by omega]
  ·by_cases hq : anyA hs xs i = true
   ·have e1 : allP (fun i => !anyA hs xs i) i (d + 1) = false := by
     show (if (!anyA hs xs i) = true then allP (fun i => !anyA hs xs i) (i + 1) d else false) = false
     rw [if_neg (by rw [hq]; simp)]
    rw [e1, if_neg (by simp)]
    unfold anyA at hq
    rw [if_pos hq] at hin
    exact hin
   ·have e1 : allP (fun i => !anyA hs xs i) i (d + 1) = allP (fun i => !anyA hs xs i) (i + 1) d := by
     show (if (!anyA hs xs i) = true then allP (fun i => !anyA hs xs i) (i + 1) d else false) = _
     rw [if_pos (by rw [Bool.not_eq_true] at hq; rw [hq]; rfl)]
    rw [e1]
    unfold anyA at hq
    rw [if_neg hq] at hin
    exact hin
theorem impl_inner (T : List Nat) (i : Nat) (hi : i < xs.length) (r0 : Bool × Bool) (h0 : Ev (fun k => impl_FitsOrder.l0 k hs xs T xs (xs.length : Int) ((i + 1 : Nat) : Int)) r0) (rest : List Int) (hr : ∀ x ∈ rest, 0 ≤ x ∧ x < (hs.length : Int)) (hrl : rest.length ≤ 1048576) : ∀ d j : Nat, j + d = rest.length →
  Ev (fun k => impl_FitsOrder.l1 k hs xs T (xs.getD i 0) xs (xs.length : Int) (i : Int) rest (rest.length : Int) (j : Int)) (if (rest.drop j).any (fun b => decide ((rd_T77 hs b).f2 < (rd_T77 hs (xs.getD i 0)).f1)) = true then (false, true) else r0)
 | 0, j, h => by
  rw [List.drop_eq_nil_of_le (by omega), List.any_nil, if_neg (by simp)]
  refine Ev.step (fun k => ?_) h0
  simp only [impl_FitsOrder.l1]
  rw [if_neg (by omega), wrap_id (n := (i : Int) + 1) (by omega) (by omega)]; rfl
 | d + 1, j, h => by
  have hj : j < rest.length := by omega
  have e0 : rd rest (j : Int) = rest[j] := by rw [rd_nat]; simp [hj]
  obtain ⟨b0, b1⟩ := hr rest[j] (List.getElem_mem hj)
  obtain ⟨a0, a1⟩ := at_ok hs xs hb hl i hi
  have ih := impl_inner T i hi r0 h0 rest hr hrl d (j + 1) (by omega)
  rw [List.drop_eq_getElem_cons hj, List.any_cons]
  have hst : ∀ k, impl_FitsOrder.l1 (k + 1) hs xs T (xs.getD i 0) xs (xs.length : Int) (i : Int) rest (rest.length : Int) (j : Int) = if decide ((rd_T77 hs rest[j]).f2 < (rd_T77 hs (xs.getD i 0)).f1) = true then some (false, true) else impl_FitsOrder.l1 k hs xs T (xs.getD i 0) xs (xs.length : Int) (i : Int) rest (rest.length : Int) ((j + 1 : Nat) : Int) := by
   intro k
   simp only [impl_FitsOrder.l1, impl_Call_ahead.f, Option.bind_some, e0]
   rw [if_pos (by omega), if_pos (by omega), if_pos (by omega), if_pos b0, if_pos b1, if_pos a0, if_pos a1, wrap_id (n := (j : Int) + 1) (by omega) (by omega)]; rfl
  cases hq : decide ((rd_T77 hs rest[j]).f2 < (rd_T77 hs (xs.getD i 0)).f1) with
  | true => rw [Bool.true_or, if_pos rfl]; exact Ev.step hst (Ev.ite_pos hq (Ev.now _))
  | false => rw [Bool.false_or]; exact Ev.step hst (Ev.ite_neg (by rw [hq]; simp) ih)
theorem impl_outer (T : List Nat) (hT : T.length = xs.length) : ∀ d i : Nat, i + d = xs.length →
  Ev (fun k => impl_FitsOrder.l0 k hs xs T xs (xs.length : Int) (i : Int)) (allP (fun i => sameAt hs xs T i && !anyA hs xs i) i d, true)
 | 0, i, h => by
  refine Ev.step (f := fun _ => some (true, true)) (fun k => ?_) (Ev.now _)
  simp only [impl_FitsOrder.l0]; rw [if_neg (by omega)]
 | d + 1, i, h => by
  have hi : i < xs.length := by omega
  obtain ⟨a0, a1⟩ := at_ok hs xs hb hl i hi
  have ih := impl_outer T hT d (i + 1) (by omega)
  have hin := impl_inner hs xs hb hl T i hi _ ih (xs.drop (i + 1)) (drop_ok hs xs hb hl (i + 1)) (by simp; omega) (xs.drop (i + 1)).length 0 (by omega)
  rw [List.drop_zero] at hin
  have hst : ∀ k, impl_FitsOrder.l0 (k + 1) hs xs T xs (xs.length : Int) (i : Int) = if sameAt hs xs T i = true then impl_FitsOrder.l1 k hs xs T (xs.getD i 0) xs (xs.length : Int) (i : Int) (xs.drop (i + 1)) ((xs.drop (i + 1)).length : Int) 0 else some (false, true) := by
   intro k
   simp only [impl_FitsOrder.l0, rdOf_nat, rd_nat, impl_same, Option.bind_some]
   rw [wrap_id (n := (i : Int) + 1) (by omega) (by omega), if_pos (by omega), if_pos (by omega), if_pos (by omega), if_pos (by omega), if_pos a0, if_pos a1, if_pos (show 0 ≤ (i : Int) + 1 by omega), if_pos (show (i : Int) + 1 ≤ (xs.length : Int) by omega), show ((i : Int) + 1).toNat = i + 1 by omega]
   rfl
  by_cases hs1 : sameAt hs xs T i = true
  ·refine Ev.step hst (Ev.ite_pos hs1 ?_)
   by_cases hq : anyA hs xs i = true
   ·have e1 : allP (fun i => sameAt hs xs T i && !anyA hs xs i) i (d + 1) = false := by
     show (if (sameAt hs xs T i && !anyA hs xs i) = true then allP (fun i => sameAt hs xs T i && !anyA hs xs i) (i + 1) d else false) = false
     rw [if_neg (by rw [hq]; simp)]
    rw [e1]
    unfold anyA at hq
    rw [if_pos hq] at hin
    exact hin
   ·have e1 : allP (fun i => sameAt hs xs T i && !anyA hs xs i) i (d + 1) = allP (fun i => sameAt hs xs T i && !anyA hs xs i) (i + 1) d := by
     show (if (sameAt hs xs T i && !anyA hs xs i) = true then allP (fun i => sameAt hs xs T i && !anyA hs xs i) (i + 1) d else false) = _
     rw [if_pos (by rw [Bool.not_eq_true] at hq; rw [hq, hs1]; rfl)]
    rw [e1]
    unfold anyA at hq
    rw [if_neg hq] at hin
    exact hin
  ·have e1 : allP (fun i => sameAt hs xs T i && !anyA hs xs i) i (d + 1) = false := by
    show (if (sameAt hs xs T i && !anyA hs xs i) = true then allP (fun i => sameAt hs xs T i && !anyA hs xs i) (i + 1) d else false) = false
    rw [if_neg (by rw [Bool.not_eq_true] at hs1; rw [hs1]; simp)]
   rw [e1]
   exact Ev.step hst (Ev.ite_neg hs1 (Ev.now _))
end
/-- What stands of an order that goes on from one that is begun. -/
def fitsFrom (kind : Int) (hs : List S77) : List Int → List Nat → List Int → Prop
 | _, _, [] => True
 | b, L, k :: t => (0 ≤ k ∧ k < (hs.length : Int)) ∧ k ∉ b ∧ okk hs b L k = true ∧ fitsFrom kind hs (b ++ [k]) (stOf kind L (rd_T77 hs k)) t
theorem ord_iff (kind : Int) (hs : List S77) : ∀ (d : Nat) (b : List Int) (L : List Nat) (o : List Int), o ∈ ord kind hs d b L ↔ ∃ t, t.length = d ∧ o = b ++ t ∧ fitsFrom kind hs b L t
 | 0, b, L, o => by
  constructor
  ·intro h
   exact ⟨[], rfl, by rw [List.append_nil]; exact List.mem_singleton.1 h, trivial⟩
  ·rintro ⟨t, ht, rfl, _⟩
   rw [List.eq_nil_of_length_eq_zero ht, List.append_nil]
   exact List.mem_singleton.2 rfl
 | d + 1, b, L, o => by
  unfold ord
  rw [List.mem_flatMap]
  constructor
  ·rintro ⟨k, hk, ho⟩
   have hk := List.mem_range.1 hk
   split at ho
   ·cases ho
   ·rename_i h1
    split at ho
    ·rename_i h2
     obtain ⟨t, t1, t2, t3⟩ := (ord_iff kind hs d _ _ o).1 ho
     exact ⟨(k : Int) :: t, by simp [t1], by rw [t2, List.append_assoc]; rfl, ⟨by omega, by omega⟩, h1, h2, t3⟩
    ·cases ho
  ·rintro ⟨t, ht, rfl, hf⟩
   match t, ht, hf with
   | k :: t, ht, hf =>
    obtain ⟨⟨h0, h1⟩, h2, h3, h4⟩ := hf
    obtain ⟨m, rfl⟩ := Int.eq_ofNat_of_zero_le h0
    refine ⟨m, List.mem_range.2 (by omega), ?_⟩
    rw [if_neg h2, if_pos h3]
    exact (ord_iff kind hs d _ _ _).2 ⟨t, by simpa using ht, by rw [List.append_assoc]; rfl, h4⟩
theorem fitsFrom_at (kind : Int) (hs : List S77) : ∀ (t b : List Int) (L : List Nat), fitsFrom kind hs b L t ↔ ∀ i (h : i < t.length), (0 ≤ t[i] ∧ t[i] < (hs.length : Int)) ∧ t[i] ∉ b ++ t.take i ∧ okk hs (b ++ t.take i) (stAll kind L ((t.take i).map (rd_T77 hs))) t[i] = true
 | [], b, L => ⟨fun _ i h => by simp at h, fun _ => trivial⟩
 | k :: t, b, L => by
  unfold fitsFrom
  rw [fitsFrom_at kind hs t (b ++ [k])]
  constructor
  ·rintro ⟨h1, h2, h3, h4⟩ i hi
   cases i with
   | zero => exact ⟨h1, by simpa using h2, by simpa [stAll] using h3⟩
   | succ i =>
    have := h4 i (by simpa using hi)
    simpa [stAll, List.append_assoc] using this
  ·intro h
   have h0 := h 0 (by simp)
   refine ⟨h0.1, by simpa using h0.2.1, by simpa [stAll] using h0.2.2, fun i hi => ?_⟩
   have := h (i + 1) (by simpa using hi)
   simpa [stAll, List.append_assoc] using this
theorem told_at (kind : Int) : ∀ (cs : List S77) (L : List Nat) (i : Nat) (h : i < cs.length), (told kind L cs).getD i 0 = vOf (stAll kind L (cs.take i)) cs[i]
 | c :: r, L, 0, _ => by simp [told, stAll]
 | c :: r, L, i + 1, h => by
  have := told_at kind r (stOf kind L c) i (by simpa using h)
  simpa [told, stAll] using this
theorem anyF_iff (p : Nat → Bool) : ∀ d i : Nat, anyF p d i = true ↔ ∃ j, i ≤ j ∧ j < i + d ∧ p j = true
 | 0, i => ⟨fun h => (by cases h), fun ⟨j, h1, h2, _⟩ => (by omega)⟩
 | d + 1, i => by
  unfold anyF
  by_cases h : p i = true
  ·rw [if_pos h]
   exact ⟨fun _ => ⟨i, Nat.le_refl _, by omega, h⟩, fun _ => rfl⟩
  ·rw [if_neg h, anyF_iff p d (i + 1)]
   constructor
   ·rintro ⟨j, h1, h2, h3⟩
    exact ⟨j, by omega, by omega, h3⟩
   ·rintro ⟨j, h1, h2, h3⟩
    have : j ≠ i := by rintro rfl; exact h h3
    exact ⟨j, by omega, by omega, h3⟩
theorem allP_iff (p : Nat → Bool) : ∀ d i : Nat, allP p i d = true ↔ ∀ j, i ≤ j → j < i + d → p j = true
 | 0, i => ⟨fun _ j h1 h2 => (by omega), fun _ => rfl⟩
 | d + 1, i => by
  unfold allP
  by_cases h : p i = true
  ·rw [if_pos h, allP_iff p d (i + 1)]
   constructor
   ·intro q j h1 h2
    by_cases e : j = i
    ·rw [e]; exact h
    ·exact q j (by omega) (by omega)
   ·intro q j h1 h2
    exact q j (by omega) (by omega)
  ·rw [if_neg h]
   exact ⟨fun q => (by cases q), fun q => absurd (q i (Nat.le_refl _) (by omega)) h⟩
theorem pig : ∀ (n : Nat) (xs : List Int), xs.Nodup → (∀ x ∈ xs, 0 ≤ x ∧ x < (n : Int)) → xs.length ≤ n
 | 0, xs, _, h => by
  cases xs with
  | nil => exact Nat.le_refl _
  | cons x r => have := h x List.mem_cons_self; omega
 | n + 1, xs, hn, h => by
  have ih := pig n (xs.erase (n : Int)) (hn.erase _) (fun x hx => by
   have h1 := h x (List.mem_of_mem_erase hx)
   have h2 := ((List.Nodup.mem_erase_iff hn).1 hx).1
   omega)
  have hl : xs.length ≤ (xs.erase (n : Int)).length + 1 := by
   rw [List.length_erase]
   split <;> omega
  omega
theorem ord_all {hs : List S77} {xs : List Int} (h : isOrd hs xs) (j : Int) (h0 : 0 ≤ j) (h1 : j < (hs.length : Int)) : j ∈ xs := by
 by_cases hm : j ∈ xs
 ·exact hm
 ·have := pig hs.length (j :: xs) (List.nodup_cons.2 ⟨hm, h.2.2⟩) (fun x hx => by
   rcases List.mem_cons.1 hx with rfl | hx
   ·exact ⟨h0, h1⟩
   ·exact h.2.1 x hx)
  rw [List.length_cons, h.1] at this
  omega
/-- The orders that are listed are those that fit. -/
theorem fits_char {kind : Int} {hs : List S77} (G : GoodHs kind hs) (xs : List Int) : xs ∈ ord kind hs hs.length [] (L0 kind) ↔ isOrd hs xs ∧ allP (fun i => sameAt hs xs (told kind (L0 kind) (xs.map (rd_T77 hs))) i && !anyA hs xs i) 0 xs.length = true := by
 have hT : ∀ i (h : i < xs.length), (told kind (L0 kind) (xs.map (rd_T77 hs))).getD i 0 = vOf (stAll kind (L0 kind) ((xs.take i).map (rd_T77 hs))) (rd_T77 hs xs[i]) := fun i h => by
  have := told_at kind (xs.map (rd_T77 hs)) (L0 kind) i (by simpa using h)
  simpa [List.map_take] using this
 have hD : ∀ i (h : i < xs.length), xs.getD i 0 = xs[i] := fun i h => by simp [h]
 have key : isOrd hs xs → ∀ i (h : i < xs.length), (okk hs (xs.take i) (stAll kind (L0 kind) ((xs.take i).map (rd_T77 hs))) xs[i] = (sameAt hs xs (told kind (L0 kind) (xs.map (rd_T77 hs))) i && !anyA hs xs i)) := by
  intro ho i hi
  have e1 : anyF (before hs (xs.take i) (rd_T77 hs xs[i])) hs.length 0 = anyA hs xs i := by
   rw [Bool.eq_iff_iff, anyF_iff]
   unfold anyA
   rw [List.any_eq_true, hD i hi]
   constructor
   ·rintro ⟨j, _, h2, h3⟩
    unfold before at h3
    rw [Bool.and_eq_true, decide_eq_true_eq, decide_eq_true_eq] at h3
    have hm := ord_all ho (j : Int) (by omega) (by omega)
    rw [← List.take_append_drop i xs, List.drop_eq_getElem_cons hi] at hm
    rcases List.mem_append.1 hm with h4 | h4
    ·exact absurd h4 h3.2
    ·rcases List.mem_cons.1 h4 with h5 | h5
     ·have hg := G.g _ (rdC_mem hs xs[i] (ho.2.1 _ (List.getElem_mem hi)).1 (ho.2.1 _ (List.getElem_mem hi)).2)
      rw [h5] at h3
      exact absurd h3.1 (by show ¬ (rd_T77 hs xs[i]).f2 < (rd_T77 hs xs[i]).f1; have hg : (rd_T77 hs xs[i]).f1 < (rd_T77 hs xs[i]).f2 := hg; omega)
     ·exact ⟨_, h5, decide_eq_true h3.1⟩
   ·rintro ⟨b, hb, h3⟩
    have hr := ho.2.1 b (List.mem_of_mem_drop hb)
    obtain ⟨j, rfl⟩ := Int.eq_ofNat_of_zero_le hr.1
    refine ⟨j, by omega, by omega, ?_⟩
    unfold before
    rw [Bool.and_eq_true, decide_eq_true_eq, decide_eq_true_eq]
    refine ⟨of_decide_eq_true h3, fun hm => ?_⟩
    have hnd := ho.2.2
    rw [← List.take_append_drop (i + 1) xs] at hnd
    have := (List.nodup_append.1 hnd).2.2 _ (List.mem_of_mem_take (i := i) (by rw [List.take_take, Nat.min_eq_left (by omega)]; exact hm)) _ hb
    exact this rfl
  unfold okk sameAt
  rw [hT i hi, hD i hi]
  show (!anyF (before hs (xs.take i) (rd_T77 hs xs[i])) hs.length 0 && _) = _
  rw [e1, Bool.and_comm]
 rw [ord_iff]
 constructor
 ·rintro ⟨t, ht, rfl, hf⟩
  have hf := (fitsFrom_at kind hs xs [] (L0 kind)).1 hf
  have ho : isOrd hs xs := ⟨ht, fun x hx => by
   obtain ⟨i, hi, rfl⟩ := List.getElem_of_mem hx
   exact (hf i hi).1, (nodup_take xs).1 (fun j hj => by rw [hD j hj]; simpa using (hf j hj).2.1)⟩
  refine ⟨ho, (allP_iff _ _ _).2 (fun j _ hj => ?_)⟩
  have hj' : j < xs.length := by omega
  rw [← key ho j hj']
  simpa using (hf j hj').2.2
 ·rintro ⟨ho, ha⟩
  refine ⟨xs, ho.1, by simp, (fitsFrom_at kind hs xs [] (L0 kind)).2 (fun i hi => ?_)⟩
  have h1 := (allP_iff _ _ _).1 ha i (by omega) (by omega)
  refine ⟨ho.2.1 _ (List.getElem_mem hi), ?_, ?_⟩
  ·have := (nodup_take xs).2 ho.2.2 i hi
   rw [hD i hi] at this
   simpa using this
  ·rw [List.nil_append, key ho i hi]
   exact h1

end Go.Proofs.Ythdpiceiemkjlaa.Pure

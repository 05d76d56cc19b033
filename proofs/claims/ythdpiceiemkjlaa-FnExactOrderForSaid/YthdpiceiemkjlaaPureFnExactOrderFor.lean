/- The pure statement of FnExactOrderFor: the order that the search finds first is the first one of the reference's. -/
import Derived.Test.YthdpiceiemkjlaaQFnExactOrderFor
import Derived.Test.YthdpiceiemkjlaaMBase
import Derived.KernelRfl
import Derived.Test.YthdpiceiemkjlaaMReal
set_option linter.unusedVariables false
set_option linter.unusedSimpArgs false
namespace Go.Proofs.Ythdpiceiemkjlaa.Pure
open Go.RowKit Go.Proofs.Ythdpiceiemkjlaa.GOrderFor Go.Proofs.YthdpiceiemkjlaaW.PrintWords Go.Proofs.YthdpiceiemkjlaaW.PrintLast Go.Proofs.YthdpiceiemkjlaaW.PrintMore Go.Proofs.Ythdpiceiemkjlaa.MBase
open Go.Proofs.Ythdpiceiemkjlaa Go.Proofs.Ythdpiceiemkjlaa.MNum Go.Proofs.Ythdpiceiemkjlaa.MIeee Go.Proofs.Ythdpiceiemkjlaa.MReal
def minus (x : Nat) : Bool := decide (key x < 0) || decide (x = 9223372036854775808)
theorem spec_minus {x : Nat} (hx : x < 18446744073709551616) : spec_IsMinus.f x = some (if isNan x = true then false else minus x) := by
  unfold spec_IsMinus.f
  cases hn : isNan x with
  | true => rw [flt_nan (.inl hn), feq_nan (.inl hn)]; rfl
  | false =>
    rw [flt_eq hn nan_zero, feq_eq hn nan_zero, key_zero]
    unfold minus
    by_cases h : key x < 0
    · simp [h]
    · by_cases h2 : key x = 0
      · rcases zero_cases hx (key_rg_zero.mp h2) with rfl | rfl
        · rw [if_neg (by simp [h]), if_pos (by simp [h2]), if_pos inv_pz.1, inv_pz.2.1]; rfl
        · rw [if_neg (by simp [h]), if_pos (by simp [h2]), if_pos inv_nz.1, inv_nz.2.1]; rfl
      · have : x ≠ 9223372036854775808 := by rintro rfl; exact h2 (by decide)
        simp [h, h2, this]
/-- Two numbers are one: both no number, or the same bits. -/
def same (x y : Nat) : Bool := if isNan x = true then isNan y else decide (isNan y = false ∧ x = y)
theorem spec_nan (x : Nat) : spec_l1Nan.f x = some (isNan x) := by
  unfold spec_l1Nan.f; rw [feq_self]; cases isNan x <;> rfl
theorem minus_pz : minus 0 = false := by decide
theorem minus_nz : minus 9223372036854775808 = true := by decide
theorem spec_same {x y : Nat} (hx : x < 18446744073709551616) (hy : y < 18446744073709551616) : Ev (fun k => spec_l1SameNum.f k x y) (same x y) := by
  simp only [spec_l1SameNum.f, spec_nan, Option.bind_some]
  unfold same
  cases hn : isNan x with
  | true =>
    rw [if_pos rfl]
    refine Ev.ite_pos rfl (Ev.step (f := fun _ => some (isNan y)) (fun k => ?_) (Ev.now _))
    simp only [spec_l1SameNum.j0, spec_nan, Option.bind_some]; rw [if_pos trivial, hn, if_pos rfl]
  | false =>
    rw [if_neg (by simp)]
    refine Ev.ite_neg (by simp) ?_
    cases hm : isNan y with
    | true =>
      rw [decide_eq_false (by simp)]
      refine Ev.step (f := fun _ => some false) (fun k => ?_) (Ev.now _)
      simp only [spec_l1SameNum.j0, spec_nan, Option.bind_some]; rw [if_pos trivial, hn, if_neg (by simp)]
    | false =>
      refine Ev.step (f := fun _ => some (decide (false = false ∧ x = y))) (fun k => ?_) (Ev.now _)
      simp only [spec_l1SameNum.j0, spec_minus hx, spec_minus hy, Option.bind_some]
      rw [if_neg (by simp), feq_eq hn hm, hn, hm]
      simp only [Bool.false_eq_true, if_false, decide_eq_true_eq, true_and]
      by_cases hk : key x = key y
      · rw [if_pos hk]
        congr 1
        by_cases h0 : rg x = 0
        · have hy0 : rg y = 0 := key_rg_zero.mp (hk ▸ key_rg_zero.mpr h0)
          rcases zero_cases hx h0 with rfl | rfl <;> rcases zero_cases hy hy0 with rfl | rfl <;> decide
        · have := key_inj hx hy h0 hk
          subst this
          simp
      · rw [if_neg hk]
        congr 1
        rw [eq_comm, decide_eq_false_iff_not]
        rintro rfl
        exact hk rfl
theorem math_nan (x : Nat) : math_IsNaN.f x = some (isNan x) := by
  unfold math_IsNaN.f; rw [feq_self]; cases isNan x <;> rfl
theorem impl_same {x y : Nat} : impl_SameNum.f x y = some (same x y) := by
  simp only [impl_SameNum.f, math_nan, Option.bind_some]
  unfold same
  cases hn : isNan x with
  | true =>
    rw [if_pos rfl, if_pos rfl]
    cases hm : isNan y with
    | true => rfl
    | false =>
      rw [if_neg (by simp)]
      congr 1
      rw [beq_eq_false_iff_ne]
      intro q
      have : x = y := by omega
      rw [this, hm] at hn
      cases hn
  | false =>
    rw [if_neg (by simp), if_neg (by simp)]
    congr 1
    rw [Bool.eq_iff_iff, beq_iff_eq, decide_eq_true_eq]
    constructor
    · intro q
      have : x = y := by omega
      exact ⟨this ▸ hn, this⟩
    · rintro ⟨_, rfl⟩; rfl
/-- A loop that goes on to n with the same result. -/
theorem ev_up {α : Type} (L : Nat → Int → Option α) (n : Nat) (r : α) (hs : ∀ i : Nat, i < n → Ev (fun k => L k ((i + 1 : Nat) : Int)) r → Ev (fun k => L k (i : Int)) r) (he : Ev (fun k => L k (n : Int)) r) :
    ∀ d i : Nat, i + d = n → Ev (fun k => L k (i : Int)) r
  | 0, i, h => by
    have : i = n := by omega
    subst this
    exact he
  | d + 1, i, h => hs i (by omega) (ev_up L n r hs he d (i + 1) (by omega))
/-- A loop that fills a row, place by place. -/
theorem ev_map {α β : Type} (L : Nat → List β → Int → Option (List β)) (xs : List α) (f : α → β) (z : α)
    (hs : ∀ (i : Nat) (acc r : List β), i < xs.length → acc.length = xs.length → Ev (fun k => L k (acc.set i (f (xs.getD i z))) ((i + 1 : Nat) : Int)) r → Ev (fun k => L k acc (i : Int)) r)
    (he : ∀ acc : List β, acc.length = xs.length → Ev (fun k => L k acc (xs.length : Int)) acc) :
    ∀ (d i : Nat) (acc : List β), i + d = xs.length → acc.length = xs.length → Ev (fun k => L k acc (i : Int)) (acc.take i ++ (xs.drop i).map f)
  | 0, i, acc, h, ha => by
    have e : acc.take i ++ (xs.drop i).map f = acc := by rw [List.take_of_length_le (by omega), List.drop_eq_nil_of_le (by omega), List.map_nil, List.append_nil]
    rw [e]
    have : i = xs.length := by omega
    subst this
    exact he acc ha
  | d + 1, i, acc, h, ha => by
    have ih := ev_map L xs f z hs he d (i + 1) (acc.set i (f (xs.getD i z))) (by omega) (by simpa using ha)
    have e : (acc.set i (f (xs.getD i z))).take (i + 1) ++ (xs.drop (i + 1)).map f = acc.take i ++ (xs.drop i).map f := by
      rw [List.take_succ_eq_append_getElem (by simp; omega), List.getElem_set_self, List.take_set, List.set_eq_of_length_le (by simp; omega), List.append_assoc, List.drop_eq_getElem_cons (show i < xs.length by omega), List.map_cons]
      simp [List.getD_eq_getElem?_getD, List.getElem?_eq_getElem (show i < xs.length by omega)]
    rw [e] at ih
    exact hs i acc _ (by omega) ha ih
theorem ev_map_all {α β : Type} (L : Nat → List β → Int → Option (List β)) (xs : List α) (f : α → β) (z : α) (y : β)
    (hs : ∀ (i : Nat) (acc r : List β), i < xs.length → acc.length = xs.length → Ev (fun k => L k (acc.set i (f (xs.getD i z))) ((i + 1 : Nat) : Int)) r → Ev (fun k => L k acc (i : Int)) r)
    (he : ∀ acc : List β, acc.length = xs.length → Ev (fun k => L k acc (xs.length : Int)) acc) :
    Ev (fun k => L k (List.replicate xs.length y) 0) (xs.map f) := by
  have h := ev_map L xs f z hs he xs.length 0 (List.replicate xs.length y) (by omega) (by simp)
  simpa using h
theorem l1In_dec (a b c : Int) : spec_l1In.f a b c = some (decide (b ≤ a ∧ a ≤ c)) := by
  unfold spec_l1In.f
  by_cases h : b ≤ a
  · rw [if_pos h]; simp [h]
  · rw [if_neg h]; simp [h]
theorem in_dec (a b c : Int) : impl_in.f a b c = some (decide (b ≤ a ∧ a ≤ c)) := l1In_dec a b c
def badC (x : S77) : Bool := !decide ((0 ≤ x.f0 ∧ x.f0 ≤ 9) ∧ 0 ≤ x.f1 ∧ x.f1 < x.f2 ∧ x.f2 ≤ 999)
def meets (x y : S77) : Bool := decide (x.f0 = y.f0 ∧ x.f2 ≥ y.f1 ∧ y.f2 ≥ x.f1)
theorem rd92 (xs : List S77) (i : Nat) (h : i < xs.length) : rd_T77 xs (i : Int) = xs[i] := by
  simp [rd_T77, h]
theorem spec_l0_step (xs : List S77) (hx : xs.length ≤ 1048576) (i : Nat) (hi : i < xs.length) (k : Nat) :
    spec_l16Good.l0 (k+1) xs xs (xs.length : Int) (i : Int) = spec_l16Good.j1 k xs (i : Int) xs (xs.length : Int) (i : Int) (badC xs[i]) (xs[i]).f0 (xs[i]).f1 (xs[i]).f2 (xs[i]).f3 (xs[i]).f4 := by
  simp only [spec_l16Good.l0, l1In_dec, Option.bind_some, decide_eq_true_eq]
  rw [if_pos (by omega), if_pos (by omega), if_pos (by omega), rd92 xs i hi]
  unfold badC
  by_cases h0 : 0 ≤ (xs[i]).f0 ∧ (xs[i]).f0 ≤ 9
  · by_cases h1 : 0 ≤ (xs[i]).f1 ∧ (xs[i]).f1 ≤ 999
    · rw [if_pos h0, if_pos h1, wrap_id (n := (xs[i]).f1 + 1) (by omega) (by omega)]
      congr 2
      rw [decide_eq_decide]
      omega
    · rw [if_pos h0, if_neg h1, decide_eq_false (by omega)]; rfl
  · rw [if_neg h0, decide_eq_false (by omega)]; rfl
theorem impl_l0_step (xs : List S77) (hx : xs.length ≤ 1048576) (i : Nat) (hi : i < xs.length) (k : Nat) :
    impl_GoodHistory.l0 (k+1) xs xs (xs.length : Int) (i : Int) = impl_GoodHistory.j1 k xs (i : Int) xs (xs.length : Int) (i : Int) (badC xs[i]) (xs[i]).f0 (xs[i]).f1 (xs[i]).f2 (xs[i]).f3 (xs[i]).f4 := by
  simp only [impl_GoodHistory.l0, in_dec, Option.bind_some, decide_eq_true_eq]
  rw [if_pos (by omega), if_pos (by omega), if_pos (by omega), rd92 xs i hi]
  unfold badC
  by_cases h0 : 0 ≤ (xs[i]).f0 ∧ (xs[i]).f0 ≤ 9
  · by_cases h1 : (xs[i]).f1 < 0
    · rw [if_pos h0, if_pos h1, decide_eq_false (by omega)]; rfl
    · by_cases h2 : (xs[i]).f1 ≥ (xs[i]).f2
      · rw [if_pos h0, if_neg h1, if_pos h2, decide_eq_false (by omega)]; rfl
      · rw [if_pos h0, if_neg h1, if_neg h2]
        congr 1
        rw [← decide_not, decide_eq_decide]
        omega
  · rw [if_neg h0, decide_eq_false (by omega)]; rfl
theorem spec_l1_step (xs ys : List S77) (hy : ys.length ≤ 1048576) (i : Int) (x : S77) (j : Nat) (hj : j < ys.length) (k : Nat) :
    spec_l16Good.l1 (k+1) xs xs (xs.length : Int) i ys (ys.length : Int) (j : Int) x.f0 x.f1 x.f2 x.f3 x.f4 = if meets x ys[j] = true then some false else spec_l16Good.l1 k xs xs (xs.length : Int) i ys (ys.length : Int) ((j + 1 : Nat) : Int) x.f0 x.f1 x.f2 x.f3 x.f4 := by
  simp only [spec_l16Good.l1]
  rw [if_pos (by omega), if_pos (by omega), if_pos (by omega), rd92 ys j hj, wrap_id (n := (j : Int) + 1) (by omega) (by omega)]
  unfold meets
  simp only [decide_eq_true_eq]
  by_cases h0 : x.f0 = (ys[j]).f0 <;> by_cases h1 : x.f2 ≥ (ys[j]).f1 <;> by_cases h2 : (ys[j]).f2 ≥ x.f1 <;> simp only [h0, h1, h2, if_true, if_false, true_and, and_true, false_and, and_false] <;> rfl
theorem impl_l1_step (xs ys : List S77) (hy : ys.length ≤ 1048576) (i : Int) (x : S77) (j : Nat) (hj : j < ys.length) (k : Nat) :
    impl_GoodHistory.l1 (k+1) xs xs (xs.length : Int) i ys (ys.length : Int) (j : Int) x.f0 x.f1 x.f2 x.f3 x.f4 = if meets x ys[j] = true then some false else impl_GoodHistory.l1 k xs xs (xs.length : Int) i ys (ys.length : Int) ((j + 1 : Nat) : Int) x.f0 x.f1 x.f2 x.f3 x.f4 := by
  simp only [impl_GoodHistory.l1]
  rw [if_pos (by omega), if_pos (by omega), if_pos (by omega), rd92 ys j hj, wrap_id (n := (j : Int) + 1) (by omega) (by omega)]
  unfold meets
  simp only [decide_eq_true_eq]
  have e : ((ys[j]).f0 = x.f0) = (x.f0 = (ys[j]).f0) := propext ⟨Eq.symm, Eq.symm⟩
  simp only [e]
  by_cases h0 : x.f0 = (ys[j]).f0 <;> by_cases h1 : x.f2 ≥ (ys[j]).f1 <;> by_cases h2 : (ys[j]).f2 ≥ x.f1 <;> simp only [h0, h1, h2, if_true, if_false, true_and, and_true, false_and, and_false] <;> rfl
/-- What both loops come to, from call i on. -/
def goodR (xs : List S77) : Nat → Nat → Bool
  | 0, _ => decide ((xs.length : Int) ≤ 8)
  | d + 1, i => if badC (xs.getD i z77) = true then false else if (xs.take i).any (meets (xs.getD i z77)) = true then false else goodR xs d (i + 1)
theorem inner_spec (xs ys : List S77) (hy : ys.length ≤ 1048576) (i : Int) (x : S77) (r : Bool) (h : Ev (fun k => spec_l16Good.l0 k xs xs (xs.length : Int) (wrap64 (i + 1))) r) : ∀ d j : Nat, j + d = ys.length →
    Ev (fun k => spec_l16Good.l1 k xs xs (xs.length : Int) i ys (ys.length : Int) (j : Int) x.f0 x.f1 x.f2 x.f3 x.f4) (if (ys.drop j).any (meets x) = true then false else r)
  | 0, j, e => by
    rw [List.drop_eq_nil_of_le (by omega), List.any_nil, if_neg (by simp)]
    refine Ev.step (fun k => ?_) h
    simp only [spec_l16Good.l1]; rw [if_neg (by omega)]
  | d + 1, j, e => by
    have hj : j < ys.length := by omega
    rw [List.drop_eq_getElem_cons hj, List.any_cons]
    refine Ev.step (spec_l1_step xs ys hy i x j hj) ?_
    cases hm : meets x ys[j] with
    | true => rw [Bool.true_or, if_pos rfl]; exact Ev.ite_pos rfl (Ev.now _)
    | false => rw [Bool.false_or]; exact Ev.ite_neg (by simp) (inner_spec xs ys hy i x r h d (j + 1) (by omega))
theorem inner_impl (xs ys : List S77) (hy : ys.length ≤ 1048576) (i : Int) (x : S77) (r : Bool) (h : Ev (fun k => impl_GoodHistory.l0 k xs xs (xs.length : Int) (wrap64 (i + 1))) r) : ∀ d j : Nat, j + d = ys.length →
    Ev (fun k => impl_GoodHistory.l1 k xs xs (xs.length : Int) i ys (ys.length : Int) (j : Int) x.f0 x.f1 x.f2 x.f3 x.f4) (if (ys.drop j).any (meets x) = true then false else r)
  | 0, j, e => by
    rw [List.drop_eq_nil_of_le (by omega), List.any_nil, if_neg (by simp)]
    refine Ev.step (fun k => ?_) h
    simp only [impl_GoodHistory.l1]; rw [if_neg (by omega)]
  | d + 1, j, e => by
    have hj : j < ys.length := by omega
    rw [List.drop_eq_getElem_cons hj, List.any_cons]
    refine Ev.step (impl_l1_step xs ys hy i x j hj) ?_
    cases hm : meets x ys[j] with
    | true => rw [Bool.true_or, if_pos rfl]; exact Ev.ite_pos rfl (Ev.now _)
    | false => rw [Bool.false_or]; exact Ev.ite_neg (by simp) (inner_impl xs ys hy i x r h d (j + 1) (by omega))
theorem outer_spec (xs : List S77) (hx : xs.length ≤ 1048576) : ∀ d i : Nat, i + d = xs.length → Ev (fun k => spec_l16Good.l0 k xs xs (xs.length : Int) (i : Int)) (goodR xs d i)
  | 0, i, h => by
    refine Ev.step (f := fun _ => some (decide ((xs.length : Int) ≤ 8))) (fun k => ?_) (Ev.now _)
    simp only [spec_l16Good.l0]; rw [if_neg (by omega)]
  | d + 1, i, h => by
    have hi : i < xs.length := by omega
    have eg : xs.getD i z77 = xs[i] := by simp [hi]
    unfold goodR
    rw [eg]
    refine Ev.step (spec_l0_step xs hx i hi) ?_
    cases hb : badC xs[i] with
    | true =>
      refine Ev.step (f := fun _ => some false) (fun k => ?_) (Ev.now _)
      simp only [spec_l16Good.j1]; rw [if_pos trivial]
    | false =>
      have hl : (xs.take i).length = i := by simp; omega
      have ih := outer_spec xs hx d (i + 1) (by omega)
      have q := inner_spec xs (xs.take i) (by omega) (i : Int) xs[i] (goodR xs d (i + 1)) (by rw [wrap_id (n := (i : Int) + 1) (by omega) (by omega)]; exact ih) i 0 (by omega)
      rw [List.drop_zero] at q
      rw [if_neg (by simp)]
      refine Ev.step (fun k => ?_) q
      simp only [spec_l16Good.j1]
      rw [if_neg (by simp), if_pos (by omega), if_pos (by omega), Int.toNat_natCast, Option.bind_some]
      rfl
theorem outer_impl (xs : List S77) (hx : xs.length ≤ 1048576) : ∀ d i : Nat, i + d = xs.length → Ev (fun k => impl_GoodHistory.l0 k xs xs (xs.length : Int) (i : Int)) (goodR xs d i)
  | 0, i, h => by
    refine Ev.step (f := fun _ => some (decide ((xs.length : Int) ≤ 8))) (fun k => ?_) (Ev.now _)
    simp only [impl_GoodHistory.l0]; rw [if_neg (by omega)]
  | d + 1, i, h => by
    have hi : i < xs.length := by omega
    have eg : xs.getD i z77 = xs[i] := by simp [hi]
    unfold goodR
    rw [eg]
    refine Ev.step (impl_l0_step xs hx i hi) ?_
    cases hb : badC xs[i] with
    | true =>
      refine Ev.step (f := fun _ => some false) (fun k => ?_) (Ev.now _)
      simp only [impl_GoodHistory.j1]; rw [if_pos trivial]
    | false =>
      have hl : (xs.take i).length = i := by simp; omega
      have ih := outer_impl xs hx d (i + 1) (by omega)
      have q := inner_impl xs (xs.take i) (by omega) (i : Int) xs[i] (goodR xs d (i + 1)) (by rw [wrap_id (n := (i : Int) + 1) (by omega) (by omega)]; exact ih) i 0 (by omega)
      rw [List.drop_zero] at q
      rw [if_neg (by simp)]
      refine Ev.step (fun k => ?_) q
      simp only [impl_GoodHistory.j1]
      rw [if_neg (by simp), if_pos (by omega), if_pos (by omega), Int.toNat_natCast, Option.bind_some]
      rfl
def goodH (xs : List S77) : Bool := goodR xs xs.length 0
theorem spec_good (xs : List S77) (hx : xs.length ≤ 1048576) : Ev (fun k => spec_l16Good.f k xs) (goodH xs) := outer_spec xs hx xs.length 0 (by omega)
theorem impl_good (xs : List S77) (hx : xs.length ≤ 1048576) : Ev (fun k => impl_GoodHistory.f k xs) (goodH xs) := outer_impl xs hx xs.length 0 (by omega)
theorem sameFloat_ev {x y : Nat} (hx : x < 18446744073709551616) (hy : y < 18446744073709551616) : Ev (fun k => laws_sameFloat.f k x y) (if isNan x = true then isNan y else decide (isNan y = false ∧ x = y)) := by
  simp only [laws_sameFloat.f, feq_self]
  cases hn : isNan x with
  | true =>
    rw [if_pos rfl]
    refine Ev.ite_neg (by simp) (Ev.step (f := fun _ => some (isNan y)) (fun k => ?_) (Ev.now _))
    simp only [laws_sameFloat.j0, feq_self, hn]; rw [if_pos trivial, if_neg (by simp)]; cases isNan y <;> rfl
  | false =>
    rw [if_neg (by simp)]
    refine Ev.ite_pos rfl ?_
    refine Ev.step (f := fun _ => some (decide (isNan y = false ∧ x = y))) (fun k => ?_) (Ev.now _)
    simp only [laws_sameFloat.j0, feq_self, hn]
    cases hm : isNan y with
    | true => simp
    | false =>
      rw [if_neg (by simp), feq_eq hn nan_zero, feq_eq hm nan_zero, feq_eq hn hm, key_zero]
      simp only [decide_eq_true_eq, true_and]
      by_cases h0 : key x = 0
      · rw [if_pos h0]
        by_cases h1 : key y = 0
        · rw [if_pos h1]
          rcases zero_cases hx (key_rg_zero.mp h0) with rfl | rfl <;> rcases zero_cases hy (key_rg_zero.mp h1) with rfl | rfl
          · rw [if_pos inv_pz.1, if_pos inv_pz.1, inv_pz.2.2]; rfl
          · rw [if_pos inv_pz.1, if_pos inv_nz.1, inv_pz.2.2, inv_nz.2.2]; rfl
          · rw [if_pos inv_nz.1, if_pos inv_pz.1, inv_pz.2.2, inv_nz.2.2]; rfl
          · rw [if_pos inv_nz.1, if_pos inv_nz.1, inv_nz.2.2]; rfl
        · rw [if_neg h1]
          congr 1
          rw [decide_eq_decide]
          exact ⟨fun q => absurd (q ▸ h0) h1, fun q => by rw [q]⟩
      · rw [if_neg h0]
        congr 1
        rw [decide_eq_decide]
        exact ⟨fun q => key_inj hx hy (fun z => h0 (key_rg_zero.mpr z)) q, fun q => by rw [q]⟩
theorem sameFloat_refl (x : Nat) (hx : x < 18446744073709551616) : Ev (fun k => laws_sameFloat.f k x x) true := by
  have h := sameFloat_ev hx hx
  cases hn : isNan x <;> rw [hn] at h <;> simpa using h
def cvC (x : S79) : S77 := ⟨x.f0, x.f1, x.f2, x.f3, x.f4⟩
theorem toCallS_ev (xs : List S79) (hx : xs.length ≤ 1048576) : Ev (fun k => laws_toCallS.f k xs) (xs.map cvC) := by
  refine Ev.congr (fun k => ?_) (ev_map_all (fun k acc i => laws_toCallS.l0 k xs acc i) xs cvC z79 z77 (fun i acc r hi ha h => ?_) (fun acc ha => ?_))
  · simp only [laws_toCallS.f]
    rw [if_pos (by omega), if_pos (by simp only [Int.toNat_natCast]; omega)]
    simp only [Int.toNat_natCast]
  · refine Ev.step (fun k => ?_) h
    simp only [laws_toCallS.l0, laws_toCall.f, Option.bind_some]
    rw [if_pos (by omega), if_pos (by omega), if_pos (by omega), wrap_id (n := (i : Int) + 1) (by omega) (by omega)]
    rfl
  · refine Ev.step (f := fun _ => some acc) (fun k => ?_) (Ev.now _)
    simp only [laws_toCallS.l0]; rw [if_neg (by omega)]
theorem eqCall_refl (x : S77) (hx : x.f4 < 18446744073709551616) : Ev (fun k => laws_eqCall.f k x.f0 x.f1 x.f2 x.f3 x.f4 x.f0 x.f1 x.f2 x.f3 x.f4) true := by
  simp only [laws_eqCall.f]
  exact Ev.ite_pos trivial (Ev.ite_pos trivial (Ev.ite_pos trivial (Ev.ite_neg (by simp) (Ev.bind (sameFloat_refl x.f4 hx) (Ev.ite_pos rfl (Ev.now _))))))
theorem eqCallS_ev (xs : List S77) (hx : xs.length ≤ 1048576) (hf : ∀ x ∈ xs, x.f4 < 18446744073709551616) : Ev (fun k => laws_eqCallS.f k xs xs) true := by
  have h := ev_up (fun k i => laws_eqCallS.l0 k xs xs i) xs.length true (fun i hi h => ?_) ?_ xs.length 0 (by omega)
  · refine Ev.congr (fun k => ?_) h
    simp only [laws_eqCallS.f]; rw [if_pos trivial]; rfl
  · have hr : rd_T77 xs (i : Int) = xs[i] := by simp [rd_T77, hi]
    refine Ev.step (f := fun k => (laws_eqCall.f k (xs[i]).f0 (xs[i]).f1 (xs[i]).f2 (xs[i]).f3 (xs[i]).f4 (xs[i]).f0 (xs[i]).f1 (xs[i]).f2 (xs[i]).f3 (xs[i]).f4).bind fun t => if t = true then laws_eqCallS.l0 k xs xs ((i + 1 : Nat) : Int) else some false) (fun k => ?_) (Ev.bind (eqCall_refl _ (hf _ (List.getElem_mem _))) (Ev.ite_pos rfl h))
    simp only [laws_eqCallS.l0]
    rw [if_pos (by omega), if_pos (by omega), if_pos (by omega), wrap_id (n := (i : Int) + 1) (by omega) (by omega), hr]
    rfl
  · refine Ev.step (f := fun _ => some true) (fun k => ?_) (Ev.now _)
    simp only [laws_eqCallS.l0]; rw [if_neg (by omega)]
theorem szCallS_eq (ys : List S79) (hb : ys.length * 40 ≤ 140737488351232) : laws_szCallS.f ys 1048576 = some (if 1048576 - (ys.length : Int) < 0 then -1 else 1048576 - (ys.length : Int)) := by
  simp only [laws_szCallS.f]
  rw [wrap_id (by omega) (by omega)]
  split <;> rfl
theorem callS_fl (ys : List S79) (h : okL ok79 ys) : ∀ x ∈ ys.map cvC, x.f4 < 18446744073709551616 := by
  intro x hx
  obtain ⟨y, hy, rfl⟩ := List.mem_map.mp hx
  exact (h.2 y hy).2.2.2.2
/-- The rows of marks that a law writes: n places, each taking c marks. -/
def marksC {α : Type} (m : Int → α) (c : Int) (a : Int) : Nat → List α
  | 0 => []
  | n + 1 => m a :: marksC m c (a + c) n
theorem marksC_length {α : Type} (m : Int → α) (c a : Int) (n : Nat) : (marksC m c a n).length = n := by
  induction n generalizing a with
  | zero => rfl
  | succ n ih => simp [marksC, ih]
theorem marksC_getD {α : Type} (m : Int → α) (z : α) (c a : Int) (n i : Nat) (h : i < n) : (marksC m c a n).getD i z = m (a + c * i) := by
  induction n generalizing a i with
  | zero => omega
  | succ n ih =>
    cases i with
    | zero => simp [marksC]
    | succ i =>
      have := ih (a + c) i (by omega)
      simp only [marksC, List.getD_cons_succ]
      rw [this]
      congr 1
      rw [Int.natCast_add, Int.mul_add]
      simp
      omega
/-- A loop that marks a row: m tells what is written, c how many marks a place takes. -/
theorem ev_mark {α : Type} (L : Nat → List α → Int → Int → Option (Int × List α)) (m : Int → α) (c : Int) (n : Nat) (lim : Int) (hc : 0 ≤ c)
    (hs : ∀ (i : Nat) (xs : List α) (a : Int) (r : Int × List α), i < n → xs.length = n → 0 ≤ a → a + c ≤ lim → Ev (fun k => L k (xs.set i (m a)) (a + c) ((i + 1 : Nat) : Int)) r → Ev (fun k => L k xs a (i : Int)) r)
    (he : ∀ (xs : List α) (a : Int), xs.length = n → Ev (fun k => L k xs a (n : Int)) (a, xs)) :
    ∀ (d i : Nat) (xs : List α) (a : Int), i + d = n → xs.length = n → 0 ≤ a → a + c * (d : Int) ≤ lim → Ev (fun k => L k xs a (i : Int)) (a + c * (d : Int), xs.take i ++ marksC m c a d)
  | 0, i, xs, a, h, hl, h0, h1 => by
    have e : xs.take i ++ marksC m c a 0 = xs := by rw [List.take_of_length_le (by omega), marksC, List.append_nil]
    rw [e]
    have : i = n := by omega
    subst this
    simpa using he xs a hl
  | d + 1, i, xs, a, h, hl, h0, h1 => by
    have hcd : c * ((d + 1 : Nat) : Int) = c + c * (d : Int) := by rw [Int.natCast_add, Int.mul_add]; simp; omega
    have hnn : 0 ≤ c * (d : Int) := Int.mul_nonneg hc (by omega)
    have ih := ev_mark L m c n lim hc hs he d (i + 1) (xs.set i (m a)) (a + c) (by omega) (by simpa using hl) (by omega) (by omega)
    have e : (xs.set i (m a)).take (i + 1) ++ marksC m c (a + c) d = xs.take i ++ marksC m c a (d + 1) := by
      rw [List.take_succ_eq_append_getElem (by simp; omega), List.getElem_set_self, List.take_set, List.set_eq_of_length_le (by simp; omega), List.append_assoc]
      rfl
    rw [e, show a + c + c * (d : Int) = a + c * ((d + 1 : Nat) : Int) from by omega] at ih
    exact hs i xs a _ (by omega) hl h0 (by omega) ih
theorem ev_mark_all {α : Type} (L : Nat → List α → Int → Int → Option (Int × List α)) (m : Int → α) (c : Int) (lim : Int) (hc : 0 ≤ c) (xs : List α)
    (hs : ∀ (i : Nat) (ys : List α) (a : Int) (r : Int × List α), i < xs.length → ys.length = xs.length → 0 ≤ a → a + c ≤ lim → Ev (fun k => L k (ys.set i (m a)) (a + c) ((i + 1 : Nat) : Int)) r → Ev (fun k => L k ys a (i : Int)) r)
    (he : ∀ (ys : List α) (a : Int), ys.length = xs.length → Ev (fun k => L k ys a (xs.length : Int)) (a, ys)) (a : Int) (h0 : 0 ≤ a) (h1 : a + c * (xs.length : Int) ≤ lim) :
    Ev (fun k => L k xs a 0) (a + c * (xs.length : Int), marksC m c a xs.length) := by
  have h := ev_mark L m c xs.length lim hc hs he xs.length 0 xs a (by omega) rfl h0 h1
  simpa using h
/-- A loop that asks whether the marks are held. -/
theorem ev_held (L : Nat → Int → Int → Option Int) (c : Int) (n : Nat) (lim : Int) (a : Int) (hc : 0 ≤ c) (h0 : 0 ≤ a) (h1 : a + c * (n : Int) ≤ lim)
    (hs : ∀ (i : Nat) (r : Int), i < n → a + c * (i : Int) + c ≤ lim → Ev (fun k => L k (a + c * (i : Int) + c) ((i + 1 : Nat) : Int)) r → Ev (fun k => L k (a + c * (i : Int)) (i : Int)) r)
    (he : Ev (fun k => L k (a + c * (n : Int)) (n : Int)) (a + c * (n : Int))) :
    ∀ (d i : Nat), i + d = n → Ev (fun k => L k (a + c * (i : Int)) (i : Int)) (a + c * (n : Int))
  | 0, i, h => by
    have : i = n := by omega
    subst this
    exact he
  | d + 1, i, h => by
    have e : c * ((i + 1 : Nat) : Int) = c * (i : Int) + c := by rw [Int.natCast_add, Int.mul_add]; simp
    have ih := ev_held L c n lim a hc h0 h1 hs he d (i + 1) (by omega)
    rw [e, ← Int.add_assoc] at ih
    have hle : c * ((i + 1 : Nat) : Int) ≤ c * (n : Int) := Int.mul_le_mul_of_nonneg_left (by omega) hc
    exact hs i _ (by omega) (by omega) ih
theorem ev_held_all (L : Nat → Int → Int → Option Int) (c : Int) (n : Nat) (lim : Int) (a : Int) (hc : 0 ≤ c) (h0 : 0 ≤ a) (h1 : a + c * (n : Int) ≤ lim)
    (hs : ∀ (i : Nat) (r : Int), i < n → a + c * (i : Int) + c ≤ lim → Ev (fun k => L k (a + c * (i : Int) + c) ((i + 1 : Nat) : Int)) r → Ev (fun k => L k (a + c * (i : Int)) (i : Int)) r)
    (he : Ev (fun k => L k (a + c * (n : Int)) (n : Int)) (a + c * (n : Int))) : Ev (fun k => L k a 0) (a + c * (n : Int)) := by
  have h := ev_held L c n lim a hc h0 h1 hs he n 0 (by omega)
  simpa using h
theorem markIntS_l0 (n : Nat) (hn : n ≤ 1048576) : ∀ (d i : Nat) (xs : List Int) (a : Int), i + d = n → xs.length = n → 0 ≤ a → a + (d : Int) ≤ 5000000000000000000 →
    Ev (fun k => laws_markIntS.l0 k xs a (i : Int)) (a + d, xs.take i ++ iota a d)
  | 0, i, xs, a, h, hl, h0, h1 => by
    have e : xs.take i ++ iota a 0 = xs := by rw [List.take_of_length_le (by omega), iota, List.append_nil]
    rw [e]
    refine Ev.step (f := fun _ => some (a, xs)) (fun k => ?_) ⟨0, fun _ _ => by simp⟩
    simp only [laws_markIntS.l0]
    rw [if_neg (by omega)]
  | d + 1, i, xs, a, h, hl, h0, h1 => by
    have ih := markIntS_l0 n hn d (i + 1) (xs.set i a) (a + 1) (by omega) (by simpa using hl) (by omega) (by omega)
    have e : (xs.set i a).take (i + 1) ++ iota (a + 1) d = xs.take i ++ iota a (d + 1) := by
      rw [List.take_succ_eq_append_getElem (by simp; omega), List.getElem_set_self, List.take_set, List.set_eq_of_length_le (by simp; omega), List.append_assoc]
      rfl
    rw [e, show a + 1 + (d : Int) = a + ((d + 1 : Nat) : Int) from by omega] at ih
    refine Ev.step (fun k => ?_) ih
    simp only [laws_markIntS.l0]
    rw [if_pos (by omega), if_pos (by omega), wrap_id (by omega) (by omega), wrap_id (by omega) (by omega)]
    rfl
theorem markIntS_ev (xs : List Int) (a : Int) (hn : xs.length ≤ 1048576) (h0 : 0 ≤ a) (h1 : a ≤ 4611686018427387000) : Ev (fun k => laws_markIntS.f k xs a) (a + xs.length, iota a xs.length) := by
  have h := markIntS_l0 xs.length hn xs.length 0 xs a (by omega) rfl h0 (by omega)
  simp only [List.take_zero, List.nil_append] at h
  exact h
theorem heldIntS_l0 (n : Nat) (hn : n ≤ 1048576) (a : Int) (h0 : 0 ≤ a) (h1 : a ≤ 4611686018427387000) : ∀ (d i : Nat), i + d = n →
    Ev (fun k => laws_heldIntS.l0 k (iota a n) (a + i) (i : Int)) (a + n)
  | 0, i, h => by
    obtain rfl : i = n := by omega
    refine Ev.step (f := fun _ => some (a + (i : Int))) (fun k => ?_) (Ev.now _)
    simp only [laws_heldIntS.l0, iota_length]
    rw [if_neg (by omega)]
  | d + 1, i, h => by
    refine Ev.step (fun k => ?_) (heldIntS_l0 n hn a h0 h1 d (i + 1) (by omega))
    simp only [laws_heldIntS.l0, iota_length]
    rw [if_pos (by omega), if_pos (by omega), if_pos (by rw [rd_nat, iota_getD _ _ _ (by omega)]), wrap_id (by omega) (by omega), wrap_id (by omega) (by omega), show a + (i : Int) + 1 = a + ((i + 1 : Nat) : Int) from by omega]
    rfl
theorem heldIntS_ev (n : Nat) (a : Int) (hn : n ≤ 1048576) (h0 : 0 ≤ a) (h1 : a ≤ 4611686018427387000) : Ev (fun k => laws_heldIntS.f k (iota a n) a) (a + n) := by
  have h := heldIntS_l0 n hn a h0 h1 n 0 (by omega)
  simp only [Int.ofNat_zero, Int.add_zero, Int.natCast_zero] at h
  exact h
theorem eqIntS_l0 (xs : List Int) (hx : xs.length ≤ 1048576) : ∀ (d i : Nat), i + d = xs.length → Ev (fun k => laws_eqIntS.l0 k xs xs (i : Int)) true
  | 0, i, h => by
    refine Ev.step (f := fun _ => some true) (fun k => ?_) (Ev.now _)
    simp only [laws_eqIntS.l0]
    rw [if_neg (by omega)]
  | d + 1, i, h => by
    refine Ev.step (fun k => ?_) (eqIntS_l0 xs hx d (i + 1) (by omega))
    simp only [laws_eqIntS.l0]
    rw [if_pos (by omega), if_pos (by omega), if_pos (by omega), if_pos trivial, wrap_id (by omega) (by omega)]
    rfl
theorem eqIntS_ev (xs : List Int) (hx : xs.length ≤ 1048576) : Ev (fun k => laws_eqIntS.f k xs xs) true := by
  refine Ev.congr (fun k => ?_) (eqIntS_l0 xs hx xs.length 0 (by omega))
  simp only [laws_eqIntS.f]
  rw [if_pos trivial]
  rfl
theorem has_loop (n : Int) (xs : List Int) (hx : xs.length ≤ 1048576) : ∀ d i : Nat, i + d = xs.length → Ev (fun k => spec_l1Has.l0 k n xs (xs.length : Int) (i : Int)) (decide (n ∈ xs.drop i))
  | 0, i, h => by
    rw [List.drop_eq_nil_of_le (by omega)]
    refine Ev.step (f := fun _ => some (decide (n ∈ ([] : List Int)))) (fun k => ?_) (Ev.now _)
    simp only [spec_l1Has.l0]; rw [if_neg (by omega)]; simp
  | d + 1, i, h => by
    have hi : i < xs.length := by omega
    rw [List.drop_eq_getElem_cons hi]
    have hst : ∀ k, spec_l1Has.l0 (k+1) n xs (xs.length : Int) (i : Int) = if xs[i] = n then some true else spec_l1Has.l0 k n xs (xs.length : Int) ((i + 1 : Nat) : Int) := by
      intro k
      simp only [spec_l1Has.l0]
      rw [if_pos (by omega), if_pos (by omega), if_pos (by omega), rd_nat, wrap_id (n := (i : Int) + 1) (by omega) (by omega)]
      have : xs.getD i 0 = xs[i] := by simp [hi]
      rw [this]
      rfl
    by_cases he : xs[i] = n
    · rw [decide_eq_true (by rw [he]; exact List.mem_cons_self)]
      exact Ev.step hst (Ev.ite_pos he (Ev.now _))
    · have e1 : decide (n ∈ xs[i] :: xs.drop (i + 1)) = decide (n ∈ xs.drop (i + 1)) := by
        rw [decide_eq_decide, List.mem_cons]
        exact ⟨fun q => q.elim (fun q => absurd q.symm he) id, .inr⟩
      rw [e1]
      exact Ev.step hst (Ev.ite_neg he (has_loop n xs hx d (i + 1) (by omega)))
theorem has_ev (xs : List Int) (hx : xs.length ≤ 1048576) (n : Int) : Ev (fun k => spec_l1Has.f k xs n) (decide (n ∈ xs)) := by
  have h := has_loop n xs hx xs.length 0 (by omega)
  rwa [List.drop_zero] at h
theorem idx_loop (n : Int) (xs : List Int) (hx : xs.length ≤ 1048576) : ∀ d i : Nat, i + d = xs.length → ∃ r : Int, Ev (fun k => slices_Index_int_int.l0 k xs n (xs.length : Int) (i : Int)) r ∧ decide (r ≥ 0) = decide (n ∈ xs.drop i)
  | 0, i, h => by
    rw [List.drop_eq_nil_of_le (by omega)]
    refine ⟨-1, Ev.step (f := fun _ => some (-1)) (fun k => ?_) (Ev.now _), by simp⟩
    simp only [slices_Index_int_int.l0]; rw [if_neg (by omega)]
  | d + 1, i, h => by
    have hi : i < xs.length := by omega
    rw [List.drop_eq_getElem_cons hi]
    have hst : ∀ k, slices_Index_int_int.l0 (k+1) xs n (xs.length : Int) (i : Int) = if n = xs[i] then some (i : Int) else slices_Index_int_int.l0 k xs n (xs.length : Int) ((i + 1 : Nat) : Int) := by
      intro k
      simp only [slices_Index_int_int.l0]
      rw [if_pos (by omega), if_pos (by omega), if_pos (by omega), rd_nat, wrap_id (n := (i : Int) + 1) (by omega) (by omega)]
      have : xs.getD i 0 = xs[i] := by simp [hi]
      rw [this]
      rfl
    by_cases he : n = xs[i]
    · refine ⟨(i : Int), Ev.step hst (Ev.ite_pos he (Ev.now _)), ?_⟩
      rw [decide_eq_true (by omega), decide_eq_true (by rw [he]; exact List.mem_cons_self)]
    · obtain ⟨r, h1, h2⟩ := idx_loop n xs hx d (i + 1) (by omega)
      refine ⟨r, Ev.step hst (Ev.ite_neg he h1), ?_⟩
      rw [h2, decide_eq_decide, List.mem_cons]
      exact ⟨.inr, fun q => q.elim (fun q => absurd q he) id⟩
theorem contains_ev (xs : List Int) (hx : xs.length ≤ 1048576) (n : Int) : Ev (fun k => slices_Contains_int_int.f k xs n) (decide (n ∈ xs)) := by
  obtain ⟨r, h1, h2⟩ := idx_loop n xs hx xs.length 0 (by omega)
  rw [List.drop_zero] at h2
  rw [← h2]
  simp only [slices_Contains_int_int.f, slices_Index_int_int.f]
  exact Ev.bind h1 (Ev.now _)
theorem own_eq (xs : List Int) (hx : xs.length ≤ 1048576) : spec_l1Own.f xs = some xs := by
  simp only [spec_l1Own.f, Option.bind_some]; rw [if_pos (by simp; omega)]; rfl
theorem cloneI_eq (xs : List Int) (hx : xs.length ≤ 1048576) : slices_Clone_int_int.f xs = some xs := by
  simp only [slices_Clone_int_int.f, Option.bind_some]; rw [if_pos (by simp; omega)]; rfl
theorem clone_fl (L : List Nat) (h : L.length ≤ 1048576) : slices_Clone_float64_float64.f L = some L := by
  simp only [slices_Clone_float64_float64.f, Option.bind_some]; rw [if_pos (by simp; omega)]; rfl
theorem nan_quo : fdivOk 0 0 = false := by kernel_rfl
def flL (x : List Nat) : Prop := ∀ a ∈ x, a < 18446744073709551616
theorem flL.snoc {x : List Nat} {a : Nat} (h : flL x) (ha : a < 18446744073709551616) : flL (x ++ [a]) := fun b hb => by
  rcases List.mem_append.mp hb with q | q
  · exact h b q
  · rw [List.mem_singleton.mp q]; exact ha
/-! ### an object, played -/
def vOf (L : List Nat) (c : S77) : Nat := if c.f3 = true then c.f4 else if L = [] then 9221120237041090561 else L.getD 0 0
def stOf (kind : Int) (L : List Nat) (c : S77) : List Nat := if c.f3 = true then (if kind = 1 then [c.f4] else L ++ [c.f4]) else if kind = 1 then L else L.drop 1
def told (kind : Int) : List Nat → List S77 → List Nat
  | _, [] => []
  | L, c :: r => vOf L c :: told kind (stOf kind L c) r
def stAll (kind : Int) : List Nat → List S77 → List Nat
  | L, [] => L
  | L, c :: r => stAll kind (stOf kind L c) r
theorem told_snoc (kind : Int) (c : S77) : ∀ (cs : List S77) (L : List Nat), told kind L (cs ++ [c]) = told kind L cs ++ [vOf (stAll kind L cs) c]
  | [], L => rfl
  | d :: cs, L => by
    simp only [List.cons_append, told, stAll, told_snoc kind c cs]
theorem stAll_snoc (kind : Int) (c : S77) : ∀ (cs : List S77) (L : List Nat), stAll kind L (cs ++ [c]) = stOf kind (stAll kind L cs) c
  | [], L => rfl
  | d :: cs, L => by
    simp only [List.cons_append, stAll, stAll_snoc kind c cs]
theorem told_len (kind : Int) : ∀ (cs : List S77) (L : List Nat), (told kind L cs).length = cs.length
  | [], L => rfl
  | d :: cs, L => by simp only [told, List.length_cons, told_len kind cs]
/-- What an object may hold. -/
structure OkL (kind : Int) (n : Nat) (L : List Nat) : Prop where
  fl : flL L
  one : kind = 1 → L ≠ []
  le : L.length ≤ n + 1
theorem OkL.step {kind : Int} {n : Nat} {L : List Nat} (h : OkL kind n L) (c : S77) (hc : c.f4 < 18446744073709551616) : OkL kind (n + 1) (stOf kind L c) := by
  have hl := h.le
  unfold stOf
  split
  · split
    · exact ⟨fun a ha => by rw [List.mem_singleton.mp ha]; exact hc, fun _ => by simp, by simp⟩
    · rename_i hk
      exact ⟨h.fl.snoc hc, fun q => absurd q hk, by simp; omega⟩
  · split
    · exact ⟨h.fl, h.one, by omega⟩
    · rename_i hk
      exact ⟨fun a ha => h.fl a (List.mem_of_mem_drop ha), fun q => absurd q hk, by simp; omega⟩
theorem OkL.v {kind : Int} {n : Nat} {L : List Nat} (h : OkL kind n L) (c : S77) (hc : c.f4 < 18446744073709551616) : vOf L c < 18446744073709551616 := by
  unfold vOf
  split
  · exact hc
  · split
    · decide
    · rename_i hL
      cases L with
      | nil => exact absurd rfl hL
      | cons x r => exact h.fl x List.mem_cons_self
theorem play_ev (kind : Int) (hk : kind = 1 ∨ kind = 2) (n : Nat) (hn : n ≤ 1000) (L : List Nat) (h : OkL kind n L) (c : S77) :
    Ev (fun k => impl_object_play.f k kind L c.f0 c.f1 c.f2 c.f3 c.f4) (vOf L c, kind, stOf kind L c) := by
  have hl := h.le
  have hnan : math_NaN.f = some 9221120237041090561 := by kernel_rfl
  unfold vOf stOf
  by_cases hp : c.f3 = true
  · simp only [hp, if_true]
    rcases hk with rfl | rfl
    · refine Ev.step (f := fun _ => some (c.f4, 1, [c.f4])) (fun k => ?_) (Ev.now _)
      simp only [impl_object_play.f, impl_object_play.j0]; rw [if_pos trivial, if_pos trivial]
    · refine Ev.step (f := fun _ => some (c.f4, 2, L ++ [c.f4])) (fun k => ?_) (Ev.now _)
      simp only [impl_object_play.f, impl_object_play.j0, clone_fl L (by omega), Option.bind_some]; rw [if_neg (by omega), if_neg (by simp), if_neg (by omega), if_pos trivial, if_pos (by simp; omega)]
  · have hp' : c.f3 = false := by simpa using hp
    simp only [hp', Bool.false_eq_true, if_false]
    rcases hk with rfl | rfl
    · have h1 := h.one rfl
      have h0 : 0 < (L.length : Int) := by have := List.length_pos_iff.2 h1; omega
      rw [if_neg h1, if_pos rfl]
      refine Ev.step (f := fun _ => some (L.getD 0 0, 1, L)) (fun k => ?_) (Ev.now _)
      simp only [impl_object_play.f, impl_object_play.j0]; rw [if_pos trivial, if_neg (by simp), if_pos trivial, if_pos h0]; rfl
    · rw [if_neg (show ¬ (2 : Int) = 1 by decide)]
      by_cases he : L = []
      · subst he
        refine Ev.step (f := fun _ => some (9221120237041090561, 2, [])) (fun k => ?_) (Ev.now _)
        simp only [impl_object_play.f, impl_object_play.j0, hnan, Option.bind_some]; rw [if_neg (by omega), if_neg (by simp), if_neg (by omega), if_neg (by simp), if_pos (by simp)]
      · have h0 := List.length_pos_iff.2 he
        rw [if_neg he]
        refine Ev.step (f := fun _ => some (L.getD 0 0, 2, L.drop 1)) (fun k => ?_) (Ev.now _)
        simp only [impl_object_play.f, impl_object_play.j0]; rw [if_neg (by omega), if_neg (by simp), if_neg (by omega), if_neg (by simp), if_neg (by omega), if_pos (by omega), if_pos (by omega)]; rfl
theorem splay_loop (kind : Int) (hk : kind = 1 ∨ kind = 2) (hs : List S77) (xs : List Int) (hb : ∀ x ∈ xs, 0 ≤ x ∧ x < (hs.length : Int)) (hl : xs.length ≤ 1000) :
    ∀ (d i : Nat) (x7 x8 : List Nat) (x9 : Nat) (L : List Nat), i + d = xs.length → x7.length = i → x8.length ≤ i → (kind = 1 → L = [x9]) → (kind = 2 → L = x8) →
    Ev (fun k => spec_l16Play.l0 k kind hs x7 x8 x9 xs (xs.length : Int) (i : Int)) (x7 ++ told kind L ((xs.drop i).map (rd_T77 hs)))
  | 0, i, x7, x8, x9, L, h, h7, h8, k1, k2 => by
    rw [List.drop_eq_nil_of_le (by omega), List.map_nil, told, List.append_nil]
    refine Ev.step (f := fun _ => some x7) (fun k => ?_) (Ev.now _)
    simp only [spec_l16Play.l0]; rw [if_neg (by omega)]
  | d + 1, i, x7, x8, x9, L, h, h7, h8, k1, k2 => by
    have hi : i < xs.length := by omega
    have e0 : rd xs (i : Int) = xs[i] := by rw [rd_nat]; simp [hi]
    obtain ⟨b0, b1⟩ := hb xs[i] (List.getElem_mem hi)
    have hw : wrap64 ((i : Int) + 1) = ((i + 1 : Nat) : Int) := by rw [wrap_id] <;> omega
    rw [List.drop_eq_getElem_cons hi, List.map_cons, told]
    have sstep : ∀ k, spec_l16Play.l0 (k + 1) kind hs x7 x8 x9 xs (xs.length : Int) (i : Int) = if (rd_T77 hs xs[i]).f3 = true then spec_l16Play.l0 k kind hs (x7 ++ [(rd_T77 hs xs[i]).f4]) (x8 ++ [(rd_T77 hs xs[i]).f4]) (rd_T77 hs xs[i]).f4 xs (xs.length : Int) ((i + 1 : Nat) : Int) else if kind = 1 then spec_l16Play.l0 k kind hs (x7 ++ [x9]) x8 x9 xs (xs.length : Int) ((i + 1 : Nat) : Int) else if (x8.length : Int) = 0 then spec_l16Play.l0 k kind hs (x7 ++ [9221120237041090561]) x8 x9 xs (xs.length : Int) ((i + 1 : Nat) : Int) else spec_l16Play.l0 k kind hs (x7 ++ [rdOf (0 : Nat) x8 0]) (x8.drop 1) x9 xs (xs.length : Int) ((i + 1 : Nat) : Int) := by
      intro k
      simp only [spec_l16Play.l0, e0, hw]
      rw [if_pos (by omega), if_pos (by omega), if_pos (by omega), if_pos b0, if_pos b1]
      simp only [if_pos (show x8.length < 17592186044416 by omega), if_pos (show x7.length < 17592186044416 by omega), if_pos nan_quo]
      by_cases c : (x8.length : Int) = 0
      · rw [if_pos c, if_pos c]
      · rw [if_neg c, if_neg c, if_pos (show 0 < (x8.length : Int) by omega), if_pos (show 1 ≤ (x8.length : Int) by omega)]; rfl
    generalize rd_T77 hs xs[i] = c at sstep
    have fin : ∀ (x7' x8' : List Nat) (x9' : Nat) (L' : List Nat), x7' = x7 ++ [vOf L c] → L' = stOf kind L c → x8'.length ≤ i + 1 → (kind = 1 → L' = [x9']) → (kind = 2 → L' = x8') →
        Ev (fun k => spec_l16Play.l0 k kind hs x7' x8' x9' xs (xs.length : Int) ((i + 1 : Nat) : Int)) (x7 ++ vOf L c :: told kind (stOf kind L c) ((xs.drop (i + 1)).map (rd_T77 hs))) := by
      intro x7' x8' x9' L' e7 eL l8 q1 q2
      have ih := splay_loop kind hk hs xs hb hl d (i + 1) x7' x8' x9' L' (by omega) (by rw [e7]; simp [h7]) l8 q1 q2
      rw [e7, eL, List.append_assoc] at ih
      rw [e7]
      exact ih
    by_cases hp : c.f3 = true
    · refine Ev.step (fun k => by rw [sstep, if_pos hp]) (fin (x7 ++ [c.f4]) (x8 ++ [c.f4]) c.f4 (stOf kind L c) ?_ rfl (by simp; omega) ?_ ?_)
      · unfold vOf; rw [if_pos hp]
      · intro q; unfold stOf; rw [if_pos hp, if_pos q]
      · intro q; unfold stOf; rw [if_pos hp, if_neg (by omega), k2 q]
    · rcases hk with rfl | rfl
      · have hL := k1 rfl
        refine Ev.step (fun k => by rw [sstep, if_neg hp, if_pos rfl]) (fin (x7 ++ [x9]) x8 x9 (stOf 1 L c) ?_ rfl (by omega) ?_ (fun q => by omega))
        · unfold vOf; rw [if_neg hp, hL]; rfl
        · intro _; unfold stOf; rw [if_neg hp, if_pos rfl, hL]
      · have hL := k2 rfl
        by_cases ce : (x8.length : Int) = 0
        · have he : L = [] := by rw [hL]; exact List.eq_nil_of_length_eq_zero (by omega)
          refine Ev.step (fun k => by rw [sstep, if_neg hp, if_neg (by omega), if_pos ce]) (fin (x7 ++ [9221120237041090561]) x8 x9 (stOf 2 L c) ?_ rfl (by omega) (fun q => by omega) ?_)
          · unfold vOf; rw [if_neg hp, if_pos he]
          · intro _; unfold stOf; rw [if_neg hp, if_neg (by omega), ← hL, he]; rfl
        · have he : L ≠ [] := by rw [hL]; intro q; rw [q] at ce; simp at ce
          refine Ev.step (fun k => by rw [sstep, if_neg hp, if_neg (by omega), if_neg ce]) (fin (x7 ++ [rdOf (0 : Nat) x8 0]) (x8.drop 1) x9 (stOf 2 L c) ?_ rfl (by simp; omega) (fun q => by omega) ?_)
          · unfold vOf; rw [if_neg hp, if_neg he, hL]; rfl
          · intro _; unfold stOf; rw [if_neg hp, if_neg (by omega), hL]
def L0 (kind : Int) : List Nat := if kind = 1 then [0] else []
theorem L0_ok (kind : Int) : OkL kind 0 (L0 kind) := by
  unfold L0
  split
  · exact ⟨fun a ha => by rw [List.mem_singleton.mp ha]; decide, fun _ => by simp, by simp⟩
  · rename_i hk
    exact ⟨fun a ha => by simp at ha, fun q => absurd q hk, by simp⟩
theorem splay_ev (kind : Int) (hk : kind = 1 ∨ kind = 2) (hs : List S77) (xs : List Int) (hb : ∀ x ∈ xs, 0 ≤ x ∧ x < (hs.length : Int)) (hl : xs.length ≤ 1000) : Ev (fun k => spec_l16Play.f k kind hs xs) (told kind (L0 kind) (xs.map (rd_T77 hs))) := by
  have h := splay_loop kind hk hs xs hb hl xs.length 0 [] [] 0 (L0 kind) (by omega) rfl (by simp) (fun q => by unfold L0; rw [if_pos q]) (fun q => by unfold L0; rw [if_neg (by omega)])
  rw [List.drop_zero, List.nil_append] at h
  exact h
theorem new_ev (kind : Int) : impl_newObject.f kind = some (kind, L0 kind) := by
  unfold impl_newObject.f L0
  split <;> rfl
/-! ### the orders -/
def anyF (p : Nat → Bool) : Nat → Nat → Bool
  | 0, _ => false
  | d + 1, i => if p i = true then true else anyF p d (i + 1)
theorem anyF_congr (p q : Nat → Bool) : ∀ d i, (∀ j, i ≤ j → j < i + d → p j = q j) → anyF p d i = anyF q d i
  | 0, _, _ => rfl
  | d + 1, i, h => by
    unfold anyF
    rw [h i (Nat.le_refl _) (by omega), anyF_congr p q d (i + 1) (fun j h1 h2 => h j (by omega) (by omega))]
/-- Is call j ahead of c, and not in the order b? -/
def before (hs : List S77) (b : List Int) (c : S77) (j : Nat) : Bool := decide ((rd_T77 hs (j : Int)).f2 < c.f1) && decide ((j : Int) ∉ b)
def okk (hs : List S77) (b : List Int) (L : List Nat) (k : Int) : Bool := !anyF (before hs b (rd_T77 hs k)) hs.length 0 && same (vOf L (rd_T77 hs k)) (rd_T77 hs k).f4
def ord (kind : Int) (hs : List S77) : Nat → List Int → List Nat → List (List Int)
  | 0, b, _ => [b]
  | d + 1, b, L => (List.range hs.length).flatMap fun k : Nat => if (k : Int) ∈ b then [] else if okk hs b L (k : Int) = true then ord kind hs d (b ++ [(k : Int)]) (stOf kind L (rd_T77 hs (k : Int))) else []
theorem flat_len {α : Type} (f : Nat → List α) (m : Nat) : ∀ l : List Nat, (∀ k ∈ l, (f k).length ≤ m) → (l.flatMap f).length ≤ l.length * m
  | [], _ => by simp
  | x :: l, h => by
    have h1 := h x List.mem_cons_self
    have h2 := flat_len f m l (fun k hk => h k (List.mem_cons_of_mem _ hk))
    rw [List.flatMap_cons, List.length_append, List.length_cons, Nat.succ_mul]
    omega
theorem ord_len (kind : Int) (hs : List S77) (hn : hs.length ≤ 8) : ∀ (d : Nat) (b : List Int) (L : List Nat), (ord kind hs d b L).length ≤ 8 ^ d
  | 0, b, L => by simp [ord]
  | d + 1, b, L => by
    unfold ord
    have h := flat_len (fun k : Nat => if (k : Int) ∈ b then [] else if okk hs b L (k : Int) = true then ord kind hs d (b ++ [(k : Int)]) (stOf kind L (rd_T77 hs (k : Int))) else []) (8 ^ d) (List.range hs.length) (fun k _ => by
      split
      · simp
      · split
        · exact ord_len kind hs hn d _ _
        · simp)
    rw [List.length_range] at h
    refine Nat.le_trans h ?_
    rw [Nat.pow_succ, Nat.mul_comm]
    exact Nat.mul_le_mul_left _ hn
theorem ord_lim (kind : Int) (hs : List S77) (hn : hs.length ≤ 8) (d : Nat) (hd : d ≤ 8) (b : List Int) (L : List Nat) : (ord kind hs d b L).length ≤ 16777216 :=
  Nat.le_trans (ord_len kind hs hn d b L) (Nat.le_trans (Nat.pow_le_pow_right (by decide) hd) (by decide))
/-- What is asked of a history. -/
structure GoodHs (kind : Int) (hs : List S77) : Prop where
  k : kind = 1 ∨ kind = 2
  n : hs.length ≤ 8
  f : ∀ c ∈ hs, c.f4 < 18446744073709551616
  g : ∀ c ∈ hs, c.f1 < c.f2
theorem rdC_mem (hs : List S77) (k : Int) (h0 : 0 ≤ k) (h1 : k < (hs.length : Int)) : rd_T77 hs k ∈ hs := by
  have : k.toNat < hs.length := by omega
  simp only [rd_T77, List.getD_eq_getElem?_getD, List.getElem?_eq_getElem this, Option.getD_some]
  exact List.getElem_mem this
/-- An order that is begun: its numbers, and where the object stands. -/
structure Begun (kind : Int) (hs : List S77) (b : List Int) (L : List Nat) : Prop where
  r : ∀ x ∈ b, 0 ≤ x ∧ x < (hs.length : Int)
  l : b.length ≤ hs.length
  s : L = stAll kind (L0 kind) (b.map (rd_T77 hs))
  o : OkL kind b.length L
theorem Begun.step {kind : Int} {hs : List S77} {b : List Int} {L : List Nat} (G : GoodHs kind hs) (h : Begun kind hs b L) (hl : b.length < hs.length) (k : Int) (h0 : 0 ≤ k) (h1 : k < (hs.length : Int)) : Begun kind hs (b ++ [k]) (stOf kind L (rd_T77 hs k)) :=
  ⟨fun x hx => by
    rcases List.mem_append.mp hx with q | q
    · exact h.r x q
    · rw [List.mem_singleton.mp q]; exact ⟨h0, h1⟩, by simp; omega, by rw [h.s, List.map_append, List.map_cons, List.map_nil, stAll_snoc], by
    have := h.o.step (rd_T77 hs k) (G.f _ (rdC_mem hs k h0 h1))
    simpa using this⟩
theorem Begun.nil (kind : Int) (hs : List S77) : Begun kind hs [] (L0 kind) := ⟨fun x hx => by simp at hx, by simp, rfl, L0_ok kind⟩
theorem ahead_ev (kind : Int) (hs : List S77) (b : List Int) (last : Int) (hb : b.length ≤ 1000) (h0 : 0 ≤ last) (h1 : last < (hs.length : Int)) (hn : hs.length ≤ 1000) (r : Bool)
    (he : Ev (fun k => spec_l16Begun.l0 k kind hs b last (hs.length : Int) (hs.length : Int)) r) : ∀ d i : Nat, i + d = hs.length →
    Ev (fun k => spec_l16Begun.l0 k kind hs b last (hs.length : Int) (i : Int)) (if anyF (before hs b (rd_T77 hs last)) d i = true then false else r)
  | 0, i, h => by
    have : i = hs.length := by omega
    subst this
    rw [anyF, if_neg (by simp)]
    exact he
  | d + 1, i, h => by
    have ih := ahead_ev kind hs b last hb h0 h1 hn r he d (i + 1) (by omega)
    have hw : wrap64 ((i : Int) + 1) = ((i + 1 : Nat) : Int) := by rw [wrap_id] <;> omega
    have hst : ∀ k, spec_l16Begun.l0 (k + 1) kind hs b last (hs.length : Int) (i : Int) = (spec_l1Has.f k b (i : Int)).bind fun t => if t = true then spec_l16Begun.l0 k kind hs b last (hs.length : Int) ((i + 1 : Nat) : Int) else if (rd_T77 hs (i : Int)).f2 < (rd_T77 hs last).f1 then some false else spec_l16Begun.l0 k kind hs b last (hs.length : Int) ((i + 1 : Nat) : Int) := by
      intro k
      simp only [spec_l16Begun.l0, spec_l16Ahead.f, Option.bind_some, hw, decide_eq_true_eq]
      rw [if_pos (by omega)]
      congr 1
      funext t
      split
      · rfl
      · simp only [show (0 ≤ (i : Int)) from by omega, show ((i : Int) < (hs.length : Int)) from by omega, h0, h1, if_true]
    refine Ev.step hst (Ev.bind (has_ev b (by omega) (i : Int)) ?_)
    show Ev _ (if (if before hs b (rd_T77 hs last) i = true then true else anyF (before hs b (rd_T77 hs last)) d (i + 1)) = true then false else r)
    by_cases hm : (i : Int) ∈ b
    · have hq : ¬ before hs b (rd_T77 hs last) i = true := by unfold before; simp [hm]
      rw [if_neg hq]
      exact Ev.ite_pos (decide_eq_true hm) ih
    · refine Ev.ite_neg (by simpa using hm) ?_
      by_cases hlt : (rd_T77 hs (i : Int)).f2 < (rd_T77 hs last).f1
      · have hq : before hs b (rd_T77 hs last) i = true := by unfold before; simp [hlt, hm]
        rw [if_pos hq, if_pos rfl]
        exact Ev.ite_pos hlt (Ev.now _)
      · have hq : ¬ before hs b (rd_T77 hs last) i = true := by unfold before; simp [hlt]
        rw [if_neg hq]
        exact Ev.ite_neg hlt ih
/-- A longer order fits so far, where the shorter one did and the new call may stand. -/
theorem begun_ev {kind : Int} {hs : List S77} (G : GoodHs kind hs) (b : List Int) (L : List Nat) (hB : Begun kind hs b L) (hl : b.length < hs.length) (k : Int) (h0 : 0 ≤ k) (h1 : k < (hs.length : Int)) (hm : k ∉ b) : Ev (fun q => spec_l16Begun.f q kind hs (b ++ [k])) (okk hs b L k) := by
  have hn := G.n
  have hB' := hB.step G hl k h0 h1
  have hlen : (b ++ [k]).length = b.length + 1 := by simp
  have hlast : rd (b ++ [k]) (b.length : Int) = k := by rw [rd_nat]; simp
  have hw : wrap64 (((b ++ [k]).length : Int) - 1) = (b.length : Int) := by rw [hlen, wrap_id] <;> omega
  have hpl := splay_ev kind G.k hs (b ++ [k]) hB'.r (by rw [hlen]; omega)
  rw [List.map_append, List.map_cons, List.map_nil, told_snoc, ← hB.s] at hpl
  have hv := hB.o.v (rd_T77 hs k) (G.f _ (rdC_mem hs k h0 h1))
  have hse := spec_same hv (G.f _ (rdC_mem hs k h0 h1))
  have htl : (told kind (L0 kind) (b.map (rd_T77 hs)) ++ [vOf L (rd_T77 hs k)]).length = b.length + 1 := by rw [List.length_append, told_len]; simp
  have hend : Ev (fun q => spec_l16Begun.l0 q kind hs (b ++ [k]) k (hs.length : Int) (hs.length : Int)) (same (vOf L (rd_T77 hs k)) (rd_T77 hs k).f4) := by
    refine Ev.step (f := fun q => (spec_l16Play.f q kind hs (b ++ [k])).bind fun t => if 0 ≤ (wrap64 ((t.length : Int) - 1)) then (if (wrap64 ((t.length : Int) - 1)) < (t.length : Int) then (if 0 ≤ k then (if k < (hs.length : Int) then ((spec_l1SameNum.f q (rdOf (0 : Nat) t (wrap64 ((t.length : Int) - 1))) ((rd_T77 hs k).f4)).bind fun t182 => (some t182)) else (none)) else (none)) else (none)) else none) (fun q => ?_) (Ev.bind hpl ?_)
    · simp only [spec_l16Begun.l0]; rw [if_neg (by omega)]
    · have hw2 : wrap64 (((told kind (L0 kind) (b.map (rd_T77 hs)) ++ [vOf L (rd_T77 hs k)]).length : Int) - 1) = (b.length : Int) := by rw [htl, wrap_id] <;> omega
      have hrd : rdOf (0 : Nat) (told kind (L0 kind) (b.map (rd_T77 hs)) ++ [vOf L (rd_T77 hs k)]) (b.length : Int) = vOf L (rd_T77 hs k) := by
        simp only [rdOf, Int.toNat_natCast, List.getD_eq_getElem?_getD]
        rw [List.getElem?_append_right (by rw [told_len]; simp), told_len]
        simp
      rw [hw2, hrd]
      exact Ev.ite_pos (by omega) (Ev.ite_pos (by rw [htl]; omega) (Ev.ite_pos h0 (Ev.ite_pos h1 (Ev.bind hse (Ev.now _)))))
  have ha := ahead_ev kind hs (b ++ [k]) k (by rw [hlen]; omega) h0 h1 (by omega) _ hend hs.length 0 (by omega)
  have hc : anyF (before hs (b ++ [k]) (rd_T77 hs k)) hs.length 0 = anyF (before hs b (rd_T77 hs k)) hs.length 0 := by
    refine anyF_congr _ _ _ _ (fun j _ hj => ?_)
    unfold before
    by_cases hjk : (j : Int) = k
    · have := G.g _ (rdC_mem hs k h0 h1)
      rw [hjk, decide_eq_false (by omega)]; rfl
    · congr 1
      rw [decide_eq_decide, List.mem_append, List.mem_singleton]
      exact ⟨fun q r => q (.inl r), fun q r => r.elim q hjk⟩
  rw [hc] at ha
  have e : (if anyF (before hs b (rd_T77 hs k)) hs.length 0 = true then false else same (vOf L (rd_T77 hs k)) (rd_T77 hs k).f4) = okk hs b L k := by
    unfold okk
    cases anyF (before hs b (rd_T77 hs k)) hs.length 0 <;> simp
  rw [e] at ha
  simp only [spec_l16Begun.f, hw, hlast]
  exact Ev.ite_pos (by omega) (Ev.ite_pos (by rw [hlen]; omega) ha)
theorem orders_loop {kind : Int} {hs : List S77} (G : GoodHs kind hs) (b : List Int) (L : List Nat) (hB : Begun kind hs b L) (d : Nat) (hd : b.length + (d + 1) = hs.length)
    (ih : ∀ k : Nat, k < hs.length → (k : Int) ∉ b → Ev (fun q => spec_l16Orders.f q kind hs (b ++ [(k : Int)])) (if okk hs b L (k : Int) = true then ord kind hs d (b ++ [(k : Int)]) (stOf kind L (rd_T77 hs (k : Int))) else [])) :
    ∀ (m i : Nat) (acc : List (List Int)), i + m = hs.length → acc.length ≤ i * 16777216 →
    Ev (fun q => spec_l16Orders.l0 q kind hs b acc (hs.length : Int) (i : Int)) (acc ++ (List.range' i m).flatMap fun k : Nat => if (k : Int) ∈ b then [] else if okk hs b L (k : Int) = true then ord kind hs d (b ++ [(k : Int)]) (stOf kind L (rd_T77 hs (k : Int))) else [])
  | 0, i, acc, h, ha => by
    rw [List.range'_zero, List.flatMap_nil, List.append_nil]
    refine Ev.step (f := fun _ => some acc) (fun k => ?_) (Ev.now _)
    simp only [spec_l16Orders.l0]; rw [if_neg (by omega)]
  | m + 1, i, acc, h, ha => by
    have hn := G.n
    have hi : i < hs.length := by omega
    have hw : wrap64 ((i : Int) + 1) = ((i + 1 : Nat) : Int) := by rw [wrap_id] <;> omega
    rw [List.range'_succ, List.flatMap_cons]
    have hst : ∀ q, spec_l16Orders.l0 (q + 1) kind hs b acc (hs.length : Int) (i : Int) = (spec_l1Has.f q b (i : Int)).bind fun t => if t = true then spec_l16Orders.l0 q kind hs b acc (hs.length : Int) ((i + 1 : Nat) : Int) else (spec_l16Orders.f q kind hs (b ++ [(i : Int)])).bind fun t2 => if acc.length + t2.length < 5864062014805 then spec_l16Orders.l0 q kind hs b (acc ++ t2) (hs.length : Int) ((i + 1 : Nat) : Int) else none := by
      intro q
      simp only [spec_l16Orders.l0, own_eq b (by omega), Option.bind_some, hw]
      rw [if_pos (by omega), if_pos (show b.length < 17592186044416 by omega)]
    refine Ev.step hst (Ev.bind (has_ev b (by omega) (i : Int)) ?_)
    by_cases hm : (i : Int) ∈ b
    · rw [if_pos hm, List.nil_append]
      exact Ev.ite_pos (decide_eq_true hm) (orders_loop G b L hB d hd ih m (i + 1) acc (by omega) (Nat.le_trans ha (Nat.mul_le_mul_right _ (Nat.le_succ i))))
    · rw [if_neg hm, ← List.append_assoc]
      have hlen : (if okk hs b L (i : Int) = true then ord kind hs d (b ++ [(i : Int)]) (stOf kind L (rd_T77 hs (i : Int))) else []).length ≤ 16777216 := by
        split
        · exact ord_lim kind hs hn d (by omega) _ _
        · simp
      exact Ev.ite_neg (by simpa using hm) (Ev.bind (ih i hi hm) (Ev.ite_pos (by omega) (orders_loop G b L hB d hd ih m (i + 1) _ (by omega) (by rw [List.length_append, Nat.succ_mul]; omega))))
theorem orders_ev {kind : Int} {hs : List S77} (G : GoodHs kind hs) : ∀ (d : Nat) (b : List Int) (L : List Nat), Begun kind hs b L → b.length + d = hs.length → ∀ v : Bool, (b ≠ [] → Ev (fun q => spec_l16Begun.f q kind hs b) v) → (b = [] → v = true) → Ev (fun q => spec_l16Orders.f q kind hs b) (if v = true then ord kind hs d b L else []) := by
  intro d
  induction d with
  | zero =>
    intro b L hB hd v hv hv0
    have hj : Ev (fun q => spec_l16Orders.j0 q kind hs b (!v)) (if v = true then ord kind hs 0 b L else []) := by
      cases v with
      | false => exact Ev.step (f := fun _ => some []) (fun q => by simp only [spec_l16Orders.j0]; rw [if_pos (by simp)]) (Ev.now _)
      | true => exact Ev.step (f := fun _ => some [b]) (fun q => by simp only [spec_l16Orders.j0]; rw [if_neg (by simp), if_pos (by omega)]) (Ev.now _)
    by_cases hb : b = []
    · have := hv0 hb
      subst this
      refine Ev.step (fun q => ?_) hj
      simp only [spec_l16Orders.f]; rw [if_neg (by rw [hb]; simp)]; rfl
    · refine Ev.step (f := fun q => (spec_l16Begun.f q kind hs b).bind fun t => spec_l16Orders.j0 q kind hs b (!t)) (fun q => ?_) (Ev.bind (hv hb) hj)
      have := List.length_pos_iff.2 hb
      simp only [spec_l16Orders.f]; rw [if_pos (by omega)]
  | succ d ih =>
    intro b L hB hd v hv hv0
    have hj : Ev (fun q => spec_l16Orders.j0 q kind hs b (!v)) (if v = true then ord kind hs (d + 1) b L else []) := by
      cases v with
      | false => exact Ev.step (f := fun _ => some []) (fun q => by simp only [spec_l16Orders.j0]; rw [if_pos (by simp)]) (Ev.now _)
      | true =>
        have h := orders_loop G b L hB d hd (fun k hk hm => by
          have hB' := hB.step G (by omega) (k : Int) (by omega) (by omega)
          exact ih (b ++ [(k : Int)]) _ hB' (by simp; omega) (okk hs b L (k : Int)) (fun _ => begun_ev G b L hB (by omega) (k : Int) (by omega) (by omega) hm) (fun q => by simp at q)) hs.length 0 [] (by omega) (by simp)
        rw [List.nil_append, ← List.range_eq_range'] at h
        refine Ev.step (fun q => ?_) h
        simp only [spec_l16Orders.j0]; rw [if_neg (by simp), if_neg (by omega)]; rfl
    by_cases hb : b = []
    · have := hv0 hb
      subst this
      refine Ev.step (fun q => ?_) hj
      simp only [spec_l16Orders.f]; rw [if_neg (by rw [hb]; simp)]; rfl
    · refine Ev.step (f := fun q => (spec_l16Begun.f q kind hs b).bind fun t => spec_l16Orders.j0 q kind hs b (!t)) (fun q => ?_) (Ev.bind (hv hb) hj)
      have := List.length_pos_iff.2 hb
      simp only [spec_l16Orders.f]; rw [if_pos (by omega)]
def one (kind : Int) (hs : List S77) (d : Nat) (b : List Int) (L : List Nat) (k : Nat) : List (List Int) := if (k : Int) ∈ b then [] else if okk hs b L (k : Int) = true then ord kind hs d (b ++ [(k : Int)]) (stOf kind L (rd_T77 hs (k : Int))) else []
section
variable {kind : Int} {hs : List S77} (G : GoodHs kind hs) (b : List Int) (L : List Nat) (hB : Begun kind hs b L) (c : S77)
include G hB
theorem waits_loop {α : Type} (l1_ : Nat → Bool → Int → Option α) (h0 : ∀ q (w : Bool) (j : Nat), j < hs.length → l1_ (q + 1) w (j : Int) = if w = true then l1_ q true ((j + 1 : Nat) : Int) else if (rd_T77 hs (j : Int)).f2 < c.f1 then ((slices_Contains_int_int.f q b (j : Int)).bind fun t => l1_ q (!t) ((j + 1 : Nat) : Int)) else l1_ q false ((j + 1 : Nat) : Int)) (R : α) :
    ∀ (d j : Nat) (w : Bool), j + d = hs.length → Ev (fun q => l1_ q (w || anyF (before hs b c) d j) (hs.length : Int)) R → Ev (fun q => l1_ q w (j : Int)) R
  | 0, j, w, h, hR => by
    have : j = hs.length := by omega
    subst this
    rwa [anyF, Bool.or_false] at hR
  | d + 1, j, w, h, hR => by
    have hn := G.n
    have hb := hB.l
    cases w with
    | true =>
      rw [Bool.true_or] at hR
      have ih := waits_loop l1_ h0 R d (j + 1) true (by omega) (by rw [Bool.true_or]; exact hR)
      exact Ev.step (fun q => by rw [h0 q true j (by omega), if_pos rfl]) ih
    | false =>
      rw [Bool.false_or] at hR
      replace hR : Ev (fun q => l1_ q (if before hs b c j = true then true else anyF (before hs b c) d (j + 1)) (hs.length : Int)) R := hR
      have hst : ∀ q, l1_ (q + 1) false (j : Int) = if (rd_T77 hs (j : Int)).f2 < c.f1 then ((slices_Contains_int_int.f q b (j : Int)).bind fun t => l1_ q (!t) ((j + 1 : Nat) : Int)) else l1_ q false ((j + 1 : Nat) : Int) := fun q => by rw [h0 q false j (by omega), if_neg (by simp)]
      by_cases hlt : (rd_T77 hs (j : Int)).f2 < c.f1
      · refine Ev.step hst (Ev.ite_pos hlt (Ev.bind (contains_ev b (by omega) (j : Int)) ?_))
        by_cases hm : (j : Int) ∈ b
        · have hq : ¬ before hs b c j = true := by unfold before; simp [hm]
          rw [if_neg hq] at hR
          rw [decide_eq_true hm]
          exact waits_loop l1_ h0 R d (j + 1) false (by omega) (by rw [Bool.false_or]; exact hR)
        · have hq : before hs b c j = true := by unfold before; simp [hlt, hm]
          rw [if_pos hq] at hR
          rw [decide_eq_false hm]
          exact waits_loop l1_ h0 R d (j + 1) true (by omega) (by rw [Bool.true_or]; exact hR)
      · have hq : ¬ before hs b c j = true := by unfold before; simp [hlt]
        rw [if_neg hq] at hR
        exact Ev.step hst (Ev.ite_neg hlt (waits_loop l1_ h0 R d (j + 1) false (by omega) (by rw [Bool.false_or]; exact hR)))
end
theorem wrap_nat (i : Nat) (h : i ≤ 1000) : wrap64 ((i : Int) + 1) = ((i + 1 : Nat) : Int) := by rw [wrap_id] <;> omega
theorem goodH_of (hs : List S77) : ∀ d i : Nat, i + d = hs.length → goodR hs d i = true → hs.length ≤ 8 ∧ ∀ j, i ≤ j → j < hs.length → badC (hs.getD j z77) = false
  | 0, i, h, hg => by
    have := of_decide_eq_true hg
    exact ⟨by omega, fun j h1 h2 => by omega⟩
  | d + 1, i, h, hg => by
    unfold goodR at hg
    split at hg
    · cases hg
    · rename_i h1
      split at hg
      · cases hg
      · obtain ⟨a1, a2⟩ := goodH_of hs d (i + 1) (by omega) hg
        refine ⟨a1, fun j h2 h3 => ?_⟩
        by_cases e : j = i
        · subst e; simpa using h1
        · exact a2 j (by omega) h3
theorem goodHs (kind : Int) (hk : kind = 1 ∨ kind = 2) (hs : List S77) (hg : goodH hs = true) (hf : ∀ c ∈ hs, c.f4 < 18446744073709551616) : GoodHs kind hs := by
  obtain ⟨h1, h2⟩ := goodH_of hs hs.length 0 (by omega) hg
  refine ⟨hk, h1, hf, fun c hc => ?_⟩
  obtain ⟨j, hj, rfl⟩ := List.getElem_of_mem hc
  have := h2 j (by omega) hj
  have e : hs.getD j z77 = hs[j] := by simp [hj]
  rw [e] at this
  unfold badC at this
  simp at this
  omega
theorem kind_ev (kind : Int) : (if kind = 1 then some true else some (kind == 2)) = some (kind == 1 || kind == 2) := by
  by_cases c : kind = 1
  · rw [if_pos c, c]; rfl
  · rw [if_neg c, show (kind == 1) = false from by simpa using c, Bool.false_or]
theorem ord_mem_len (kind : Int) (hs : List S77) : ∀ (d : Nat) (b : List Int) (L : List Nat), ∀ o ∈ ord kind hs d b L, o.length = b.length + d
  | 0, b, L, o, h => by
    have : o = b := by simpa [ord] using h
    rw [this]; rfl
  | d + 1, b, L, o, h => by
    unfold ord at h
    obtain ⟨k, _, hk⟩ := List.mem_flatMap.1 h
    split at hk
    · simp at hk
    · split at hk
      · have := ord_mem_len kind hs d _ _ o hk
        simp at this; omega
      · simp at hk
set_option maxHeartbeats 2000000 in
theorem first_loop {kind : Int} {hs : List S77} (G : GoodHs kind hs) (b : List Int) (L : List Nat) (hB : Begun kind hs b L) (d : Nat) (hd : b.length + (d + 1) = hs.length)
    (ih : ∀ (k : Nat), k < hs.length → Ev (fun q => impl_search.f q hs (b ++ [(k : Int)]) kind (stOf kind L (rd_T77 hs (k : Int)))) (ord kind hs d (b ++ [(k : Int)]) (stOf kind L (rd_T77 hs (k : Int)))).head?) :
    ∀ (m i : Nat), i + m = hs.length → Ev (fun q => impl_search.l0 q hs b hs (hs.length : Int) (i : Int) kind L) ((List.range' i m).flatMap (one kind hs d b L)).head?
  | 0, i, h => by
    rw [List.range'_zero, List.flatMap_nil]
    refine Ev.step (f := fun _ => some none) (fun k => ?_) (Ev.now _)
    simp only [impl_search.l0]; rw [if_neg (by omega)]
  | m + 1, i, h => by
    have hn := G.n
    have hb := hB.l
    have hi : i < hs.length := by omega
    rw [List.range'_succ, List.flatMap_cons, List.head?_append]
    have hst : ∀ q, impl_search.l0 (q + 1) hs b hs (hs.length : Int) (i : Int) kind L = (slices_Contains_int_int.f q b (i : Int)).bind fun t => if t = true then impl_search.l0 q hs b hs (hs.length : Int) ((i + 1 : Nat) : Int) kind L else impl_search.l1 q hs b (i : Int) false hs (hs.length : Int) (i : Int) hs (hs.length : Int) 0 kind L (rd_T77 hs (i : Int)).f0 (rd_T77 hs (i : Int)).f1 (rd_T77 hs (i : Int)).f2 (rd_T77 hs (i : Int)).f3 (rd_T77 hs (i : Int)).f4 := by
      intro q
      simp only [impl_search.l0, wrap_nat i (by omega)]
      rw [if_pos (by omega), if_pos (by omega), if_pos (by omega)]
    refine Ev.step hst (Ev.bind (contains_ev b (by omega) (i : Int)) ?_)
    have rest := first_loop G b L hB d hd ih m (i + 1) (by omega)
    by_cases hm : (i : Int) ∈ b
    · have e1 : one kind hs d b L i = [] := by unfold one; rw [if_pos hm]
      rw [e1]
      exact Ev.ite_pos (decide_eq_true hm) rest
    · refine Ev.ite_neg (by simpa using hm) ?_
      have hmem := rdC_mem hs (i : Int) (by omega) (by omega)
      have hpl := play_ev kind G.k b.length (by omega) L hB.o (rd_T77 hs (i : Int))
      have e1 : one kind hs d b L i = if okk hs b L (i : Int) = true then ord kind hs d (b ++ [(i : Int)]) (stOf kind L (rd_T77 hs (i : Int))) else [] := by unfold one; rw [if_neg hm]
      rw [e1]
      refine waits_loop G b L hB (rd_T77 hs (i : Int)) (fun q w j => impl_search.l1 q hs b (i : Int) w hs (hs.length : Int) (i : Int) hs (hs.length : Int) j kind L (rd_T77 hs (i : Int)).f0 (rd_T77 hs (i : Int)).f1 (rd_T77 hs (i : Int)).f2 (rd_T77 hs (i : Int)).f3 (rd_T77 hs (i : Int)).f4) (fun q w j hj => ?_) _ hs.length 0 false (by omega) ?_
      · simp only [impl_search.l1, wrap_nat j (Nat.le_trans (Nat.le_of_lt hj) (Nat.le_trans hn (by decide))), impl_Call_ahead.f, Option.bind_some, decide_eq_true_eq]
        rw [if_pos (Int.ofNat_lt.mpr hj), if_pos (Int.natCast_nonneg j), if_pos (Int.ofNat_lt.mpr hj)]
      · rw [Bool.false_or]
        have hend : ∀ (w : Bool) q, impl_search.l1 (q + 1) hs b (i : Int) w hs (hs.length : Int) (i : Int) hs (hs.length : Int) (hs.length : Int) kind L (rd_T77 hs (i : Int)).f0 (rd_T77 hs (i : Int)).f1 (rd_T77 hs (i : Int)).f2 (rd_T77 hs (i : Int)).f3 (rd_T77 hs (i : Int)).f4 = (impl_object_play.f q kind L (rd_T77 hs (i : Int)).f0 (rd_T77 hs (i : Int)).f1 (rd_T77 hs (i : Int)).f2 (rd_T77 hs (i : Int)).f3 (rd_T77 hs (i : Int)).f4).bind fun bt => if w = true then impl_search.l0 q hs b hs (hs.length : Int) ((i + 1 : Nat) : Int) kind L else if same bt.1 (rd_T77 hs (i : Int)).f4 = true then ((impl_search.f q hs (b ++ [(i : Int)]) bt.2.1 bt.2.2).bind fun n1 => if n1.isNone = true then impl_search.l0 q hs b hs (hs.length : Int) ((i + 1 : Nat) : Int) kind L else some n1) else impl_search.l0 q hs b hs (hs.length : Int) ((i + 1 : Nat) : Int) kind L := by
          intro w q
          simp only [impl_search.l1, wrap_nat i (by omega), impl_same, cloneI_eq b (by omega), Option.bind_some]
          rw [if_neg (by omega)]
          congr 1
          funext bt
          rw [if_pos (show b.length + [(i : Int)].length < 17592186044416 by simp; omega)]
        cases hA : anyF (before hs b (rd_T77 hs (i : Int))) hs.length 0 with
        | true =>
          have ho : okk hs b L (i : Int) = false := by unfold okk; rw [hA]; rfl
          rw [ho]
          exact Ev.step (hend true) (Ev.bind hpl (Ev.ite_pos rfl rest))
        | false =>
          cases hS : same (vOf L (rd_T77 hs (i : Int))) (rd_T77 hs (i : Int)).f4 with
          | false =>
            have ho : okk hs b L (i : Int) = false := by unfold okk; rw [hA, hS]; rfl
            rw [ho]
            exact Ev.step (hend false) (Ev.bind hpl (Ev.ite_neg (by simp) (Ev.ite_neg (by simp [hS]) rest)))
          | true =>
            have ho : okk hs b L (i : Int) = true := by unfold okk; rw [hA, hS]; rfl
            rw [ho, if_pos rfl]
            have h1 := ih i hi
            refine Ev.step (hend false) (Ev.bind hpl (Ev.ite_neg (by simp) (Ev.ite_pos hS (Ev.bind h1 ?_))))
            cases (ord kind hs d (b ++ [(i : Int)]) (stOf kind L (rd_T77 hs (i : Int)))).head? with
            | none => exact Ev.ite_pos rfl rest
            | some o => exact Ev.ite_neg (by simp) (Ev.now _)
theorem first_ev {kind : Int} {hs : List S77} (G : GoodHs kind hs) : ∀ (d : Nat) (b : List Int) (L : List Nat), Begun kind hs b L → b.length + d = hs.length → Ev (fun q => impl_search.f q hs b kind L) (ord kind hs d b L).head? := by
  intro d
  induction d with
  | zero =>
    intro b L hB hd
    refine Ev.step (f := fun _ => some (some b)) (fun q => ?_) (Ev.now _)
    simp only [impl_search.f]; rw [if_pos (by omega)]
  | succ d ih =>
    intro b L hB hd
    have h := first_loop G b L hB d hd (fun k hk => ih (b ++ [(k : Int)]) _ (hB.step G (by omega) (k : Int) (by omega) (by omega)) (by simp; omega)) hs.length 0 (by omega)
    rw [← List.range_eq_range'] at h
    refine Ev.step (fun q => ?_) h
    simp only [impl_search.f]; rw [if_neg (by omega)]; rfl
theorem order_same (kind : Int) (hs : List S77) (hh : hs.length ≤ 1048576) (hf : ∀ c ∈ hs, c.f4 < 18446744073709551616) : ∃ r : List Int × Bool, r.1.length ≤ 8 ∧ Ev (fun k => spec_OrderFor.f k kind hs) r ∧ Ev (fun k => impl_OrderFor.f k kind hs) r := by
  simp only [spec_OrderFor.f, impl_OrderFor.f, spec_l16Kind.f, impl_isKind.f, kind_ev, Option.bind_some]
  have hT : Ev (fun k => spec_OrderFor.j0 k kind hs true) (([] : List Int), false) := Ev.step (f := fun _ => some (([] : List Int), false)) (fun k => by simp only [spec_OrderFor.j0]; rw [if_pos trivial]) (Ev.now _)
  by_cases ck : (kind == 1 || kind == 2) = true
  · have hk : kind = 1 ∨ kind = 2 := by simpa using ck
    cases hg : goodH hs with
    | false => exact ⟨([], false), by simp, Ev.ite_pos ck (Ev.bind (spec_good hs hh) (by rw [hg]; exact hT)), Ev.ite_pos ck (Ev.bind (impl_good hs hh) (Ev.ite_neg (by simp [hg]) (Ev.now _)))⟩
    | true =>
      have G := goodHs kind hk hs hg hf
      have hn := G.n
      have h1 := orders_ev G hs.length [] (L0 kind) (Begun.nil kind hs) (by simp) true (fun q => absurd rfl q) (fun _ => rfl)
      rw [if_pos rfl] at h1
      have h2 := first_ev G hs.length [] (L0 kind) (Begun.nil kind hs) (by simp)
      have hm := ord_mem_len kind hs hs.length [] (L0 kind)
      have himp : ∀ r : Option (List Int), Ev (fun q => impl_search.f q hs [] kind (L0 kind)) r → Ev (fun k => (impl_newObject.f kind).bind fun o => (impl_search.f k hs [] o.1 o.2).bind fun q => some (q.getD [], q.isSome)) (r.getD [], r.isSome) := fun r hr => by
        simp only [new_ev, Option.bind_some]
        exact Ev.bind hr (Ev.now _)
      cases hO : ord kind hs hs.length [] (L0 kind) with
      | nil =>
        rw [hO] at h1 h2
        refine ⟨([], false), by simp, Ev.ite_pos ck (Ev.bind (spec_good hs hh) (Ev.step (f := fun k => (spec_l16Orders.f k kind hs ([] : List Int)).bind fun t => (if (t.length : Int) = 0 then (some (([] : List Int), false)) else (if 0 < (t.length : Int) then ((spec_l1Own.f (rd_L5 t 0)).bind fun t210 => (some (t210, true))) else (none)))) (fun k => ?_) (Ev.bind h1 (Ev.ite_pos rfl (Ev.now _))))), Ev.ite_pos ck (Ev.bind (impl_good hs hh) (Ev.ite_pos hg (himp none h2)))⟩
        simp only [spec_OrderFor.j0, hg]; rw [if_neg (by simp)]
      | cons o os =>
        rw [hO] at h1 h2 hm
        have hol : o.length ≤ 8 := by have := hm o List.mem_cons_self; simp at this; omega
        refine ⟨(o, true), hol, Ev.ite_pos ck (Ev.bind (spec_good hs hh) (Ev.step (f := fun k => (spec_l16Orders.f k kind hs ([] : List Int)).bind fun t => (if (t.length : Int) = 0 then (some (([] : List Int), false)) else (if 0 < (t.length : Int) then ((spec_l1Own.f (rd_L5 t 0)).bind fun t210 => (some (t210, true))) else (none)))) (fun k => ?_) (Ev.bind h1 (Ev.ite_neg (by simp <;> omega) (Ev.ite_pos (by simp <;> omega) (Ev.bind (Ev.const (own_eq o (by omega))) (Ev.now _))))))), Ev.ite_pos ck (Ev.bind (impl_good hs hh) (Ev.ite_pos hg (himp (some o) h2)))⟩
        simp only [spec_OrderFor.j0, hg]; rw [if_neg (by simp)]
  · exact ⟨([], false), by simp, Ev.ite_neg ck hT, Ev.ite_neg ck (Ev.now _)⟩
def markC (a : Int) : S77 := ⟨a, a + 1, a + 2, (Int.tmod (a + 3) 3 == 0), fofi (a + 4)⟩
theorem rdset (xs : List S77) (i : Nat) (h : i < xs.length) (u : S77) : rd_T77 (xs.set i u) (i : Int) = u := by
  simp [rd_T77, h]
theorem markCallS_ev (xs : List S77) (a : Int) (hn : xs.length ≤ 1048576) (h0 : 0 ≤ a) (h1 : a ≤ 1000) : Ev (fun k => laws_markCallS.f k xs a) (a + 5 * (xs.length : Int), marksC markC 5 a xs.length) := by
  refine ev_mark_all (fun k ys a i => laws_markCallS.l0 k ys a i) markC 5 100000000 (by omega) xs (fun i ys a r hi hl h0 h1 h => ?_) (fun ys a hl => ?_) a h0 (by omega)
  · refine Ev.step (fun k => ?_) h
    simp only [laws_markCallS.l0, Option.bind_some]
    have hi' : i < ys.length := by omega
    rw [if_pos (by omega), if_pos (by omega)]
    simp only [Int.toNat_natCast]
    simp only [rdset ys i hi', List.set_set]
    rw [wrap_id (n := a + 1) (by omega) (by omega), wrap_id (n := a + 1 + 1) (by omega) (by omega), wrap_id (n := a + 1 + 1 + 1) (by omega) (by omega), wrap_id (n := a + 1 + 1 + 1 + 1) (by omega) (by omega), wrap_id (n := a + 1 + 1 + 1 + 1 + 1) (by omega) (by omega), wrap_id (n := (i : Int) + 1) (by omega) (by omega)]
    have e2 : a + 1 + 1 = a + 2 := by omega
    have e3 : a + 1 + 1 + 1 = a + 3 := by omega
    have e4 : a + 1 + 1 + 1 + 1 = a + 4 := by omega
    have e5 : a + 1 + 1 + 1 + 1 + 1 = a + 5 := by omega
    rw [e5, e4, e3, e2]
    rfl
  · refine Ev.step (f := fun _ => some (a, ys)) (fun k => ?_) (Ev.now _)
    simp only [laws_markCallS.l0]
    rw [if_neg (by omega)]
theorem FnExactOrderFor : laws_FnExactOrderFor.Pure2 := by
  intro a0 ys _ hok hb
  apply Ev.rounds
  simp only [laws_FnExactOrderFor.f]
  refine Ev.bind (Ev.const (szCallS_eq ys hb)) ?_
  by_cases h : 1048576 - (ys.length : Int) < 0
  · rw [if_pos h]; exact Ev.ite_pos (by omega) (Ev.now _)
  · rw [if_neg h]
    refine Ev.ite_neg h ?_
    have ht := toCallS_ev ys (by omega)
    have hl : (ys.map cvC).length ≤ 1048576 := by simp; omega
    have hf := callS_fl ys hok
    obtain ⟨⟨T, b⟩, tl, hs, hm⟩ := order_same a0 (ys.map cvC) hl hf
    have tl : T.length ≤ 8 := tl
    have he := eqIntS_ev T (by omega)
    have hc := eqCallS_ev _ hl hf
    have hbb : (b != b) = false := by simp
    have hmc := markCallS_ev (ys.map cvC) 1 hl (by omega) (by omega)
    have hmi := markIntS_ev T 1 (by omega) (by omega) (by omega)
    have hhi := heldIntS_ev T.length 1 (by omega) (by omega) (by omega)
    have hj2 : Ev (fun k => laws_FnExactOrderFor.j2 k (iota 1 T.length) (1 + (T.length : Int)) (b != b)) true := by
      rw [hbb]
      refine Ev.step (fun k => by simp only [laws_FnExactOrderFor.j2]; rw [if_neg (by simp)]) ?_
      exact Ev.bind hhi (Ev.ite_neg (by omega) (Ev.ite_pos rfl (Ev.now _)))
    have hj1 : Ev (fun k => laws_FnExactOrderFor.j1 k a0 ys T b T (b != b)) true := by
      rw [hbb]
      refine Ev.step (fun k => by simp only [laws_FnExactOrderFor.j1]; rw [if_neg (by simp)]) ?_
      exact Ev.bind hmi (Ev.bind hhi (Ev.ite_neg (by omega) (Ev.ite_pos rfl (Ev.bind ht (Ev.bind hm (Ev.bind he (Ev.ite_pos rfl hj2)))))))
    have hj0 : Ev (fun k => laws_FnExactOrderFor.j0 k a0 ys T b (ys.map cvC) T b (b != b)) true := by
      rw [hbb]
      refine Ev.step (fun k => by simp only [laws_FnExactOrderFor.j0]; rw [if_neg (by simp)]) ?_
      exact Ev.bind ht (Ev.bind hc (Ev.ite_pos rfl (Ev.bind hmc (Ev.ite_neg (by show ¬ (1 + 5 * ((ys.map cvC).length : Int) < 0); omega) (Ev.bind he (Ev.ite_pos rfl hj1))))))
    exact Ev.bind ht (Ev.bind hs (Ev.bind ht (Ev.bind hm (Ev.bind he (Ev.ite_pos rfl hj0)))))

end Go.Proofs.Ythdpiceiemkjlaa.Pure

/- The pure statement of FnExactWithoutCall: both take the same call out of a good history. -/
import Derived.Test.YteaahcofgnghaaaQFnExactWithoutCall
import Derived.Test.YteaahcofgnghaaaMBase
import Derived.KernelRfl
import Derived.Test.YteaahcofgnghaaaMReal
set_option linter.unusedVariables false
set_option linter.unusedSimpArgs false
namespace Go.Proofs.Yteaahcofgnghaaa.Pure
open Go.RowKit Go.Proofs.Yteaahcofgnghaaa.GWithoutCall Go.Proofs.YteaahcofgnghaaaW.PrintWords Go.Proofs.YteaahcofgnghaaaW.PrintLast Go.Proofs.YteaahcofgnghaaaW.PrintMore Go.Proofs.Yteaahcofgnghaaa.MBase
open Go.Proofs.Yteaahcofgnghaaa Go.Proofs.Yteaahcofgnghaaa.MNum Go.Proofs.Yteaahcofgnghaaa.MIeee Go.Proofs.Yteaahcofgnghaaa.MReal
/-- A loop that goes on to n with the same result. -/
theorem ev_up {α : Type} (L : Nat → Int → Option α) (n : Nat) (r : α) (hs : ∀ i : Nat, i < n → Ev (fun k => L k ((i + 1 : Nat) : Int)) r → Ev (fun k => L k (i : Int)) r) (he : Ev (fun k => L k (n : Int)) r) :
    ∀ d i : Nat, i + d = n → Ev (fun k => L k (i : Int)) r
  | 0, i, h => by
    have : i = n := by omega
    subst this
    exact he
  | d + 1, i, h => hs i (by omega) (ev_up L n r hs he d (i + 1) (by omega))
/-- A loop that fills a row, place by place. -/
theorem ev_map {α β : Type} (L : Nat → List β → Int → Option (List β)) (xs : List α) (f : α → β) (z : α)
    (hs : ∀ (i : Nat) (acc r : List β), i < xs.length → acc.length = xs.length → Ev (fun k => L k (acc.set i (f (xs.getD i z))) ((i + 1 : Nat) : Int)) r → Ev (fun k => L k acc (i : Int)) r)
    (he : ∀ acc : List β, acc.length = xs.length → Ev (fun k => L k acc (xs.length : Int)) acc) :
    ∀ (d i : Nat) (acc : List β), i + d = xs.length → acc.length = xs.length → Ev (fun k => L k acc (i : Int)) (acc.take i ++ (xs.drop i).map f)
  | 0, i, acc, h, ha => by
    have e : acc.take i ++ (xs.drop i).map f = acc := by rw [List.take_of_length_le (by omega), List.drop_eq_nil_of_le (by omega), List.map_nil, List.append_nil]
    rw [e]
    have : i = xs.length := by omega
    subst this
    exact he acc ha
  | d + 1, i, acc, h, ha => by
    have ih := ev_map L xs f z hs he d (i + 1) (acc.set i (f (xs.getD i z))) (by omega) (by simpa using ha)
    have e : (acc.set i (f (xs.getD i z))).take (i + 1) ++ (xs.drop (i + 1)).map f = acc.take i ++ (xs.drop i).map f := by
      rw [List.take_succ_eq_append_getElem (by simp; omega), List.getElem_set_self, List.take_set, List.set_eq_of_length_le (by simp; omega), List.append_assoc, List.drop_eq_getElem_cons (show i < xs.length by omega), List.map_cons]
      simp [List.getD_eq_getElem?_getD, List.getElem?_eq_getElem (show i < xs.length by omega)]
    rw [e] at ih
    exact hs i acc _ (by omega) ha ih
theorem ev_map_all {α β : Type} (L : Nat → List β → Int → Option (List β)) (xs : List α) (f : α → β) (z : α) (y : β)
    (hs : ∀ (i : Nat) (acc r : List β), i < xs.length → acc.length = xs.length → Ev (fun k => L k (acc.set i (f (xs.getD i z))) ((i + 1 : Nat) : Int)) r → Ev (fun k => L k acc (i : Int)) r)
    (he : ∀ acc : List β, acc.length = xs.length → Ev (fun k => L k acc (xs.length : Int)) acc) :
    Ev (fun k => L k (List.replicate xs.length y) 0) (xs.map f) := by
  have h := ev_map L xs f z hs he xs.length 0 (List.replicate xs.length y) (by omega) (by simp)
  simpa using h
theorem l1In_dec (a b c : Int) : spec_l1In.f a b c = some (decide (b ≤ a ∧ a ≤ c)) := by
  unfold spec_l1In.f
  by_cases h : b ≤ a
  · rw [if_pos h]; simp [h]
  · rw [if_neg h]; simp [h]
theorem in_dec (a b c : Int) : impl_in.f a b c = some (decide (b ≤ a ∧ a ≤ c)) := l1In_dec a b c
def badC (x : S92) : Bool := !decide ((0 ≤ x.f0 ∧ x.f0 ≤ 9) ∧ 0 ≤ x.f1 ∧ x.f1 < x.f2 ∧ x.f2 ≤ 999)
def meets (x y : S92) : Bool := decide (x.f0 = y.f0 ∧ x.f2 ≥ y.f1 ∧ y.f2 ≥ x.f1)
theorem rd92 (xs : List S92) (i : Nat) (h : i < xs.length) : rd_T92 xs (i : Int) = xs[i] := by
  simp [rd_T92, h]
theorem spec_l0_step (xs : List S92) (hx : xs.length ≤ 1048576) (i : Nat) (hi : i < xs.length) (k : Nat) :
    spec_l16Good.l0 (k+1) xs xs (xs.length : Int) (i : Int) = spec_l16Good.j1 k xs (i : Int) xs (xs.length : Int) (i : Int) (badC xs[i]) (xs[i]).f0 (xs[i]).f1 (xs[i]).f2 (xs[i]).f3 (xs[i]).f4 := by
  simp only [spec_l16Good.l0, l1In_dec, Option.bind_some, decide_eq_true_eq]
  rw [if_pos (by omega), if_pos (by omega), if_pos (by omega), rd92 xs i hi]
  unfold badC
  by_cases h0 : 0 ≤ (xs[i]).f0 ∧ (xs[i]).f0 ≤ 9
  · by_cases h1 : 0 ≤ (xs[i]).f1 ∧ (xs[i]).f1 ≤ 999
    · rw [if_pos h0, if_pos h1, wrap_id (n := (xs[i]).f1 + 1) (by omega) (by omega)]
      congr 2
      rw [decide_eq_decide]
      omega
    · rw [if_pos h0, if_neg h1, decide_eq_false (by omega)]; rfl
  · rw [if_neg h0, decide_eq_false (by omega)]; rfl
theorem impl_l0_step (xs : List S92) (hx : xs.length ≤ 1048576) (i : Nat) (hi : i < xs.length) (k : Nat) :
    impl_GoodHistory.l0 (k+1) xs xs (xs.length : Int) (i : Int) = impl_GoodHistory.j1 k xs (i : Int) xs (xs.length : Int) (i : Int) (badC xs[i]) (xs[i]).f0 (xs[i]).f1 (xs[i]).f2 (xs[i]).f3 (xs[i]).f4 := by
  simp only [impl_GoodHistory.l0, in_dec, Option.bind_some, decide_eq_true_eq]
  rw [if_pos (by omega), if_pos (by omega), if_pos (by omega), rd92 xs i hi]
  unfold badC
  by_cases h0 : 0 ≤ (xs[i]).f0 ∧ (xs[i]).f0 ≤ 9
  · by_cases h1 : (xs[i]).f1 < 0
    · rw [if_pos h0, if_pos h1, decide_eq_false (by omega)]; rfl
    · by_cases h2 : (xs[i]).f1 ≥ (xs[i]).f2
      · rw [if_pos h0, if_neg h1, if_pos h2, decide_eq_false (by omega)]; rfl
      · rw [if_pos h0, if_neg h1, if_neg h2]
        congr 1
        rw [← decide_not, decide_eq_decide]
        omega
  · rw [if_neg h0, decide_eq_false (by omega)]; rfl
theorem spec_l1_step (xs ys : List S92) (hy : ys.length ≤ 1048576) (i : Int) (x : S92) (j : Nat) (hj : j < ys.length) (k : Nat) :
    spec_l16Good.l1 (k+1) xs xs (xs.length : Int) i ys (ys.length : Int) (j : Int) x.f0 x.f1 x.f2 x.f3 x.f4 = if meets x ys[j] = true then some false else spec_l16Good.l1 k xs xs (xs.length : Int) i ys (ys.length : Int) ((j + 1 : Nat) : Int) x.f0 x.f1 x.f2 x.f3 x.f4 := by
  simp only [spec_l16Good.l1]
  rw [if_pos (by omega), if_pos (by omega), if_pos (by omega), rd92 ys j hj, wrap_id (n := (j : Int) + 1) (by omega) (by omega)]
  unfold meets
  simp only [decide_eq_true_eq]
  by_cases h0 : x.f0 = (ys[j]).f0 <;> by_cases h1 : x.f2 ≥ (ys[j]).f1 <;> by_cases h2 : (ys[j]).f2 ≥ x.f1 <;> simp only [h0, h1, h2, if_true, if_false, true_and, and_true, false_and, and_false] <;> rfl
theorem impl_l1_step (xs ys : List S92) (hy : ys.length ≤ 1048576) (i : Int) (x : S92) (j : Nat) (hj : j < ys.length) (k : Nat) :
    impl_GoodHistory.l1 (k+1) xs xs (xs.length : Int) i ys (ys.length : Int) (j : Int) x.f0 x.f1 x.f2 x.f3 x.f4 = if meets x ys[j] = true then some false else impl_GoodHistory.l1 k xs xs (xs.length : Int) i ys (ys.length : Int) ((j + 1 : Nat) : Int) x.f0 x.f1 x.f2 x.f3 x.f4 := by
  simp only [impl_GoodHistory.l1]
  rw [if_pos (by omega), if_pos (by omega), if_pos (by omega), rd92 ys j hj, wrap_id (n := (j : Int) + 1) (by omega) (by omega)]
  unfold meets
  simp only [decide_eq_true_eq]
  have e : ((ys[j]).f0 = x.f0) = (x.f0 = (ys[j]).f0) := propext ⟨Eq.symm, Eq.symm⟩
  simp only [e]
  by_cases h0 : x.f0 = (ys[j]).f0 <;> by_cases h1 : x.f2 ≥ (ys[j]).f1 <;> by_cases h2 : (ys[j]).f2 ≥ x.f1 <;> simp only [h0, h1, h2, if_true, if_false, true_and, and_true, false_and, and_false] <;> rfl
/-- What both loops come to, from call i on. -/
def goodR (xs : List S92) : Nat → Nat → Bool
  | 0, _ => decide ((xs.length : Int) ≤ 8)
  | d + 1, i => if badC (xs.getD i z92) = true then false else if (xs.take i).any (meets (xs.getD i z92)) = true then false else goodR xs d (i + 1)
theorem inner_spec (xs ys : List S92) (hy : ys.length ≤ 1048576) (i : Int) (x : S92) (r : Bool) (h : Ev (fun k => spec_l16Good.l0 k xs xs (xs.length : Int) (wrap64 (i + 1))) r) : ∀ d j : Nat, j + d = ys.length →
    Ev (fun k => spec_l16Good.l1 k xs xs (xs.length : Int) i ys (ys.length : Int) (j : Int) x.f0 x.f1 x.f2 x.f3 x.f4) (if (ys.drop j).any (meets x) = true then false else r)
  | 0, j, e => by
    rw [List.drop_eq_nil_of_le (by omega), List.any_nil, if_neg (by simp)]
    refine Ev.step (fun k => ?_) h
    simp only [spec_l16Good.l1]; rw [if_neg (by omega)]
  | d + 1, j, e => by
    have hj : j < ys.length := by omega
    rw [List.drop_eq_getElem_cons hj, List.any_cons]
    refine Ev.step (spec_l1_step xs ys hy i x j hj) ?_
    cases hm : meets x ys[j] with
    | true => rw [Bool.true_or, if_pos rfl]; exact Ev.ite_pos rfl (Ev.now _)
    | false => rw [Bool.false_or]; exact Ev.ite_neg (by simp) (inner_spec xs ys hy i x r h d (j + 1) (by omega))
theorem inner_impl (xs ys : List S92) (hy : ys.length ≤ 1048576) (i : Int) (x : S92) (r : Bool) (h : Ev (fun k => impl_GoodHistory.l0 k xs xs (xs.length : Int) (wrap64 (i + 1))) r) : ∀ d j : Nat, j + d = ys.length →
    Ev (fun k => impl_GoodHistory.l1 k xs xs (xs.length : Int) i ys (ys.length : Int) (j : Int) x.f0 x.f1 x.f2 x.f3 x.f4) (if (ys.drop j).any (meets x) = true then false else r)
  | 0, j, e => by
    rw [List.drop_eq_nil_of_le (by omega), List.any_nil, if_neg (by simp)]
    refine Ev.step (fun k => ?_) h
    simp only [impl_GoodHistory.l1]; rw [if_neg (by omega)]
  | d + 1, j, e => by
    have hj : j < ys.length := by omega
    rw [List.drop_eq_getElem_cons hj, List.any_cons]
    refine Ev.step (impl_l1_step xs ys hy i x j hj) ?_
    cases hm : meets x ys[j] with
    | true => rw [Bool.true_or, if_pos rfl]; exact Ev.ite_pos rfl (Ev.now _)
    | false => rw [Bool.false_or]; exact Ev.ite_neg (by simp) (inner_impl xs ys hy i x r h d (j + 1) (by omega))
theorem outer_spec (xs : List S92) (hx : xs.length ≤ 1048576) : ∀ d i : Nat, i + d = xs.length → Ev (fun k => spec_l16Good.l0 k xs xs (xs.length : Int) (i : Int)) (goodR xs d i)
  | 0, i, h => by
    refine Ev.step (f := fun _ => some (decide ((xs.length : Int) ≤ 8))) (fun k => ?_) (Ev.now _)
    simp only [spec_l16Good.l0]; rw [if_neg (by omega)]
  | d + 1, i, h => by
    have hi : i < xs.length := by omega
    have eg : xs.getD i z92 = xs[i] := by simp [hi]
    unfold goodR
    rw [eg]
    refine Ev.step (spec_l0_step xs hx i hi) ?_
    cases hb : badC xs[i] with
    | true =>
      refine Ev.step (f := fun _ => some false) (fun k => ?_) (Ev.now _)
      simp only [spec_l16Good.j1]; rw [if_pos trivial]
    | false =>
      have hl : (xs.take i).length = i := by simp; omega
      have ih := outer_spec xs hx d (i + 1) (by omega)
      have q := inner_spec xs (xs.take i) (by omega) (i : Int) xs[i] (goodR xs d (i + 1)) (by rw [wrap_id (n := (i : Int) + 1) (by omega) (by omega)]; exact ih) i 0 (by omega)
      rw [List.drop_zero] at q
      rw [if_neg (by simp)]
      refine Ev.step (fun k => ?_) q
      simp only [spec_l16Good.j1]
      rw [if_neg (by simp), if_pos (by omega), if_pos (by omega), Int.toNat_natCast, Option.bind_some]
      rfl
theorem outer_impl (xs : List S92) (hx : xs.length ≤ 1048576) : ∀ d i : Nat, i + d = xs.length → Ev (fun k => impl_GoodHistory.l0 k xs xs (xs.length : Int) (i : Int)) (goodR xs d i)
  | 0, i, h => by
    refine Ev.step (f := fun _ => some (decide ((xs.length : Int) ≤ 8))) (fun k => ?_) (Ev.now _)
    simp only [impl_GoodHistory.l0]; rw [if_neg (by omega)]
  | d + 1, i, h => by
    have hi : i < xs.length := by omega
    have eg : xs.getD i z92 = xs[i] := by simp [hi]
    unfold goodR
    rw [eg]
    refine Ev.step (impl_l0_step xs hx i hi) ?_
    cases hb : badC xs[i] with
    | true =>
      refine Ev.step (f := fun _ => some false) (fun k => ?_) (Ev.now _)
      simp only [impl_GoodHistory.j1]; rw [if_pos trivial]
    | false =>
      have hl : (xs.take i).length = i := by simp; omega
      have ih := outer_impl xs hx d (i + 1) (by omega)
      have q := inner_impl xs (xs.take i) (by omega) (i : Int) xs[i] (goodR xs d (i + 1)) (by rw [wrap_id (n := (i : Int) + 1) (by omega) (by omega)]; exact ih) i 0 (by omega)
      rw [List.drop_zero] at q
      rw [if_neg (by simp)]
      refine Ev.step (fun k => ?_) q
      simp only [impl_GoodHistory.j1]
      rw [if_neg (by simp), if_pos (by omega), if_pos (by omega), Int.toNat_natCast, Option.bind_some]
      rfl
def goodH (xs : List S92) : Bool := goodR xs xs.length 0
theorem spec_good (xs : List S92) (hx : xs.length ≤ 1048576) : Ev (fun k => spec_l16Good.f k xs) (goodH xs) := outer_spec xs hx xs.length 0 (by omega)
theorem impl_good (xs : List S92) (hx : xs.length ≤ 1048576) : Ev (fun k => impl_GoodHistory.f k xs) (goodH xs) := outer_impl xs hx xs.length 0 (by omega)
theorem sameFloat_ev {x y : Nat} (hx : x < 18446744073709551616) (hy : y < 18446744073709551616) : Ev (fun k => laws_sameFloat.f k x y) (if isNan x = true then isNan y else decide (isNan y = false ∧ x = y)) := by
  simp only [laws_sameFloat.f, feq_self]
  cases hn : isNan x with
  | true =>
    rw [if_pos rfl]
    refine Ev.ite_neg (by simp) (Ev.step (f := fun _ => some (isNan y)) (fun k => ?_) (Ev.now _))
    simp only [laws_sameFloat.j0, feq_self, hn]; rw [if_pos trivial, if_neg (by simp)]; cases isNan y <;> rfl
  | false =>
    rw [if_neg (by simp)]
    refine Ev.ite_pos rfl ?_
    refine Ev.step (f := fun _ => some (decide (isNan y = false ∧ x = y))) (fun k => ?_) (Ev.now _)
    simp only [laws_sameFloat.j0, feq_self, hn]
    cases hm : isNan y with
    | true => simp
    | false =>
      rw [if_neg (by simp), feq_eq hn nan_zero, feq_eq hm nan_zero, feq_eq hn hm, key_zero]
      simp only [decide_eq_true_eq, true_and]
      by_cases h0 : key x = 0
      · rw [if_pos h0]
        by_cases h1 : key y = 0
        · rw [if_pos h1]
          rcases zero_cases hx (key_rg_zero.mp h0) with rfl | rfl <;> rcases zero_cases hy (key_rg_zero.mp h1) with rfl | rfl
          · rw [if_pos inv_pz.1, if_pos inv_pz.1, inv_pz.2.2]; rfl
          · rw [if_pos inv_pz.1, if_pos inv_nz.1, inv_pz.2.2, inv_nz.2.2]; rfl
          · rw [if_pos inv_nz.1, if_pos inv_pz.1, inv_pz.2.2, inv_nz.2.2]; rfl
          · rw [if_pos inv_nz.1, if_pos inv_nz.1, inv_nz.2.2]; rfl
        · rw [if_neg h1]
          congr 1
          rw [decide_eq_decide]
          exact ⟨fun q => absurd (q ▸ h0) h1, fun q => by rw [q]⟩
      · rw [if_neg h0]
        congr 1
        rw [decide_eq_decide]
        exact ⟨fun q => key_inj hx hy (fun z => h0 (key_rg_zero.mpr z)) q, fun q => by rw [q]⟩
theorem sameFloat_refl (x : Nat) (hx : x < 18446744073709551616) : Ev (fun k => laws_sameFloat.f k x x) true := by
  have h := sameFloat_ev hx hx
  cases hn : isNan x <;> rw [hn] at h <;> simpa using h
def cvC (x : S94) : S92 := ⟨x.f0, x.f1, x.f2, x.f3, x.f4⟩
theorem toCallS_ev (xs : List S94) (hx : xs.length ≤ 1048576) : Ev (fun k => laws_toCallS.f k xs) (xs.map cvC) := by
  refine Ev.congr (fun k => ?_) (ev_map_all (fun k acc i => laws_toCallS.l0 k xs acc i) xs cvC z94 z92 (fun i acc r hi ha h => ?_) (fun acc ha => ?_))
  · simp only [laws_toCallS.f]
    rw [if_pos (by omega), if_pos (by simp only [Int.toNat_natCast]; omega)]
    simp only [Int.toNat_natCast]
  · refine Ev.step (fun k => ?_) h
    simp only [laws_toCallS.l0, laws_toCall.f, Option.bind_some]
    rw [if_pos (by omega), if_pos (by omega), if_pos (by omega), wrap_id (n := (i : Int) + 1) (by omega) (by omega)]
    rfl
  · refine Ev.step (f := fun _ => some acc) (fun k => ?_) (Ev.now _)
    simp only [laws_toCallS.l0]; rw [if_neg (by omega)]
theorem eqCall_refl (x : S92) (hx : x.f4 < 18446744073709551616) : Ev (fun k => laws_eqCall.f k x.f0 x.f1 x.f2 x.f3 x.f4 x.f0 x.f1 x.f2 x.f3 x.f4) true := by
  simp only [laws_eqCall.f]
  exact Ev.ite_pos trivial (Ev.ite_pos trivial (Ev.ite_pos trivial (Ev.ite_neg (by simp) (Ev.bind (sameFloat_refl x.f4 hx) (Ev.ite_pos rfl (Ev.now _))))))
theorem eqCallS_ev (xs : List S92) (hx : xs.length ≤ 1048576) (hf : ∀ x ∈ xs, x.f4 < 18446744073709551616) : Ev (fun k => laws_eqCallS.f k xs xs) true := by
  have h := ev_up (fun k i => laws_eqCallS.l0 k xs xs i) xs.length true (fun i hi h => ?_) ?_ xs.length 0 (by omega)
  · refine Ev.congr (fun k => ?_) h
    simp only [laws_eqCallS.f]; rw [if_pos trivial]; rfl
  · have hr : rd_T92 xs (i : Int) = xs[i] := by simp [rd_T92, hi]
    refine Ev.step (f := fun k => (laws_eqCall.f k (xs[i]).f0 (xs[i]).f1 (xs[i]).f2 (xs[i]).f3 (xs[i]).f4 (xs[i]).f0 (xs[i]).f1 (xs[i]).f2 (xs[i]).f3 (xs[i]).f4).bind fun t => if t = true then laws_eqCallS.l0 k xs xs ((i + 1 : Nat) : Int) else some false) (fun k => ?_) (Ev.bind (eqCall_refl _ (hf _ (List.getElem_mem _))) (Ev.ite_pos rfl h))
    simp only [laws_eqCallS.l0]
    rw [if_pos (by omega), if_pos (by omega), if_pos (by omega), wrap_id (n := (i : Int) + 1) (by omega) (by omega), hr]
    rfl
  · refine Ev.step (f := fun _ => some true) (fun k => ?_) (Ev.now _)
    simp only [laws_eqCallS.l0]; rw [if_neg (by omega)]
theorem szCallS_eq (ys : List S94) (hb : ys.length * 40 ≤ 140737488351232) : laws_szCallS.f ys 1048576 = some (if 1048576 - (ys.length : Int) < 0 then -1 else 1048576 - (ys.length : Int)) := by
  simp only [laws_szCallS.f]
  rw [wrap_id (by omega) (by omega)]
  split <;> rfl
theorem callS_fl (ys : List S94) (h : okL ok94 ys) : ∀ x ∈ ys.map cvC, x.f4 < 18446744073709551616 := by
  intro x hx
  obtain ⟨y, hy, rfl⟩ := List.mem_map.mp hx
  exact (h.2 y hy).2.2.2.2
/-- The rows of marks that a law writes: n places, each taking c marks. -/
def marksC {α : Type} (m : Int → α) (c : Int) (a : Int) : Nat → List α
  | 0 => []
  | n + 1 => m a :: marksC m c (a + c) n
theorem marksC_length {α : Type} (m : Int → α) (c a : Int) (n : Nat) : (marksC m c a n).length = n := by
  induction n generalizing a with
  | zero => rfl
  | succ n ih => simp [marksC, ih]
theorem marksC_getD {α : Type} (m : Int → α) (z : α) (c a : Int) (n i : Nat) (h : i < n) : (marksC m c a n).getD i z = m (a + c * i) := by
  induction n generalizing a i with
  | zero => omega
  | succ n ih =>
    cases i with
    | zero => simp [marksC]
    | succ i =>
      have := ih (a + c) i (by omega)
      simp only [marksC, List.getD_cons_succ]
      rw [this]
      congr 1
      rw [Int.natCast_add, Int.mul_add]
      simp
      omega
/-- A loop that marks a row: m tells what is written, c how many marks a place takes. -/
theorem ev_mark {α : Type} (L : Nat → List α → Int → Int → Option (Int × List α)) (m : Int → α) (c : Int) (n : Nat) (lim : Int) (hc : 0 ≤ c)
    (hs : ∀ (i : Nat) (xs : List α) (a : Int) (r : Int × List α), i < n → xs.length = n → 0 ≤ a → a + c ≤ lim → Ev (fun k => L k (xs.set i (m a)) (a + c) ((i + 1 : Nat) : Int)) r → Ev (fun k => L k xs a (i : Int)) r)
    (he : ∀ (xs : List α) (a : Int), xs.length = n → Ev (fun k => L k xs a (n : Int)) (a, xs)) :
    ∀ (d i : Nat) (xs : List α) (a : Int), i + d = n → xs.length = n → 0 ≤ a → a + c * (d : Int) ≤ lim → Ev (fun k => L k xs a (i : Int)) (a + c * (d : Int), xs.take i ++ marksC m c a d)
  | 0, i, xs, a, h, hl, h0, h1 => by
    have e : xs.take i ++ marksC m c a 0 = xs := by rw [List.take_of_length_le (by omega), marksC, List.append_nil]
    rw [e]
    have : i = n := by omega
    subst this
    simpa using he xs a hl
  | d + 1, i, xs, a, h, hl, h0, h1 => by
    have hcd : c * ((d + 1 : Nat) : Int) = c + c * (d : Int) := by rw [Int.natCast_add, Int.mul_add]; simp; omega
    have hnn : 0 ≤ c * (d : Int) := Int.mul_nonneg hc (by omega)
    have ih := ev_mark L m c n lim hc hs he d (i + 1) (xs.set i (m a)) (a + c) (by omega) (by simpa using hl) (by omega) (by omega)
    have e : (xs.set i (m a)).take (i + 1) ++ marksC m c (a + c) d = xs.take i ++ marksC m c a (d + 1) := by
      rw [List.take_succ_eq_append_getElem (by simp; omega), List.getElem_set_self, List.take_set, List.set_eq_of_length_le (by simp; omega), List.append_assoc]
      rfl
    rw [e, show a + c + c * (d : Int) = a + c * ((d + 1 : Nat) : Int) from by omega] at ih
    exact hs i xs a _ (by omega) hl h0 (by omega) ih
theorem ev_mark_all {α : Type} (L : Nat → List α → Int → Int → Option (Int × List α)) (m : Int → α) (c : Int) (lim : Int) (hc : 0 ≤ c) (xs : List α)
    (hs : ∀ (i : Nat) (ys : List α) (a : Int) (r : Int × List α), i < xs.length → ys.length = xs.length → 0 ≤ a → a + c ≤ lim → Ev (fun k => L k (ys.set i (m a)) (a + c) ((i + 1 : Nat) : Int)) r → Ev (fun k => L k ys a (i : Int)) r)
    (he : ∀ (ys : List α) (a : Int), ys.length = xs.length → Ev (fun k => L k ys a (xs.length : Int)) (a, ys)) (a : Int) (h0 : 0 ≤ a) (h1 : a + c * (xs.length : Int) ≤ lim) :
    Ev (fun k => L k xs a 0) (a + c * (xs.length : Int), marksC m c a xs.length) := by
  have h := ev_mark L m c xs.length lim hc hs he xs.length 0 xs a (by omega) rfl h0 h1
  simpa using h
/-- A loop that asks whether the marks are held. -/
theorem ev_held (L : Nat → Int → Int → Option Int) (c : Int) (n : Nat) (lim : Int) (a : Int) (hc : 0 ≤ c) (h0 : 0 ≤ a) (h1 : a + c * (n : Int) ≤ lim)
    (hs : ∀ (i : Nat) (r : Int), i < n → a + c * (i : Int) + c ≤ lim → Ev (fun k => L k (a + c * (i : Int) + c) ((i + 1 : Nat) : Int)) r → Ev (fun k => L k (a + c * (i : Int)) (i : Int)) r)
    (he : Ev (fun k => L k (a + c * (n : Int)) (n : Int)) (a + c * (n : Int))) :
    ∀ (d i : Nat), i + d = n → Ev (fun k => L k (a + c * (i : Int)) (i : Int)) (a + c * (n : Int))
  | 0, i, h => by
    have : i = n := by omega
    subst this
    exact he
  | d + 1, i, h => by
    have e : c * ((i + 1 : Nat) : Int) = c * (i : Int) + c := by rw [Int.natCast_add, Int.mul_add]; simp
    have ih := ev_held L c n lim a hc h0 h1 hs he d (i + 1) (by omega)
    rw [e, ← Int.add_assoc] at ih
    have hle : c * ((i + 1 : Nat) : Int) ≤ c * (n : Int) := Int.mul_le_mul_of_nonneg_left (by omega) hc
    exact hs i _ (by omega) (by omega) ih
theorem ev_held_all (L : Nat → Int → Int → Option Int) (c : Int) (n : Nat) (lim : Int) (a : Int) (hc : 0 ≤ c) (h0 : 0 ≤ a) (h1 : a + c * (n : Int) ≤ lim)
    (hs : ∀ (i : Nat) (r : Int), i < n → a + c * (i : Int) + c ≤ lim → Ev (fun k => L k (a + c * (i : Int) + c) ((i + 1 : Nat) : Int)) r → Ev (fun k => L k (a + c * (i : Int)) (i : Int)) r)
    (he : Ev (fun k => L k (a + c * (n : Int)) (n : Int)) (a + c * (n : Int))) : Ev (fun k => L k a 0) (a + c * (n : Int)) := by
  have h := ev_held L c n lim a hc h0 h1 hs he n 0 (by omega)
  simpa using h
theorem without_same (xs : List S92) (hl : xs.length ≤ 1048576) (i : Int) : ∃ r : List S92 × Bool, Ev (fun k => spec_WithoutCall.f k xs i) r ∧ Ev (fun k => impl_WithoutCall.f k xs i) r ∧ r.1.length ≤ 1048576 ∧ ∀ x ∈ r.1, x ∈ xs := by
  have hw : wrap64 ((xs.length : Int) - 1) = (xs.length : Int) - 1 := wrap_id (by omega) (by omega)
  have hT : Ev (fun k => impl_WithoutCall.j0 k xs i true) (([] : List S92), false) := Ev.step (f := fun _ => some (([] : List S92), false)) (fun k => by simp only [impl_WithoutCall.j0]; rw [if_pos trivial]) (Ev.now _)
  simp only [spec_WithoutCall.f, impl_WithoutCall.f, impl_Call_71.f, l1In_dec, in_dec, hw, Option.bind_some]
  cases hg : goodH xs with
  | false => exact ⟨([], false), Ev.bind (spec_good xs hl) (Ev.ite_neg (by simp [hg]) (Ev.now _)), Ev.bind (impl_good xs hl) (Ev.ite_neg (by simp [hg]) hT), by simp, by simp⟩
  | true =>
    by_cases h1 : 0 ≤ i ∧ i ≤ (xs.length : Int) - 1
    · have hw1 : wrap64 (i + 1) = i + 1 := wrap_id (by omega) (by omega)
      refine ⟨(xs.take i.toNat ++ xs.drop (i + 1).toNat, true), Ev.bind (spec_good xs hl) (Ev.ite_pos hg (Ev.ite_pos (decide_eq_true h1) ?_)), Ev.bind (impl_good xs hl) (Ev.ite_pos hg ?_), ?_, ?_⟩
      · simp only [hw1, List.nil_append]
        exact Ev.ite_pos h1.1 (Ev.ite_pos (by omega) (Ev.ite_pos (by simp; omega) (Ev.ite_pos (by omega) (Ev.ite_pos (by omega) (Ev.ite_pos (by simp; omega) (Ev.now _))))))
      · rw [decide_eq_true h1]
        refine Ev.step (f := fun _ => some (xs.take i.toNat ++ xs.drop (i + 1).toNat, true)) (fun k => ?_) (Ev.now _)
        simp only [impl_WithoutCall.j0, impl_Call_74.f, impl_Call_73.f, hw1, Option.bind_some, List.nil_append]
        rw [if_neg (by simp), if_pos (by simp; omega), Option.bind_some, if_pos h1.1, if_pos (by omega), if_pos (by omega), Option.bind_some]
      · simp; omega
      · intro x hx
        rcases List.mem_append.mp hx with h | h
        · exact List.mem_of_mem_take h
        · exact List.mem_of_mem_drop h
    · refine ⟨([], false), Ev.bind (spec_good xs hl) (Ev.ite_pos hg (Ev.ite_neg (by simpa using h1) (Ev.now _))), Ev.bind (impl_good xs hl) (Ev.ite_pos hg ?_), by simp, by simp⟩
      rw [decide_eq_false h1]
      exact hT
def markC (a : Int) : S92 := ⟨a, a + 1, a + 2, (Int.tmod (a + 3) 3 == 0), fofi (a + 4)⟩
theorem rdset (xs : List S92) (i : Nat) (h : i < xs.length) (u : S92) : rd_T92 (xs.set i u) (i : Int) = u := by
  simp [rd_T92, h]
theorem markCallS_ev (xs : List S92) (a : Int) (hn : xs.length ≤ 1048576) (h0 : 0 ≤ a) (h1 : a ≤ 1000) : Ev (fun k => laws_markCallS.f k xs a) (a + 5 * (xs.length : Int), marksC markC 5 a xs.length) := by
  refine ev_mark_all (fun k ys a i => laws_markCallS.l0 k ys a i) markC 5 100000000 (by omega) xs (fun i ys a r hi hl h0 h1 h => ?_) (fun ys a hl => ?_) a h0 (by omega)
  · refine Ev.step (fun k => ?_) h
    simp only [laws_markCallS.l0, Option.bind_some]
    have hi' : i < ys.length := by omega
    rw [if_pos (by omega), if_pos (by omega)]
    simp only [Int.toNat_natCast]
    simp only [rdset ys i hi', List.set_set]
    rw [wrap_id (n := a + 1) (by omega) (by omega), wrap_id (n := a + 1 + 1) (by omega) (by omega), wrap_id (n := a + 1 + 1 + 1) (by omega) (by omega), wrap_id (n := a + 1 + 1 + 1 + 1) (by omega) (by omega), wrap_id (n := a + 1 + 1 + 1 + 1 + 1) (by omega) (by omega), wrap_id (n := (i : Int) + 1) (by omega) (by omega)]
    have e2 : a + 1 + 1 = a + 2 := by omega
    have e3 : a + 1 + 1 + 1 = a + 3 := by omega
    have e4 : a + 1 + 1 + 1 + 1 = a + 4 := by omega
    have e5 : a + 1 + 1 + 1 + 1 + 1 = a + 5 := by omega
    rw [e5, e4, e3, e2]
    rfl
  · refine Ev.step (f := fun _ => some (a, ys)) (fun k => ?_) (Ev.now _)
    simp only [laws_markCallS.l0]
    rw [if_neg (by omega)]
theorem heldCallS_ev (n : Nat) (a : Int) (hn : n ≤ 1048576) (h0 : 0 ≤ a) (h1 : a ≤ 1000) : Ev (fun k => laws_heldCallS.f k (marksC markC 5 a n) a) (a + 5 * (n : Int)) := by
  refine ev_held_all (fun k b i => laws_heldCallS.l0 k (marksC markC 5 a n) b i) 5 n 100000000 a (by omega) h0 (by omega) (fun i r hi hb h => ?_) ?_
  · refine Ev.step (fun k => ?_) h
    have hr : rd_T92 (marksC markC 5 a n) (i : Int) = markC (a + 5 * (i : Int)) := by
      have := marksC_getD markC z92 5 a n i hi
      simpa [rd_T92] using this
    have hq : feq (fofi (a + 5 * (i : Int) + 4)) (fofi (a + 5 * (i : Int) + 4)) = true := by rw [feq_self, (fofi_nan _).1]; rfl
    simp only [laws_heldCallS.l0, marksC_length]
    generalize hx : a + 5 * (i : Int) = x at hr hq hb h ⊢
    rw [if_pos (by omega), if_pos (by omega), hr]
    rw [wrap_id (n := x + 1) (by omega) (by omega), wrap_id (n := x + 1 + 1) (by omega) (by omega), wrap_id (n := x + 1 + 1 + 1) (by omega) (by omega), wrap_id (n := x + 1 + 1 + 1 + 1) (by omega) (by omega), wrap_id (n := x + 1 + 1 + 1 + 1 + 1) (by omega) (by omega), wrap_id (n := (i : Int) + 1) (by omega) (by omega)]
    have e2 : x + 1 + 1 = x + 2 := by omega
    have e3 : x + 1 + 1 + 1 = x + 3 := by omega
    have e4 : x + 1 + 1 + 1 + 1 = x + 4 := by omega
    have e5 : x + 1 + 1 + 1 + 1 + 1 = x + 5 := by omega
    rw [e5, e4, e3, e2]
    show (if x = x then _ else _) = _
    rw [if_pos rfl]
    show (if x + 1 = x + 1 then _ else _) = _
    rw [if_pos rfl]
    show (if x + 2 = x + 2 then _ else _) = _
    rw [if_pos rfl]
    show (if ((Int.tmod (x + 3) 3 == 0) != (Int.tmod (x + 3) 3 == 0)) = true then _ else _) = _
    rw [if_neg (by simp)]
    show (if feq (fofi (x + 4)) (fofi (x + 4)) = true then _ else _) = _
    rw [if_pos hq]
    rfl
  · refine Ev.step (f := fun _ => some (a + 5 * (n : Int))) (fun k => ?_) (Ev.now _)
    simp only [laws_heldCallS.l0, marksC_length]
    rw [if_neg (by omega)]
theorem FnExactWithoutCall : laws_FnExactWithoutCall.Pure2 := by
  intro ys i hok hb _
  apply Ev.rounds
  simp only [laws_FnExactWithoutCall.f]
  refine Ev.bind (Ev.const (szCallS_eq ys hb)) ?_
  by_cases h : 1048576 - (ys.length : Int) < 0
  · rw [if_pos h]; exact Ev.ite_pos (by omega) (Ev.now _)
  · rw [if_neg h]
    refine Ev.ite_neg h ?_
    have ht := toCallS_ev ys (by omega)
    have hl : (ys.map cvC).length ≤ 1048576 := by simp; omega
    obtain ⟨⟨zs, b⟩, hs, hi, hz, hm⟩ := without_same _ hl i
    have hf := callS_fl ys hok
    have he := eqCallS_ev zs hz (fun x hx => hf x (hm x hx))
    have hx := eqCallS_ev _ hl hf
    have hmk := markCallS_ev zs 1 hz (by omega) (by omega)
    have hhd := heldCallS_ev zs.length 1 hz (by omega) (by omega)
    have hmx := markCallS_ev (ys.map cvC) 1 hl (by omega) (by omega)
    refine Ev.bind ht (Ev.bind hs (Ev.bind ht (Ev.bind hi (Ev.bind he (Ev.ite_pos rfl ?_)))))
    have hbb : (b != b) = false := by simp
    have hj2 : Ev (fun k => laws_FnExactWithoutCall.j2 k (marksC markC 5 1 zs.length) (1 + 5 * (zs.length : Int)) (b != b)) true := by
      rw [hbb]
      refine Ev.step (fun k => by simp only [laws_FnExactWithoutCall.j2]; rw [if_neg (by simp)]) ?_
      exact Ev.bind hhd (Ev.ite_neg (by omega) (Ev.ite_pos rfl (Ev.now _)))
    have hj1 : Ev (fun k => laws_FnExactWithoutCall.j1 k ys i zs b zs (b != b)) true := by
      rw [hbb]
      refine Ev.step (fun k => by simp only [laws_FnExactWithoutCall.j1]; rw [if_neg (by simp)]) ?_
      exact Ev.bind hmk (Ev.bind hhd (Ev.ite_neg (by omega) (Ev.ite_pos rfl (Ev.bind ht (Ev.bind hi (Ev.bind he (Ev.ite_pos rfl hj2)))))))
    show Ev (fun k => laws_FnExactWithoutCall.j0 k ys i zs b (ys.map cvC) zs b (b != b)) true
    rw [hbb]
    refine Ev.step (fun k => by simp only [laws_FnExactWithoutCall.j0]; rw [if_neg (by simp)]) ?_
    exact Ev.bind ht (Ev.bind hx (Ev.ite_pos rfl (Ev.bind hmx (Ev.ite_neg (by show ¬ (1 + 5 * ((ys.map cvC).length : Int) < 0); omega) (Ev.bind he (Ev.ite_pos rfl hj1))))))

end Go.Proofs.Yteaahcofgnghaaa.Pure

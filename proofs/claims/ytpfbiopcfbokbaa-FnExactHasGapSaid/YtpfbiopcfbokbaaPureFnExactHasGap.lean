/- The pure statement of FnExactHasGap: a load of the other cell behind a store with no fence between, by two marks on both sides. -/
import Derived.Test.YtpfbiopcfbokbaaQFnExactHasGap
import Derived.Test.YtpfbiopcfbokbaaMBase
import Derived.KernelRfl
import Derived.Test.YtpfbiopcfbokbaaMNum
set_option linter.unusedVariables false
set_option linter.unusedSimpArgs false
namespace Go.Proofs.Ytpfbiopcfbokbaa.Pure
open Go.RowKit Go.Proofs.Ytpfbiopcfbokbaa.GHasGap Go.Proofs.YtpfbiopcfbokbaaW.PrintWords Go.Proofs.YtpfbiopcfbokbaaW.PrintLast Go.Proofs.YtpfbiopcfbokbaaW.PrintMore Go.Proofs.Ytpfbiopcfbokbaa.MBase
open Go.Proofs.Ytpfbiopcfbokbaa.MNum Go.Proofs.Ytpfbiopcfbokbaa.MIeee
/-- A loop that goes on to n with the same result. -/
theorem ev_up {α : Type} (L : Nat → Int → Option α) (n : Nat) (r : α) (hs : ∀ i : Nat, i < n → Ev (fun k => L k ((i + 1 : Nat) : Int)) r → Ev (fun k => L k (i : Int)) r) (he : Ev (fun k => L k (n : Int)) r) :
    ∀ d i : Nat, i + d = n → Ev (fun k => L k (i : Int)) r
  | 0, i, h => by
    have : i = n := by omega
    subst this
    exact he
  | d + 1, i, h => hs i (by omega) (ev_up L n r hs he d (i + 1) (by omega))
/-- A loop that fills a row, place by place. -/
theorem ev_map {α β : Type} (L : Nat → List β → Int → Option (List β)) (xs : List α) (f : α → β) (z : α)
    (hs : ∀ (i : Nat) (acc r : List β), i < xs.length → acc.length = xs.length → Ev (fun k => L k (acc.set i (f (xs.getD i z))) ((i + 1 : Nat) : Int)) r → Ev (fun k => L k acc (i : Int)) r)
    (he : ∀ acc : List β, acc.length = xs.length → Ev (fun k => L k acc (xs.length : Int)) acc) :
    ∀ (d i : Nat) (acc : List β), i + d = xs.length → acc.length = xs.length → Ev (fun k => L k acc (i : Int)) (acc.take i ++ (xs.drop i).map f)
  | 0, i, acc, h, ha => by
    have e : acc.take i ++ (xs.drop i).map f = acc := by rw [List.take_of_length_le (by omega), List.drop_eq_nil_of_le (by omega), List.map_nil, List.append_nil]
    rw [e]
    have : i = xs.length := by omega
    subst this
    exact he acc ha
  | d + 1, i, acc, h, ha => by
    have ih := ev_map L xs f z hs he d (i + 1) (acc.set i (f (xs.getD i z))) (by omega) (by simpa using ha)
    have e : (acc.set i (f (xs.getD i z))).take (i + 1) ++ (xs.drop (i + 1)).map f = acc.take i ++ (xs.drop i).map f := by
      rw [List.take_succ_eq_append_getElem (by simp; omega), List.getElem_set_self, List.take_set, List.set_eq_of_length_le (by simp; omega), List.append_assoc, List.drop_eq_getElem_cons (show i < xs.length by omega), List.map_cons]
      simp [List.getD_eq_getElem?_getD, List.getElem?_eq_getElem (show i < xs.length by omega)]
    rw [e] at ih
    exact hs i acc _ (by omega) ha ih
theorem ev_map_all {α β : Type} (L : Nat → List β → Int → Option (List β)) (xs : List α) (f : α → β) (z : α) (y : β)
    (hs : ∀ (i : Nat) (acc r : List β), i < xs.length → acc.length = xs.length → Ev (fun k => L k (acc.set i (f (xs.getD i z))) ((i + 1 : Nat) : Int)) r → Ev (fun k => L k acc (i : Int)) r)
    (he : ∀ acc : List β, acc.length = xs.length → Ev (fun k => L k acc (xs.length : Int)) acc) :
    Ev (fun k => L k (List.replicate xs.length y) 0) (xs.map f) := by
  have h := ev_map L xs f z hs he xs.length 0 (List.replicate xs.length y) (by omega) (by simp)
  simpa using h
def minus (x : Nat) : Bool := decide (key x < 0) || decide (x = 9223372036854775808)
theorem spec_minus {x : Nat} (hx : x < 18446744073709551616) : spec_IsMinus.f x = some (if isNan x = true then false else minus x) := by
  unfold spec_IsMinus.f
  cases hn : isNan x with
  | true => rw [flt_nan (.inl hn), feq_nan (.inl hn)]; rfl
  | false =>
    rw [flt_eq hn nan_zero, feq_eq hn nan_zero, key_zero]
    unfold minus
    by_cases h : key x < 0
    · simp [h]
    · by_cases h2 : key x = 0
      · rcases zero_cases hx (key_rg_zero.mp h2) with rfl | rfl
        · rw [if_neg (by simp [h]), if_pos (by simp [h2]), if_pos inv_pz.1, inv_pz.2.1]; rfl
        · rw [if_neg (by simp [h]), if_pos (by simp [h2]), if_pos inv_nz.1, inv_nz.2.1]; rfl
      · have : x ≠ 9223372036854775808 := by rintro rfl; exact h2 (by decide)
        simp [h, h2, this]
/-- Two numbers are one: both no number, or the same bits. -/
def same (x y : Nat) : Bool := if isNan x = true then isNan y else decide (isNan y = false ∧ x = y)
theorem spec_nan (x : Nat) : spec_l1Nan.f x = some (isNan x) := by
  unfold spec_l1Nan.f; rw [feq_self]; cases isNan x <;> rfl
theorem minus_pz : minus 0 = false := by decide
theorem minus_nz : minus 9223372036854775808 = true := by decide
theorem spec_same {x y : Nat} (hx : x < 18446744073709551616) (hy : y < 18446744073709551616) : Ev (fun k => spec_l1SameNum.f k x y) (same x y) := by
  simp only [spec_l1SameNum.f, spec_nan, Option.bind_some]
  unfold same
  cases hn : isNan x with
  | true =>
    rw [if_pos rfl]
    refine Ev.ite_pos rfl (Ev.step (f := fun _ => some (isNan y)) (fun k => ?_) (Ev.now _))
    simp only [spec_l1SameNum.j0, spec_nan, Option.bind_some]; rw [if_pos trivial, hn, if_pos rfl]
  | false =>
    rw [if_neg (by simp)]
    refine Ev.ite_neg (by simp) ?_
    cases hm : isNan y with
    | true =>
      rw [decide_eq_false (by simp)]
      refine Ev.step (f := fun _ => some false) (fun k => ?_) (Ev.now _)
      simp only [spec_l1SameNum.j0, spec_nan, Option.bind_some]; rw [if_pos trivial, hn, if_neg (by simp)]
    | false =>
      refine Ev.step (f := fun _ => some (decide (false = false ∧ x = y))) (fun k => ?_) (Ev.now _)
      simp only [spec_l1SameNum.j0, spec_minus hx, spec_minus hy, Option.bind_some]
      rw [if_neg (by simp), feq_eq hn hm, hn, hm]
      simp only [Bool.false_eq_true, if_false, decide_eq_true_eq, true_and]
      by_cases hk : key x = key y
      · rw [if_pos hk]
        congr 1
        by_cases h0 : rg x = 0
        · have hy0 : rg y = 0 := key_rg_zero.mp (hk ▸ key_rg_zero.mpr h0)
          rcases zero_cases hx h0 with rfl | rfl <;> rcases zero_cases hy hy0 with rfl | rfl <;> decide
        · have := key_inj hx hy h0 hk
          subst this
          simp
      · rw [if_neg hk]
        congr 1
        rw [eq_comm, decide_eq_false_iff_not]
        rintro rfl
        exact hk rfl
theorem sameFloat_ev {x y : Nat} (hx : x < 18446744073709551616) (hy : y < 18446744073709551616) : Ev (fun k => laws_sameFloat.f k x y) (if isNan x = true then isNan y else decide (isNan y = false ∧ x = y)) := by
  simp only [laws_sameFloat.f, feq_self]
  cases hn : isNan x with
  | true =>
    rw [if_pos rfl]
    refine Ev.ite_neg (by simp) (Ev.step (f := fun _ => some (isNan y)) (fun k => ?_) (Ev.now _))
    simp only [laws_sameFloat.j0, feq_self, hn]; rw [if_pos trivial, if_neg (by simp)]; cases isNan y <;> rfl
  | false =>
    rw [if_neg (by simp)]
    refine Ev.ite_pos rfl ?_
    refine Ev.step (f := fun _ => some (decide (isNan y = false ∧ x = y))) (fun k => ?_) (Ev.now _)
    simp only [laws_sameFloat.j0, feq_self, hn]
    cases hm : isNan y with
    | true => simp
    | false =>
      rw [if_neg (by simp), feq_eq hn nan_zero, feq_eq hm nan_zero, feq_eq hn hm, key_zero]
      simp only [decide_eq_true_eq, true_and]
      by_cases h0 : key x = 0
      · rw [if_pos h0]
        by_cases h1 : key y = 0
        · rw [if_pos h1]
          rcases zero_cases hx (key_rg_zero.mp h0) with rfl | rfl <;> rcases zero_cases hy (key_rg_zero.mp h1) with rfl | rfl
          · rw [if_pos inv_pz.1, if_pos inv_pz.1, inv_pz.2.2]; rfl
          · rw [if_pos inv_pz.1, if_pos inv_nz.1, inv_pz.2.2, inv_nz.2.2]; rfl
          · rw [if_pos inv_nz.1, if_pos inv_pz.1, inv_pz.2.2, inv_nz.2.2]; rfl
          · rw [if_pos inv_nz.1, if_pos inv_nz.1, inv_nz.2.2]; rfl
        · rw [if_neg h1]
          congr 1
          rw [decide_eq_decide]
          exact ⟨fun q => absurd (q ▸ h0) h1, fun q => by rw [q]⟩
      · rw [if_neg h0]
        congr 1
        rw [decide_eq_decide]
        exact ⟨fun q => key_inj hx hy (fun z => h0 (key_rg_zero.mpr z)) q, fun q => by rw [q]⟩
theorem sameFloat_refl (x : Nat) (hx : x < 18446744073709551616) : Ev (fun k => laws_sameFloat.f k x x) true := by
  have h := sameFloat_ev hx hx
  cases hn : isNan x <;> rw [hn] at h <;> simpa using h
theorem l1In_dec (a b c : Int) : spec_l1In.f a b c = some (decide (b ≤ a ∧ a ≤ c)) := by
  unfold spec_l1In.f
  by_cases h : b ≤ a
  · rw [if_pos h]; simp [h]
  · rw [if_neg h]; simp [h]
theorem in_dec (a b c : Int) : impl_in.f a b c = some (decide (b ≤ a ∧ a ≤ c)) := l1In_dec a b c
theorem math_nan (x : Nat) : math_IsNaN.f x = some (isNan x) := by
  unfold math_IsNaN.f; rw [feq_self]; cases isNan x <;> rfl
theorem impl_same {x y : Nat} : impl_SameNum.f x y = some (same x y) := by
  simp only [impl_SameNum.f, math_nan, Option.bind_some]
  unfold same
  cases hn : isNan x with
  | true =>
    rw [if_pos rfl, if_pos rfl]
    cases hm : isNan y with
    | true => rfl
    | false =>
      rw [if_neg (by simp)]
      congr 1
      rw [beq_eq_false_iff_ne]
      intro q
      have : x = y := by omega
      rw [this, hm] at hn
      cases hn
  | false =>
    rw [if_neg (by simp), if_neg (by simp)]
    congr 1
    rw [Bool.eq_iff_iff, beq_iff_eq, decide_eq_true_eq]
    constructor
    · intro q
      have : x = y := by omega
      exact ⟨this ▸ hn, this⟩
    · rintro ⟨_, rfl⟩; rfl
def ga (x : S135) : Bool := if x.f0 = 1 then decide (0 ≤ x.f1 ∧ x.f1 ≤ 1) else if x.f0 = 2 then (if 0 ≤ x.f1 ∧ x.f1 ≤ 1 then same x.f2 0 else false) else if x.f0 = 3 then (if x.f1 = 0 then same x.f2 0 else false) else false
theorem spec_ga (x : S135) (hx : x.f2 < 18446744073709551616) : Ev (fun k => spec_l19Act.f k x.f0 x.f1 x.f2) (ga x) := by
  simp only [spec_l19Act.f, l1In_dec, Option.bind_some, decide_eq_true_eq]
  unfold ga
  have hs : Ev (fun k => (spec_l1SameNum.f k x.f2 0).bind fun t => some t) (same x.f2 0) := Ev.bind (spec_same hx (by omega)) (Ev.now _)
  by_cases h1 : x.f0 = 1
  · rw [if_pos h1]; exact Ev.ite_pos h1 (Ev.now _)
  · rw [if_neg h1]
    refine Ev.ite_neg h1 ?_
    by_cases h2 : x.f0 = 2
    · rw [if_pos h2]
      refine Ev.ite_pos h2 ?_
      by_cases h3 : 0 ≤ x.f1 ∧ x.f1 ≤ 1
      · rw [if_pos h3]; exact Ev.ite_pos h3 hs
      · rw [if_neg h3]; exact Ev.ite_neg h3 (Ev.now _)
    · rw [if_neg h2]
      refine Ev.ite_neg h2 ?_
      by_cases h4 : x.f0 = 3
      · rw [if_pos h4]
        refine Ev.ite_pos h4 ?_
        by_cases h5 : x.f1 = 0
        · rw [if_pos h5]; exact Ev.ite_pos h5 hs
        · rw [if_neg h5]; exact Ev.ite_neg h5 (Ev.now _)
      · rw [if_neg h4]; exact Ev.ite_neg h4 (Ev.now _)
theorem impl_ga (x : S135) : impl_GoodLitmus_1.f x.f0 x.f1 x.f2 = some (!ga x) := by
  have h : impl_Act_isGood.f x.f0 x.f1 x.f2 = some (ga x) := by
    simp only [impl_Act_isGood.f, in_dec, impl_same, Option.bind_some, decide_eq_true_eq]
    unfold ga
    by_cases h1 : x.f0 = 1
    · rw [if_pos h1, if_pos h1]
    · rw [if_neg h1, if_neg h1]
      by_cases h2 : x.f0 = 2
      · rw [if_pos h2, if_pos h2]; split <;> rfl
      · rw [if_neg h2, if_neg h2]
        by_cases h4 : x.f0 = 3
        · rw [if_pos h4, if_pos h4]; split <;> rfl
        · rw [if_neg h4, if_neg h4]
  simp only [impl_GoodLitmus_1.f]; rw [h, Option.bind_some]
theorem rd125 (xs : List S135) (i : Nat) (h : i < xs.length) : rd_T135 xs (i : Int) = xs[i] := by
  simp [rd_T135, h]
theorem rdL5 (xs : List (List S135)) (i : Nat) (h : i < xs.length) : rd_L5 xs (i : Int) = xs[i] := by
  simp [rd_L5, h]
/-- What both loops come to, from row i on. -/
def goodR (xs : List (List S135)) : Nat → Nat → Bool
  | 0, _ => decide ((xs.length : Int) ≤ 3)
  | d + 1, i => if ((xs.getD i []).all ga && decide (((xs.getD i []).length : Int) ≤ 6)) = true then goodR xs d (i + 1) else false
theorem inner_spec (xs : List (List S135)) (row : List S135) (hr : row.length ≤ 1048576) (hf : ∀ x ∈ row, x.f2 < 18446744073709551616) (i : Int) (r : Bool)
    (h : Ev (fun k => spec_GoodLitmus.l0 k xs xs (xs.length : Int) (wrap64 (i + 1))) r) : ∀ d j : Nat, j + d = row.length →
    Ev (fun k => spec_GoodLitmus.l1 k xs row xs (xs.length : Int) i row (row.length : Int) (j : Int)) (if ((row.drop j).all ga && decide ((row.length : Int) ≤ 6)) = true then r else false)
  | 0, j, e => by
    rw [List.drop_eq_nil_of_le (by omega), List.all_nil, Bool.true_and]
    refine Ev.step (f := fun k => if (row.length : Int) > 6 then some false else spec_GoodLitmus.l0 k xs xs (xs.length : Int) (wrap64 (i + 1))) (fun k => by simp only [spec_GoodLitmus.l1]; rw [if_neg (by omega)]) ?_
    by_cases h6 : (row.length : Int) > 6
    · rw [decide_eq_false (by omega)]; exact Ev.ite_pos h6 (Ev.now _)
    · rw [decide_eq_true (by omega)]; exact Ev.ite_neg h6 h
  | d + 1, j, e => by
    have hj : j < row.length := by omega
    rw [List.drop_eq_getElem_cons hj, List.all_cons]
    have hst : ∀ k, spec_GoodLitmus.l1 (k+1) xs row xs (xs.length : Int) i row (row.length : Int) (j : Int) = (spec_l19Act.f k (row[j]).f0 (row[j]).f1 (row[j]).f2).bind fun t => if t = true then spec_GoodLitmus.l1 k xs row xs (xs.length : Int) i row (row.length : Int) ((j + 1 : Nat) : Int) else some false := by
      intro k
      simp only [spec_GoodLitmus.l1]
      rw [if_pos (by omega), if_pos (by omega), if_pos (by omega), rd125 row j hj, wrap_id (n := (j : Int) + 1) (by omega) (by omega)]
      rfl
    have hg := spec_ga row[j] (hf _ (List.getElem_mem _))
    cases hb : ga row[j] with
    | true =>
      rw [Bool.true_and]
      exact Ev.step hst (Ev.bind hg (Ev.ite_pos hb (inner_spec xs row hr hf i r h d (j + 1) (by omega))))
    | false =>
      rw [Bool.false_and, Bool.false_and]
      exact Ev.step hst (Ev.bind hg (Ev.ite_neg (by simp [hb]) (Ev.now _)))
theorem outer_spec (xs : List (List S135)) (hx : xs.length ≤ 1048576) (hl : ∀ row ∈ xs, row.length ≤ 1048576) (hf : ∀ row ∈ xs, ∀ x ∈ row, x.f2 < 18446744073709551616) : ∀ d i : Nat, i + d = xs.length → Ev (fun k => spec_GoodLitmus.l0 k xs xs (xs.length : Int) (i : Int)) (goodR xs d i)
  | 0, i, h => by
    refine Ev.step (f := fun _ => some (decide ((xs.length : Int) ≤ 3))) (fun k => ?_) (Ev.now _)
    simp only [spec_GoodLitmus.l0]; rw [if_neg (by omega)]
  | d + 1, i, h => by
    have hi : i < xs.length := by omega
    have eg : xs.getD i [] = xs[i] := by simp [hi]
    unfold goodR
    rw [eg]
    have ih := outer_spec xs hx hl hf d (i + 1) (by omega)
    have q := inner_spec xs xs[i] (hl _ (List.getElem_mem _)) (hf _ (List.getElem_mem _)) (i : Int) (goodR xs d (i + 1)) (by rw [wrap_id (n := (i : Int) + 1) (by omega) (by omega)]; exact ih) (xs[i]).length 0 (by omega)
    rw [List.drop_zero] at q
    refine Ev.step (fun k => ?_) q
    simp only [spec_GoodLitmus.l0]
    rw [if_pos (by omega), if_pos (by omega), if_pos (by omega), rdL5 xs i hi]
    rfl
theorem index_loop (xs : List S135) (hx : xs.length ≤ 1048576) : ∀ d i : Nat, i + d = xs.length → ∃ r : Int, (decide (r ≥ 0) = !(xs.drop i).all ga) ∧ Ev (fun k => slices_IndexFunc_impl_GoodLitmus_1.l0 k xs (xs.length : Int) (i : Int)) r
  | 0, i, h => by
    rw [List.drop_eq_nil_of_le (by omega)]
    refine ⟨-1, by simp, Ev.step (f := fun _ => some (-1)) (fun k => ?_) (Ev.now _)⟩
    simp only [slices_IndexFunc_impl_GoodLitmus_1.l0]; rw [if_neg (by omega)]
  | d + 1, i, h => by
    have hi : i < xs.length := by omega
    rw [List.drop_eq_getElem_cons hi, List.all_cons]
    have hst : ∀ k, slices_IndexFunc_impl_GoodLitmus_1.l0 (k+1) xs (xs.length : Int) (i : Int) = if (!ga xs[i]) = true then some (i : Int) else slices_IndexFunc_impl_GoodLitmus_1.l0 k xs (xs.length : Int) ((i + 1 : Nat) : Int) := by
      intro k
      simp only [slices_IndexFunc_impl_GoodLitmus_1.l0]
      rw [if_pos (by omega), if_pos (by omega), if_pos (by omega), wrap_id (n := (i : Int) + 1) (by omega) (by omega), rd125 xs i hi, impl_ga, Option.bind_some]
      rfl
    cases hg : ga xs[i] with
    | true =>
      obtain ⟨r, hr, ih⟩ := index_loop xs hx d (i + 1) (by omega)
      exact ⟨r, by rw [Bool.true_and]; exact hr, Ev.step hst (Ev.ite_neg (by simp [hg]) ih)⟩
    | false =>
      exact ⟨(i : Int), by simp, Ev.step hst (Ev.ite_pos (by simp [hg]) (Ev.now _))⟩
theorem contains_ev (xs : List S135) (hx : xs.length ≤ 1048576) : Ev (fun k => slices_ContainsFunc_impl_GoodLitmus_1.f k xs) (!xs.all ga) := by
  obtain ⟨r, hr, hi⟩ := index_loop xs hx xs.length 0 (by omega)
  rw [List.drop_zero] at hr
  rw [← hr]
  exact Ev.bind (f := fun _ t => some (decide (t ≥ 0))) hi (Ev.now _)
theorem outer_impl (xs : List (List S135)) (hx : xs.length ≤ 1048576) (hl : ∀ row ∈ xs, row.length ≤ 1048576) : ∀ d i : Nat, i + d = xs.length → Ev (fun k => impl_GoodLitmus.l0 k xs xs (xs.length : Int) (i : Int)) (goodR xs d i)
  | 0, i, h => by
    refine Ev.step (f := fun _ => some (decide ((xs.length : Int) ≤ 3))) (fun k => ?_) (Ev.now _)
    simp only [impl_GoodLitmus.l0]; rw [if_neg (by omega)]
  | d + 1, i, h => by
    have hi : i < xs.length := by omega
    have eg : xs.getD i [] = xs[i] := by simp [hi]
    unfold goodR
    rw [eg]
    have ih := outer_impl xs hx hl d (i + 1) (by omega)
    refine Ev.step (f := fun k => if ((xs[i]).length : Int) > 6 then some false else (slices_ContainsFunc_impl_GoodLitmus_1.f k xs[i]).bind fun t => if t = true then some false else impl_GoodLitmus.l0 k xs xs (xs.length : Int) ((i + 1 : Nat) : Int)) (fun k => ?_) ?_
    · simp only [impl_GoodLitmus.l0]
      rw [if_pos (by omega), if_pos (by omega), if_pos (by omega), rdL5 xs i hi, wrap_id (n := (i : Int) + 1) (by omega) (by omega)]
      rfl
    · by_cases h6 : ((xs[i]).length : Int) > 6
      · rw [decide_eq_false (by omega), Bool.and_false, if_neg (by simp)]; exact Ev.ite_pos h6 (Ev.now _)
      · rw [decide_eq_true (by omega), Bool.and_true]
        refine Ev.ite_neg h6 (Ev.bind (contains_ev xs[i] (hl _ (List.getElem_mem _))) ?_)
        cases hb : (xs[i]).all ga with
        | true => rw [if_pos rfl]; exact Ev.ite_neg (by simp) ih
        | false => rw [if_neg (by simp)]; exact Ev.ite_pos rfl (Ev.now _)
def cvA (x : S167) : S135 := ⟨x.f0, x.f1, x.f2⟩
theorem toActS_ev (xs : List S167) (hx : xs.length ≤ 1048576) : Ev (fun k => laws_toActS.f k xs) (xs.map cvA) := by
  refine Ev.congr (fun k => ?_) (ev_map_all (fun k acc i => laws_toActS.l0 k xs acc i) xs cvA z167 z135 (fun i acc r hi ha h => ?_) (fun acc ha => ?_))
  · simp only [laws_toActS.f]
    rw [if_pos (by omega), if_pos (by simp only [Int.toNat_natCast]; omega)]
    simp only [Int.toNat_natCast]
  · refine Ev.step (fun k => ?_) h
    simp only [laws_toActS.l0, laws_toAct.f, Option.bind_some]
    rw [if_pos (by omega), if_pos (by omega), if_pos (by omega), wrap_id (n := (i : Int) + 1) (by omega) (by omega)]
    rfl
  · refine Ev.step (f := fun _ => some acc) (fun k => ?_) (Ev.now _)
    simp only [laws_toActS.l0]; rw [if_neg (by omega)]
theorem toActSS_ev (xs : List (List S167)) (hx : xs.length ≤ 1048576) (hl : ∀ row ∈ xs, row.length ≤ 1048576) : Ev (fun k => laws_toActSS.f k xs) (xs.map (fun row => row.map cvA)) := by
  refine Ev.congr (fun k => ?_) (ev_map_all (fun k acc i => laws_toActSS.l0 k xs acc i) xs (fun row => row.map cvA) [] [] (fun i acc r hi ha h => ?_) (fun acc ha => ?_))
  · simp only [laws_toActSS.f]
    rw [if_pos (by omega), if_pos (by simp only [Int.toNat_natCast]; omega)]
    simp only [Int.toNat_natCast]
  · have eg : xs.getD i [] = xs[i] := by simp [hi]
    have er : rd_L3 xs (i : Int) = xs[i] := by simp [rd_L3, hi]
    rw [eg] at h
    refine Ev.step (f := fun k => (laws_toActS.f k xs[i]).bind fun t => laws_toActSS.l0 k xs (acc.set i t) ((i + 1 : Nat) : Int)) (fun k => ?_) (Ev.bind (toActS_ev xs[i] (hl _ (List.getElem_mem _))) h)
    simp only [laws_toActSS.l0]
    rw [if_pos (by omega), if_pos (by omega), er, wrap_id (n := (i : Int) + 1) (by omega) (by omega)]
    congr 1
    funext t
    rw [if_pos (by omega)]
    rfl
  · refine Ev.step (f := fun _ => some acc) (fun k => ?_) (Ev.now _)
    simp only [laws_toActSS.l0]; rw [if_neg (by omega)]
theorem eqAct_refl (x : S135) (hx : x.f2 < 18446744073709551616) : Ev (fun k => laws_eqAct.f k x.f0 x.f1 x.f2 x.f0 x.f1 x.f2) true := by
  simp only [laws_eqAct.f]
  exact Ev.ite_pos trivial (Ev.ite_pos trivial (Ev.bind (sameFloat_refl x.f2 hx) (Ev.ite_pos rfl (Ev.now _))))
theorem eqActS_ev (xs : List S135) (hx : xs.length ≤ 1048576) (hf : ∀ x ∈ xs, x.f2 < 18446744073709551616) : Ev (fun k => laws_eqActS.f k xs xs) true := by
  have h := ev_up (fun k i => laws_eqActS.l0 k xs xs i) xs.length true (fun i hi h => ?_) ?_ xs.length 0 (by omega)
  · refine Ev.congr (fun k => ?_) h
    simp only [laws_eqActS.f]; rw [if_pos trivial]; rfl
  · refine Ev.step (f := fun k => (laws_eqAct.f k (xs[i]).f0 (xs[i]).f1 (xs[i]).f2 (xs[i]).f0 (xs[i]).f1 (xs[i]).f2).bind fun t => if t = true then laws_eqActS.l0 k xs xs ((i + 1 : Nat) : Int) else some false) (fun k => ?_) (Ev.bind (eqAct_refl _ (hf _ (List.getElem_mem _))) (Ev.ite_pos rfl h))
    simp only [laws_eqActS.l0]
    rw [if_pos (by omega), if_pos (by omega), if_pos (by omega), wrap_id (n := (i : Int) + 1) (by omega) (by omega), rd125 xs i hi]
    rfl
  · refine Ev.step (f := fun _ => some true) (fun k => ?_) (Ev.now _)
    simp only [laws_eqActS.l0]; rw [if_neg (by omega)]
theorem eqActSS_ev (xs : List (List S135)) (hx : xs.length ≤ 1048576) (hl : ∀ row ∈ xs, row.length ≤ 1048576) (hf : ∀ row ∈ xs, ∀ x ∈ row, x.f2 < 18446744073709551616) : Ev (fun k => laws_eqActSS.f k xs xs) true := by
  have h := ev_up (fun k i => laws_eqActSS.l0 k xs xs i) xs.length true (fun i hi h => ?_) ?_ xs.length 0 (by omega)
  · refine Ev.congr (fun k => ?_) h
    simp only [laws_eqActSS.f]; rw [if_pos trivial]; rfl
  · refine Ev.step (f := fun k => (laws_eqActS.f k xs[i] xs[i]).bind fun t => if t = true then laws_eqActSS.l0 k xs xs ((i + 1 : Nat) : Int) else some false) (fun k => ?_) (Ev.bind (eqActS_ev _ (hl _ (List.getElem_mem _)) (hf _ (List.getElem_mem _))) (Ev.ite_pos rfl h))
    simp only [laws_eqActSS.l0]
    rw [if_pos (by omega), if_pos (by omega), if_pos (by omega), wrap_id (n := (i : Int) + 1) (by omega) (by omega), rdL5 xs i hi]
    rfl
  · refine Ev.step (f := fun _ => some true) (fun k => ?_) (Ev.now _)
    simp only [laws_eqActSS.l0]; rw [if_neg (by omega)]
theorem sz_row (l : List S167) (m : Int) (h0 : 0 ≤ m) (h1 : m ≤ 1048576) (hl : l.length ≤ 9223372036854775807) : laws_szActS.f l m = some (if m - (l.length : Int) < 0 then -1 else m - (l.length : Int)) := by
  simp only [laws_szActS.f]
  rw [wrap_id (by omega) (by omega)]
  split <;> rfl
theorem sz_loop (ys : List (List S167)) (hy : ys.length ≤ 1048576) (ho : ∀ row ∈ ys, row.length ≤ 9223372036854775807) : ∀ (d i : Nat) (m : Int), i + d = ys.length → 0 ≤ m → m ≤ 1048576 →
    ∃ r, Ev (fun k => laws_szActSS.l0 k ys m (i : Int)) r ∧ (0 ≤ r → ∀ j (h : j < ys.length), i ≤ j → (ys[j]).length ≤ 1048576)
  | 0, i, m, h, h0, h1 => by
    refine ⟨m, Ev.step (f := fun _ => some m) (fun k => ?_) (Ev.now _), fun _ j hj hij => by omega⟩
    simp only [laws_szActSS.l0]; rw [if_neg (by omega)]
  | d + 1, i, m, h, h0, h1 => by
    have hi : i < ys.length := by omega
    have er : rd_L3 ys (i : Int) = ys[i] := by simp [rd_L3, hi]
    have hst : ∀ k, laws_szActSS.l0 (k+1) ys m (i : Int) = if (if m - ((ys[i]).length : Int) < 0 then (-1 : Int) else m - ((ys[i]).length : Int)) < 0 then some (-1) else laws_szActSS.l0 k ys (if m - ((ys[i]).length : Int) < 0 then (-1 : Int) else m - ((ys[i]).length : Int)) ((i + 1 : Nat) : Int) := by
      intro k
      simp only [laws_szActSS.l0]
      rw [if_pos (by omega), if_pos (by omega), er, sz_row _ m h0 h1 (ho _ (List.getElem_mem _)), Option.bind_some, wrap_id (n := (i : Int) + 1) (by omega) (by omega)]
      rfl
    by_cases c : m - ((ys[i]).length : Int) < 0
    · simp only [if_pos c] at hst
      exact ⟨-1, Ev.step hst (Ev.ite_pos (by omega) (Ev.now _)), fun q => by omega⟩
    · simp only [if_neg c] at hst
      obtain ⟨r, hr, hall⟩ := sz_loop ys hy ho d (i + 1) (m - ((ys[i]).length : Int)) (by omega) (by omega) (by omega)
      refine ⟨r, Ev.step hst hr, fun q j hj hij => ?_⟩
      by_cases e : j = i
      · subst e; omega
      · exact hall q j hj (by omega)
theorem sz_all (ys : List (List S167)) (hb : ys.length * 24 ≤ 140737488351232) (ho : ∀ row ∈ ys, row.length ≤ 9223372036854775807) : ∃ r, Ev (fun k => laws_szActSS.f k ys 1048576) r ∧ (0 ≤ r → ys.length ≤ 1048576 ∧ ∀ row ∈ ys, row.length ≤ 1048576) := by
  simp only [laws_szActSS.f]
  rw [wrap_id (n := 1048576 - (ys.length : Int)) (by omega) (by omega)]
  by_cases c : 1048576 - (ys.length : Int) < 0
  · exact ⟨-1, Ev.ite_pos c (Ev.now _), fun q => by omega⟩
  · obtain ⟨r, hr, hall⟩ := sz_loop ys (by omega) ho ys.length 0 (1048576 - (ys.length : Int)) (by omega) (by omega) (by omega)
    refine ⟨r, Ev.ite_neg c hr, fun q => ⟨by omega, fun row hrow => ?_⟩⟩
    obtain ⟨j, hj, rfl⟩ := List.getElem_of_mem hrow
    exact hall q j hj (by omega)
theorem goodR_all (xs : List (List S135)) : ∀ d i : Nat, i + d = xs.length → goodR xs d i = true → ∀ j, i ≤ j → (h : j < xs.length) → (xs[j]).all ga = true
  | 0, i, h, _, j, hij, hj => by omega
  | d + 1, i, h, hg, j, hij, hj => by
    have hi : i < xs.length := by omega
    have eg : xs.getD i [] = xs[i] := by simp [hi]
    unfold goodR at hg
    rw [eg] at hg
    by_cases c : ((xs[i]).all ga && decide (((xs[i]).length : Int) ≤ 6)) = true
    · rw [if_pos c] at hg
      rcases Nat.lt_or_ge i j with q | q
      · exact goodR_all xs d (i + 1) (by omega) hg j q hj
      · obtain rfl : j = i := by omega
        rw [Bool.and_eq_true] at c
        exact c.1
    · rw [if_neg c] at hg; cases hg
theorem gap_inner (xs : List (List S135)) (row : List S135) (hr : row.length ≤ 1048576) (hg : row.all ga = true) (i : Int)
    (hc : ∃ r0, Ev (fun k => spec_HasGap.l0 k xs (xs.length : Int) (wrap64 (i + 1))) r0 ∧ Ev (fun k => impl_HasGap.l0 k xs (xs.length : Int) (wrap64 (i + 1))) r0) : ∀ (d j : Nat) (a b : Bool), j + d = row.length →
    ∃ r, Ev (fun k => spec_HasGap.l1 k [a, b] xs (xs.length : Int) i row (row.length : Int) (j : Int)) r ∧ Ev (fun k => impl_HasGap.l1 k xs (xs.length : Int) i row (row.length : Int) (j : Int) a b) r
  | 0, j, a, b, h => by
    obtain ⟨r0, h1, h2⟩ := hc
    refine ⟨r0, Ev.step (fun k => ?_) h1, Ev.step (fun k => ?_) h2⟩
    · simp only [spec_HasGap.l1]; rw [if_neg (by omega)]
    · simp only [impl_HasGap.l1]; rw [if_neg (by omega)]
  | d + 1, j, a, b, h => by
    have hj : j < row.length := by omega
    have hx : ga row[j] = true := List.all_eq_true.mp hg _ (List.getElem_mem _)
    have ih := gap_inner xs row hr hg i hc d (j + 1)
    have ew : wrap64 ((j : Int) + 1) = ((j + 1 : Nat) : Int) := by rw [wrap_id] <;> omega
    generalize row[j] = x at hx
    have er : rd_T135 row (j : Int) = row[j] := rd125 row j hj
    have hx' : ga row[j] = true := List.all_eq_true.mp hg _ (List.getElem_mem _)
    unfold ga at hx'
    by_cases h1 : (row[j]).f0 = 1
    · rw [if_pos h1] at hx'
      have hb := of_decide_eq_true hx'
      by_cases z : (row[j]).f1 = 0
      · obtain ⟨r, e1, e2⟩ := ih true b (by omega)
        refine ⟨r, Ev.step (fun k => ?_) e1, Ev.step (fun k => ?_) e2⟩
        · simp only [spec_HasGap.l1, er, ew]
          rw [if_pos (by omega), if_pos (by omega), if_pos (by omega), if_neg (by omega), if_pos h1, if_pos (by omega), if_pos (by simp [z]), z]
          rfl
        · simp only [impl_HasGap.l1, er, ew]
          rw [if_pos (by omega), if_pos (by omega), if_pos (by omega), if_pos h1, if_pos z]
      · have z1 : (row[j]).f1 = 1 := by omega
        obtain ⟨r, e1, e2⟩ := ih a true (by omega)
        refine ⟨r, Ev.step (fun k => ?_) e1, Ev.step (fun k => ?_) e2⟩
        · simp only [spec_HasGap.l1, er, ew]
          rw [if_pos (by omega), if_pos (by omega), if_pos (by omega), if_neg (by omega), if_pos h1, if_pos (by omega), if_pos (by simp [z1]), z1]
          rfl
        · simp only [impl_HasGap.l1, er, ew]
          rw [if_pos (by omega), if_pos (by omega), if_pos (by omega), if_pos h1, if_neg z, if_pos z1]
    · rw [if_neg h1] at hx'
      by_cases h3 : (row[j]).f0 = 3
      · obtain ⟨r, e1, e2⟩ := ih false false (by omega)
        refine ⟨r, Ev.step (fun k => ?_) e1, Ev.step (fun k => ?_) e2⟩
        · simp only [spec_HasGap.l1, er, ew]
          rw [if_pos (by omega), if_pos (by omega), if_pos (by omega), if_pos h3]
        · simp only [impl_HasGap.l1, er, ew]
          rw [if_pos (by omega), if_pos (by omega), if_pos (by omega), if_neg h1, if_pos h3]
      · by_cases h2 : (row[j]).f0 = 2
        · rw [if_pos h2] at hx'
          have hb : 0 ≤ (row[j]).f1 ∧ (row[j]).f1 ≤ 1 := by
            by_cases q : 0 ≤ (row[j]).f1 ∧ (row[j]).f1 ≤ 1
            · exact q
            · rw [if_neg q] at hx'; cases hx'
          by_cases z : (row[j]).f1 = 1
          · have e1w : wrap64 (1 - (row[j]).f1) = 0 := by rw [z, wrap_id] <;> omega
            have es : ∀ k, spec_HasGap.l1 (k + 1) [a, b] xs (xs.length : Int) i row (row.length : Int) (j : Int) = if a = true then some (true, true) else spec_HasGap.l1 k [a, b] xs (xs.length : Int) i row (row.length : Int) ((j + 1 : Nat) : Int) := by
              intro k
              simp only [spec_HasGap.l1, er, ew, e1w]
              rw [if_pos (by omega), if_pos (by omega), if_pos (by omega), if_neg h3, if_neg h1, if_pos (by omega), if_pos (by simp)]
              rfl
            have ei : ∀ k, impl_HasGap.l1 (k + 1) xs (xs.length : Int) i row (row.length : Int) (j : Int) a b = if a = true then some (true, true) else impl_HasGap.l1 k xs (xs.length : Int) i row (row.length : Int) ((j + 1 : Nat) : Int) a b := by
              intro k
              simp only [impl_HasGap.l1, er, ew, e1w]
              rw [if_pos (by omega), if_pos (by omega), if_pos (by omega), if_neg h1, if_neg h3, if_pos trivial]
            cases a with
            | true => exact ⟨(true, true), Ev.step es (Ev.ite_pos rfl (Ev.now _)), Ev.step ei (Ev.ite_pos rfl (Ev.now _))⟩
            | false =>
              obtain ⟨r, e1, e2⟩ := ih false b (by omega)
              exact ⟨r, Ev.step es (Ev.ite_neg (by simp) e1), Ev.step ei (Ev.ite_neg (by simp) e2)⟩
          · have z0 : (row[j]).f1 = 0 := by omega
            have e1w : wrap64 (1 - (row[j]).f1) = 1 := by rw [z0, wrap_id] <;> omega
            have es : ∀ k, spec_HasGap.l1 (k + 1) [a, b] xs (xs.length : Int) i row (row.length : Int) (j : Int) = if b = true then some (true, true) else spec_HasGap.l1 k [a, b] xs (xs.length : Int) i row (row.length : Int) ((j + 1 : Nat) : Int) := by
              intro k
              simp only [spec_HasGap.l1, er, ew, e1w]
              rw [if_pos (by omega), if_pos (by omega), if_pos (by omega), if_neg h3, if_neg h1, if_pos (by omega), if_pos (by simp)]
              rfl
            have ei : ∀ k, impl_HasGap.l1 (k + 1) xs (xs.length : Int) i row (row.length : Int) (j : Int) a b = if b = true then some (true, true) else impl_HasGap.l1 k xs (xs.length : Int) i row (row.length : Int) ((j + 1 : Nat) : Int) a b := by
              intro k
              simp only [impl_HasGap.l1, er, ew, e1w]
              rw [if_pos (by omega), if_pos (by omega), if_pos (by omega), if_neg h1, if_neg h3, if_neg (by omega), if_pos trivial]
            cases b with
            | true => exact ⟨(true, true), Ev.step es (Ev.ite_pos rfl (Ev.now _)), Ev.step ei (Ev.ite_pos rfl (Ev.now _))⟩
            | false =>
              obtain ⟨r, e1, e2⟩ := ih a false (by omega)
              exact ⟨r, Ev.step es (Ev.ite_neg (by simp) e1), Ev.step ei (Ev.ite_neg (by simp) e2)⟩
        · rw [if_neg h2, if_neg h3] at hx'; cases hx'
theorem gap_outer (xs : List (List S135)) (hx : xs.length ≤ 1048576) (hl : ∀ row ∈ xs, row.length ≤ 1048576) (hg : ∀ j (h : j < xs.length), (xs[j]).all ga = true) : ∀ d i : Nat, i + d = xs.length →
    ∃ r, Ev (fun k => spec_HasGap.l0 k xs (xs.length : Int) (i : Int)) r ∧ Ev (fun k => impl_HasGap.l0 k xs (xs.length : Int) (i : Int)) r
  | 0, i, h => by
    refine ⟨(false, true), Ev.step (f := fun _ => some (false, true)) (fun k => ?_) (Ev.now _), Ev.step (f := fun _ => some (false, true)) (fun k => ?_) (Ev.now _)⟩
    · simp only [spec_HasGap.l0]; rw [if_neg (by omega)]
    · simp only [impl_HasGap.l0]; rw [if_neg (by omega)]
  | d + 1, i, h => by
    have hi : i < xs.length := by omega
    have ih := gap_outer xs hx hl hg d (i + 1) (by omega)
    rw [show ((i + 1 : Nat) : Int) = wrap64 ((i : Int) + 1) by rw [wrap_id] <;> omega] at ih
    obtain ⟨r, e1, e2⟩ := gap_inner xs xs[i] (hl _ (List.getElem_mem _)) (hg i hi) (i : Int) ih (xs[i]).length 0 false false (by omega)
    refine ⟨r, Ev.step (fun k => ?_) e1, Ev.step (fun k => ?_) e2⟩
    · simp only [spec_HasGap.l0]
      rw [if_pos (by omega), if_pos (by omega), if_pos (by omega), rdL5 xs i hi]
      rfl
    · simp only [impl_HasGap.l0]
      rw [if_pos (by omega), if_pos (by omega), if_pos (by omega), rdL5 xs i hi]
      rfl
theorem gap_same (xs : List (List S135)) (hx : xs.length ≤ 1048576) (hl : ∀ row ∈ xs, row.length ≤ 1048576) (hf : ∀ row ∈ xs, ∀ x ∈ row, x.f2 < 18446744073709551616) : ∃ r, Ev (fun k => spec_HasGap.f k xs) r ∧ Ev (fun k => impl_HasGap.f k xs) r := by
  have hs : Ev (fun k => spec_GoodLitmus.f k xs) (goodR xs xs.length 0) := outer_spec _ hx hl hf _ 0 (Nat.zero_add _)
  have hi : Ev (fun k => impl_GoodLitmus.f k xs) (goodR xs xs.length 0) := outer_impl _ hx hl _ 0 (Nat.zero_add _)
  have hall := goodR_all xs xs.length 0 (by omega)
  cases hb : goodR xs xs.length 0 with
  | false =>
    rw [hb] at hs hi
    exact ⟨(false, false), Ev.bind hs (Ev.ite_neg (by simp) (Ev.now _)), Ev.bind hi (Ev.ite_neg (by simp) (Ev.now _))⟩
  | true =>
    rw [hb] at hs hi
    obtain ⟨r, e1, e2⟩ := gap_outer xs hx hl (fun j h => hall hb j (by omega) h) xs.length 0 (by omega)
    exact ⟨r, Ev.bind hs (Ev.ite_pos rfl e1), Ev.bind hi (Ev.ite_pos rfl e2)⟩
theorem FnExactHasGap : laws_FnExactHasGap.Pure2 := by
  intro ys hok hb
  apply Ev.rounds
  simp only [laws_FnExactHasGap.f]
  obtain ⟨r, hr, hall⟩ := sz_all ys hb (fun row h => (hok.2 row h).1)
  refine Ev.bind hr ?_
  by_cases h : r < 0
  · exact Ev.ite_pos h (Ev.now _)
  · refine Ev.ite_neg h ?_
    obtain ⟨hx, hl⟩ := hall (by omega)
    have ht := toActSS_ev ys hx hl
    have hx' : (ys.map (fun row => row.map cvA)).length ≤ 1048576 := by simp; omega
    have hl' : ∀ row ∈ ys.map (fun row => row.map cvA), row.length ≤ 1048576 := by
      intro row hrow
      obtain ⟨q, hq, rfl⟩ := List.mem_map.mp hrow
      simp
      exact hl q hq
    have hf' : ∀ row ∈ ys.map (fun row => row.map cvA), ∀ x ∈ row, x.f2 < 18446744073709551616 := by
      intro row hrow x hx
      obtain ⟨q, hq, rfl⟩ := List.mem_map.mp hrow
      obtain ⟨y, hy, rfl⟩ := List.mem_map.mp hx
      exact ((hok.2 q hq).2 y hy).2.2
    obtain ⟨⟨r1, r2⟩, e1, e2⟩ := gap_same _ hx' hl' hf'
    have hn : ∀ b : Bool, (b != b) = false := fun b => by simp
    have hj : Ev (fun k => laws_FnExactHasGap.j0 k ys (ys.map (fun row => row.map cvA)) (r2 != r2)) true := by
      rw [hn]
      refine Ev.step (fun k => by simp only [laws_FnExactHasGap.j0]; rw [if_neg (by simp)]) ?_
      exact Ev.bind ht (Ev.bind (eqActSS_ev _ hx' hl' hf') (Ev.ite_pos rfl (Ev.now _)))
    exact Ev.bind ht (Ev.bind e1 (Ev.bind ht (Ev.bind e2 (Ev.ite_neg (by simp) hj))))

end Go.Proofs.Ytpfbiopcfbokbaa.Pure

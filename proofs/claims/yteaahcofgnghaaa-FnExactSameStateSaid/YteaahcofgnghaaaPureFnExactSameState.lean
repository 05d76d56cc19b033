/- The pure statement of FnExactSameState: both ask the same of two states, place by place. -/
import Derived.Test.YteaahcofgnghaaaQFnExactSameState
import Derived.Test.YteaahcofgnghaaaMBase
import Derived.KernelRfl
import Derived.Test.YteaahcofgnghaaaMNum
set_option linter.unusedVariables false
set_option linter.unusedSimpArgs false
namespace Go.Proofs.Yteaahcofgnghaaa.Pure
open Go.RowKit Go.Proofs.Yteaahcofgnghaaa.GSameState Go.Proofs.YteaahcofgnghaaaW.PrintWords Go.Proofs.YteaahcofgnghaaaW.PrintLast Go.Proofs.YteaahcofgnghaaaW.PrintMore Go.Proofs.Yteaahcofgnghaaa.MBase
open Go.Proofs.Yteaahcofgnghaaa.MNum Go.Proofs.Yteaahcofgnghaaa.MIeee
def minus (x : Nat) : Bool := decide (key x < 0) || decide (x = 9223372036854775808)
theorem spec_minus {x : Nat} (hx : x < 18446744073709551616) : spec_IsMinus.f x = some (if isNan x = true then false else minus x) := by
  unfold spec_IsMinus.f
  cases hn : isNan x with
  | true => rw [flt_nan (.inl hn), feq_nan (.inl hn)]; rfl
  | false =>
    rw [flt_eq hn nan_zero, feq_eq hn nan_zero, key_zero]
    unfold minus
    by_cases h : key x < 0
    · simp [h]
    · by_cases h2 : key x = 0
      · rcases zero_cases hx (key_rg_zero.mp h2) with rfl | rfl
        · rw [if_neg (by simp [h]), if_pos (by simp [h2]), if_pos inv_pz.1, inv_pz.2.1]; rfl
        · rw [if_neg (by simp [h]), if_pos (by simp [h2]), if_pos inv_nz.1, inv_nz.2.1]; rfl
      · have : x ≠ 9223372036854775808 := by rintro rfl; exact h2 (by decide)
        simp [h, h2, this]
/-- Two numbers are one: both no number, or the same bits. -/
def same (x y : Nat) : Bool := if isNan x = true then isNan y else decide (isNan y = false ∧ x = y)
theorem spec_nan (x : Nat) : spec_l1Nan.f x = some (isNan x) := by
  unfold spec_l1Nan.f; rw [feq_self]; cases isNan x <;> rfl
theorem minus_pz : minus 0 = false := by decide
theorem minus_nz : minus 9223372036854775808 = true := by decide
theorem spec_same {x y : Nat} (hx : x < 18446744073709551616) (hy : y < 18446744073709551616) : Ev (fun k => spec_l1SameNum.f k x y) (same x y) := by
  simp only [spec_l1SameNum.f, spec_nan, Option.bind_some]
  unfold same
  cases hn : isNan x with
  | true =>
    rw [if_pos rfl]
    refine Ev.ite_pos rfl (Ev.step (f := fun _ => some (isNan y)) (fun k => ?_) (Ev.now _))
    simp only [spec_l1SameNum.j0, spec_nan, Option.bind_some]; rw [if_pos trivial, hn, if_pos rfl]
  | false =>
    rw [if_neg (by simp)]
    refine Ev.ite_neg (by simp) ?_
    cases hm : isNan y with
    | true =>
      rw [decide_eq_false (by simp)]
      refine Ev.step (f := fun _ => some false) (fun k => ?_) (Ev.now _)
      simp only [spec_l1SameNum.j0, spec_nan, Option.bind_some]; rw [if_pos trivial, hn, if_neg (by simp)]
    | false =>
      refine Ev.step (f := fun _ => some (decide (false = false ∧ x = y))) (fun k => ?_) (Ev.now _)
      simp only [spec_l1SameNum.j0, spec_minus hx, spec_minus hy, Option.bind_some]
      rw [if_neg (by simp), feq_eq hn hm, hn, hm]
      simp only [Bool.false_eq_true, if_false, decide_eq_true_eq, true_and]
      by_cases hk : key x = key y
      · rw [if_pos hk]
        congr 1
        by_cases h0 : rg x = 0
        · have hy0 : rg y = 0 := key_rg_zero.mp (hk ▸ key_rg_zero.mpr h0)
          rcases zero_cases hx h0 with rfl | rfl <;> rcases zero_cases hy hy0 with rfl | rfl <;> decide
        · have := key_inj hx hy h0 hk
          subst this
          simp
      · rw [if_neg hk]
        congr 1
        rw [eq_comm, decide_eq_false_iff_not]
        rintro rfl
        exact hk rfl
/-- A loop that goes on to n with the same result. -/
theorem ev_up {α : Type} (L : Nat → Int → Option α) (n : Nat) (r : α) (hs : ∀ i : Nat, i < n → Ev (fun k => L k ((i + 1 : Nat) : Int)) r → Ev (fun k => L k (i : Int)) r) (he : Ev (fun k => L k (n : Int)) r) :
    ∀ d i : Nat, i + d = n → Ev (fun k => L k (i : Int)) r
  | 0, i, h => by
    have : i = n := by omega
    subst this
    exact he
  | d + 1, i, h => hs i (by omega) (ev_up L n r hs he d (i + 1) (by omega))
/-- A loop that fills a row, place by place. -/
theorem ev_map {α β : Type} (L : Nat → List β → Int → Option (List β)) (xs : List α) (f : α → β) (z : α)
    (hs : ∀ (i : Nat) (acc r : List β), i < xs.length → acc.length = xs.length → Ev (fun k => L k (acc.set i (f (xs.getD i z))) ((i + 1 : Nat) : Int)) r → Ev (fun k => L k acc (i : Int)) r)
    (he : ∀ acc : List β, acc.length = xs.length → Ev (fun k => L k acc (xs.length : Int)) acc) :
    ∀ (d i : Nat) (acc : List β), i + d = xs.length → acc.length = xs.length → Ev (fun k => L k acc (i : Int)) (acc.take i ++ (xs.drop i).map f)
  | 0, i, acc, h, ha => by
    have e : acc.take i ++ (xs.drop i).map f = acc := by rw [List.take_of_length_le (by omega), List.drop_eq_nil_of_le (by omega), List.map_nil, List.append_nil]
    rw [e]
    have : i = xs.length := by omega
    subst this
    exact he acc ha
  | d + 1, i, acc, h, ha => by
    have ih := ev_map L xs f z hs he d (i + 1) (acc.set i (f (xs.getD i z))) (by omega) (by simpa using ha)
    have e : (acc.set i (f (xs.getD i z))).take (i + 1) ++ (xs.drop (i + 1)).map f = acc.take i ++ (xs.drop i).map f := by
      rw [List.take_succ_eq_append_getElem (by simp; omega), List.getElem_set_self, List.take_set, List.set_eq_of_length_le (by simp; omega), List.append_assoc, List.drop_eq_getElem_cons (show i < xs.length by omega), List.map_cons]
      simp [List.getD_eq_getElem?_getD, List.getElem?_eq_getElem (show i < xs.length by omega)]
    rw [e] at ih
    exact hs i acc _ (by omega) ha ih
theorem ev_map_all {α β : Type} (L : Nat → List β → Int → Option (List β)) (xs : List α) (f : α → β) (z : α) (y : β)
    (hs : ∀ (i : Nat) (acc r : List β), i < xs.length → acc.length = xs.length → Ev (fun k => L k (acc.set i (f (xs.getD i z))) ((i + 1 : Nat) : Int)) r → Ev (fun k => L k acc (i : Int)) r)
    (he : ∀ acc : List β, acc.length = xs.length → Ev (fun k => L k acc (xs.length : Int)) acc) :
    Ev (fun k => L k (List.replicate xs.length y) 0) (xs.map f) := by
  have h := ev_map L xs f z hs he xs.length 0 (List.replicate xs.length y) (by omega) (by simp)
  simpa using h
theorem toIntS_l0 (xs : List Int) (hx : xs.length ≤ 1048576) : ∀ (d i : Nat) (acc : List Int), i + d = xs.length → acc.length = xs.length →
    Ev (fun k => laws_toIntS.l0 k xs acc (i : Int)) (acc.take i ++ xs.drop i)
  | 0, i, acc, h, ha => by
    have e : acc.take i ++ xs.drop i = acc := by rw [List.take_of_length_le (by omega), List.drop_eq_nil_of_le (by omega), List.append_nil]
    rw [e]
    refine Ev.step (f := fun _ => some acc) (fun k => ?_) (Ev.now _)
    simp only [laws_toIntS.l0]
    rw [if_neg (by omega)]
  | d + 1, i, acc, h, ha => by
    have ih := toIntS_l0 xs hx d (i + 1) (acc.set i (xs.getD i 0)) (by omega) (by simpa using ha)
    rw [set_take_drop xs acc 0 i (by omega) ha] at ih
    refine Ev.step (fun k => ?_) ih
    simp only [laws_toIntS.l0]
    rw [if_pos (by omega), if_pos (by omega), if_pos (by omega), wrap_id (by omega) (by omega), rd_nat]
    rfl
theorem toIntS_ev (xs : List Int) (hx : xs.length ≤ 1048576) : Ev (fun k => laws_toIntS.f k xs) xs := by
  have h := toIntS_l0 xs hx xs.length 0 (List.replicate xs.length 0) (by omega) (by simp)
  simp only [List.take_zero, List.drop_zero, List.nil_append] at h
  refine Ev.congr (fun k => ?_) h
  simp only [laws_toIntS.f]
  rw [if_pos (by omega), if_pos (by simp only [Int.toNat_natCast]; omega)]
  simp only [Int.toNat_natCast]
  rfl
theorem eqIntS_l0 (xs : List Int) (hx : xs.length ≤ 1048576) : ∀ (d i : Nat), i + d = xs.length → Ev (fun k => laws_eqIntS.l0 k xs xs (i : Int)) true
  | 0, i, h => by
    refine Ev.step (f := fun _ => some true) (fun k => ?_) (Ev.now _)
    simp only [laws_eqIntS.l0]
    rw [if_neg (by omega)]
  | d + 1, i, h => by
    refine Ev.step (fun k => ?_) (eqIntS_l0 xs hx d (i + 1) (by omega))
    simp only [laws_eqIntS.l0]
    rw [if_pos (by omega), if_pos (by omega), if_pos (by omega), if_pos trivial, wrap_id (by omega) (by omega)]
    rfl
theorem eqIntS_ev (xs : List Int) (hx : xs.length ≤ 1048576) : Ev (fun k => laws_eqIntS.f k xs xs) true := by
  refine Ev.congr (fun k => ?_) (eqIntS_l0 xs hx xs.length 0 (by omega))
  simp only [laws_eqIntS.f]
  rw [if_pos trivial]
  rfl
theorem sz_int (l : List Int) (m : Int) (h0 : 0 ≤ m) (h1 : m ≤ 1048576) (hl : l.length ≤ 9223372036854775807) : laws_szIntS.f l m = some (if m - (l.length : Int) < 0 then -1 else m - (l.length : Int)) := by
  simp only [laws_szIntS.f]
  rw [wrap_id (by omega) (by omega)]
  split <;> rfl
theorem sameFloat_ev {x y : Nat} (hx : x < 18446744073709551616) (hy : y < 18446744073709551616) : Ev (fun k => laws_sameFloat.f k x y) (if isNan x = true then isNan y else decide (isNan y = false ∧ x = y)) := by
  simp only [laws_sameFloat.f, feq_self]
  cases hn : isNan x with
  | true =>
    rw [if_pos rfl]
    refine Ev.ite_neg (by simp) (Ev.step (f := fun _ => some (isNan y)) (fun k => ?_) (Ev.now _))
    simp only [laws_sameFloat.j0, feq_self, hn]; rw [if_pos trivial, if_neg (by simp)]; cases isNan y <;> rfl
  | false =>
    rw [if_neg (by simp)]
    refine Ev.ite_pos rfl ?_
    refine Ev.step (f := fun _ => some (decide (isNan y = false ∧ x = y))) (fun k => ?_) (Ev.now _)
    simp only [laws_sameFloat.j0, feq_self, hn]
    cases hm : isNan y with
    | true => simp
    | false =>
      rw [if_neg (by simp), feq_eq hn nan_zero, feq_eq hm nan_zero, feq_eq hn hm, key_zero]
      simp only [decide_eq_true_eq, true_and]
      by_cases h0 : key x = 0
      · rw [if_pos h0]
        by_cases h1 : key y = 0
        · rw [if_pos h1]
          rcases zero_cases hx (key_rg_zero.mp h0) with rfl | rfl <;> rcases zero_cases hy (key_rg_zero.mp h1) with rfl | rfl
          · rw [if_pos inv_pz.1, if_pos inv_pz.1, inv_pz.2.2]; rfl
          · rw [if_pos inv_pz.1, if_pos inv_nz.1, inv_pz.2.2, inv_nz.2.2]; rfl
          · rw [if_pos inv_nz.1, if_pos inv_pz.1, inv_pz.2.2, inv_nz.2.2]; rfl
          · rw [if_pos inv_nz.1, if_pos inv_nz.1, inv_nz.2.2]; rfl
        · rw [if_neg h1]
          congr 1
          rw [decide_eq_decide]
          exact ⟨fun q => absurd (q ▸ h0) h1, fun q => by rw [q]⟩
      · rw [if_neg h0]
        congr 1
        rw [decide_eq_decide]
        exact ⟨fun q => key_inj hx hy (fun z => h0 (key_rg_zero.mpr z)) q, fun q => by rw [q]⟩
theorem sameFloat_refl (x : Nat) (hx : x < 18446744073709551616) : Ev (fun k => laws_sameFloat.f k x x) true := by
  have h := sameFloat_ev hx hx
  cases hn : isNan x <;> rw [hn] at h <;> simpa using h
theorem toFloatS_ev (xs : List Nat) (hx : xs.length ≤ 1048576) : Ev (fun k => laws_toFloat64S.f k xs) xs := by
  have h : Ev (fun k => laws_toFloat64S.l0 k xs (List.replicate xs.length 0) 0) (xs.map id) := by
    refine ev_map_all (fun k acc i => laws_toFloat64S.l0 k xs acc i) xs id 0 0 (fun i acc r hi ha h => ?_) (fun acc ha => ?_)
    · refine Ev.step (fun k => ?_) h
      simp only [laws_toFloat64S.l0]
      rw [if_pos (by omega), if_pos (by omega), if_pos (by omega), wrap_id (n := (i : Int) + 1) (by omega) (by omega)]
      rfl
    · refine Ev.step (f := fun _ => some acc) (fun k => ?_) (Ev.now _)
      simp only [laws_toFloat64S.l0]; rw [if_neg (by omega)]
  rw [List.map_id] at h
  refine Ev.congr (fun k => ?_) h
  simp only [laws_toFloat64S.f]
  rw [if_pos (by omega), if_pos (by simp only [Int.toNat_natCast]; omega)]
  simp only [Int.toNat_natCast]
theorem eqFloatS_ev (xs : List Nat) (hx : xs.length ≤ 1048576) (hf : ∀ x ∈ xs, x < 18446744073709551616) : Ev (fun k => laws_eqFloat64S.f k xs xs) true := by
  have h := ev_up (fun k i => laws_eqFloat64S.l0 k xs xs i) xs.length true (fun i hi h => ?_) ?_ xs.length 0 (by omega)
  · refine Ev.congr (fun k => ?_) h
    simp only [laws_eqFloat64S.f]; rw [if_pos trivial]; rfl
  · have hr : rdOf (0 : Nat) xs (i : Int) = xs[i] := by simp [rdOf, hi]
    refine Ev.step (f := fun k => (laws_sameFloat.f k xs[i] xs[i]).bind fun t => if t = true then laws_eqFloat64S.l0 k xs xs ((i + 1 : Nat) : Int) else some false) (fun k => ?_) (Ev.bind (sameFloat_refl xs[i] (hf _ (List.getElem_mem _))) (Ev.ite_pos rfl h))
    simp only [laws_eqFloat64S.l0]
    rw [if_pos (by omega), if_pos (by omega), if_pos (by omega), wrap_id (n := (i : Int) + 1) (by omega) (by omega), hr]
    rfl
  · refine Ev.step (f := fun _ => some true) (fun k => ?_) (Ev.now _)
    simp only [laws_eqFloat64S.l0]; rw [if_neg (by omega)]
theorem sz_float (l : List Nat) (m : Int) (h0 : 0 ≤ m) (h1 : m ≤ 1048576) (hl : l.length ≤ 9223372036854775807) : laws_szFloat64S.f l m = some (if m - (l.length : Int) < 0 then -1 else m - (l.length : Int)) := by
  simp only [laws_szFloat64S.f]
  rw [wrap_id (by omega) (by omega)]
  split <;> rfl
def cvT (x : S163) : S135 := ⟨x.f0, x.f1, x.f2, x.f3, x.f4, x.f5⟩
theorem toThreadS_ev (xs : List S163) (hx : xs.length ≤ 1048576) (hs : ∀ t ∈ xs, t.f5.length ≤ 1048576) : Ev (fun k => laws_toThreadS.f k xs) (xs.map cvT) := by
  refine Ev.congr (fun k => ?_) (ev_map_all (fun k acc i => laws_toThreadS.l0 k xs acc i) xs cvT z163 z135 (fun i acc r hi ha h => ?_) (fun acc ha => ?_))
  · simp only [laws_toThreadS.f]
    rw [if_pos (by omega), if_pos (by simp only [Int.toNat_natCast]; omega)]
    simp only [Int.toNat_natCast]
  · have hr : rd_T163 xs (i : Int) = xs[i] := by simp [rd_T163, hi]
    have hz : xs.getD i z163 = xs[i] := by simp [hi]
    rw [hz] at h
    have ht : Ev (fun k => laws_toThread.f k (xs[i]).f0 (xs[i]).f1 (xs[i]).f2 (xs[i]).f3 (xs[i]).f4 (xs[i]).f5) ((xs[i]).f0, (xs[i]).f1, (xs[i]).f2, (xs[i]).f3, (xs[i]).f4, (xs[i]).f5) := Ev.bind (toFloatS_ev _ (hs _ (List.getElem_mem _))) (Ev.now _)
    refine Ev.step (f := fun k => (laws_toThread.f k (xs[i]).f0 (xs[i]).f1 (xs[i]).f2 (xs[i]).f3 (xs[i]).f4 (xs[i]).f5).bind fun bt => laws_toThreadS.l0 k xs (acc.set i (⟨bt.1, bt.2.1, bt.2.2.1, bt.2.2.2.1, bt.2.2.2.2.1, bt.2.2.2.2.2⟩ : S135)) ((i + 1 : Nat) : Int)) (fun k => ?_) (Ev.bind ht h)
    simp only [laws_toThreadS.l0]
    rw [if_pos (by omega), if_pos (by omega), wrap_id (n := (i : Int) + 1) (by omega) (by omega), hr]
    congr 1
    funext bt
    rw [if_pos (by omega)]
    rfl
  · refine Ev.step (f := fun _ => some acc) (fun k => ?_) (Ev.now _)
    simp only [laws_toThreadS.l0]; rw [if_neg (by omega)]
theorem eqThreadS_ev (xs : List S135) (hx : xs.length ≤ 1048576) (hs : ∀ t ∈ xs, t.f5.length ≤ 1048576 ∧ ∀ x ∈ t.f5, x < 18446744073709551616) : Ev (fun k => laws_eqThreadS.f k xs xs) true := by
  have h := ev_up (fun k i => laws_eqThreadS.l0 k xs xs i) xs.length true (fun i hi h => ?_) ?_ xs.length 0 (by omega)
  · refine Ev.congr (fun k => ?_) h
    simp only [laws_eqThreadS.f]; rw [if_pos trivial]; rfl
  · have hr : rd_T135 xs (i : Int) = xs[i] := by simp [rd_T135, hi]
    obtain ⟨h1, h2⟩ := hs _ (List.getElem_mem hi)
    have he : Ev (fun k => laws_eqThread.f k (xs[i]).f0 (xs[i]).f1 (xs[i]).f2 (xs[i]).f3 (xs[i]).f4 (xs[i]).f5 (xs[i]).f0 (xs[i]).f1 (xs[i]).f2 (xs[i]).f3 (xs[i]).f4 (xs[i]).f5) true := by
      simp only [laws_eqThread.f]
      exact Ev.ite_pos trivial (Ev.ite_pos trivial (Ev.ite_pos trivial (Ev.ite_pos trivial (Ev.ite_pos trivial (Ev.bind (eqFloatS_ev _ h1 h2) (Ev.ite_pos rfl (Ev.now _)))))))
    refine Ev.step (f := fun k => (laws_eqThread.f k (xs[i]).f0 (xs[i]).f1 (xs[i]).f2 (xs[i]).f3 (xs[i]).f4 (xs[i]).f5 (xs[i]).f0 (xs[i]).f1 (xs[i]).f2 (xs[i]).f3 (xs[i]).f4 (xs[i]).f5).bind fun t => if t = true then laws_eqThreadS.l0 k xs xs ((i + 1 : Nat) : Int) else some false) (fun k => ?_) (Ev.bind he (Ev.ite_pos rfl h))
    simp only [laws_eqThreadS.l0]
    rw [if_pos (by omega), if_pos (by omega), if_pos (by omega), wrap_id (n := (i : Int) + 1) (by omega) (by omega), hr]
    rfl
  · refine Ev.step (f := fun _ => some true) (fun k => ?_) (Ev.now _)
    simp only [laws_eqThreadS.l0]; rw [if_neg (by omega)]
theorem sz_threads (xs : List S163) (hx : xs.length ≤ 9223372036854775807) (hs : ∀ t ∈ xs, t.f5.length ≤ 9223372036854775807) : ∀ (d i : Nat) (m : Int), i + d = xs.length → 0 ≤ m → m ≤ 1048576 →
    ∃ v, Ev (fun k => laws_szThreadS.l0 k xs m (i : Int)) v ∧ (0 ≤ v → v ≤ m ∧ ∀ j, i ≤ j → (hj : j < xs.length) → (xs[j]).f5.length ≤ 1048576)
  | 0, i, m, h, h0, h1 => by
    refine ⟨m, Ev.step (f := fun _ => some m) (fun k => ?_) (Ev.now _), fun _ => ⟨Int.le_refl _, fun j h1 h2 => by omega⟩⟩
    simp only [laws_szThreadS.l0]; rw [if_neg (by omega)]
  | d + 1, i, m, h, h0, h1 => by
    have hi : i < xs.length := by omega
    have hr : rd_T163 xs (i : Int) = xs[i] := by simp [rd_T163, hi]
    have hl := hs _ (List.getElem_mem hi)
    have hst : ∀ k, laws_szThreadS.l0 (k + 1) xs m (i : Int) = if m - ((xs[i]).f5.length : Int) < 0 then some (-1) else laws_szThreadS.l0 k xs (m - ((xs[i]).f5.length : Int)) ((i + 1 : Nat) : Int) := by
      intro k
      simp only [laws_szThreadS.l0, laws_szThread.f]
      rw [if_pos (by omega), if_pos (by omega), hr, sz_float _ m h0 h1 hl, Option.bind_some, wrap_id (n := (i : Int) + 1) (by omega) (by omega)]
      by_cases c : m - ((xs[i]).f5.length : Int) < 0
      · rw [if_pos c, if_pos c, if_pos (by omega)]
        simp only [Option.bind_some]
        rw [if_pos (by omega)]
      · rw [if_neg c, if_neg c, if_neg c]
        simp only [Option.bind_some]
        rw [if_neg c]
        rfl
    by_cases c : m - ((xs[i]).f5.length : Int) < 0
    · exact ⟨-1, Ev.step hst (Ev.ite_pos c (Ev.now _)), fun q => by omega⟩
    · obtain ⟨v, hv, hq⟩ := sz_threads xs hx hs d (i + 1) (m - ((xs[i]).f5.length : Int)) (by omega) (by omega) (by omega)
      refine ⟨v, Ev.step hst (Ev.ite_neg c hv), fun q => ⟨by have := (hq q).1; omega, fun j h1 hj => ?_⟩⟩
      by_cases e : j = i
      · subst e; omega
      · exact (hq q).2 j (by omega) hj
theorem sz_threadS (xs : List S163) (m : Int) (hx : xs.length ≤ 9223372036854775807) (hs : ∀ t ∈ xs, t.f5.length ≤ 9223372036854775807) (h0 : 0 ≤ m) (h1 : m ≤ 1048576) :
    ∃ v, Ev (fun k => laws_szThreadS.f k xs m) v ∧ (0 ≤ v → v ≤ m ∧ xs.length ≤ 1048576 ∧ ∀ t ∈ xs, t.f5.length ≤ 1048576) := by
  simp only [laws_szThreadS.f]
  rw [wrap_id (n := m - (xs.length : Int)) (by omega) (by omega)]
  by_cases c : m - (xs.length : Int) < 0
  · exact ⟨-1, Ev.ite_pos c (Ev.now _), fun q => by omega⟩
  · obtain ⟨v, hv, hq⟩ := sz_threads xs hx hs xs.length 0 (m - (xs.length : Int)) (by omega) (by omega) (by omega)
    refine ⟨v, Ev.ite_neg c hv, fun q => ⟨by have := (hq q).1; omega, by omega, fun t ht => ?_⟩⟩
    obtain ⟨j, hj, rfl⟩ := List.getElem_of_mem ht
    exact (hq q).2 j (by omega) hj
theorem sz_stateM (ts : List S163) (cs : List Nat) (os : List Int) (fa : Int) (m : Int) (hm0 : 0 ≤ m) (hm1 : m ≤ 1048576) (hx : ts.length ≤ 9223372036854775807) (hs : ∀ t ∈ ts, t.f5.length ≤ 9223372036854775807) (hc : cs.length ≤ 9223372036854775807) (ho : os.length ≤ 9223372036854775807) :
    ∃ v, Ev (fun k => laws_szState.f k ts cs os fa m) v ∧ (0 ≤ v → v ≤ m ∧ ts.length ≤ 1048576 ∧ (∀ t ∈ ts, t.f5.length ≤ 1048576) ∧ cs.length ≤ 1048576 ∧ os.length ≤ 1048576) := by
  obtain ⟨v, hv, hq⟩ := sz_threadS ts m hx hs hm0 hm1
  simp only [laws_szState.f]
  by_cases c0 : v < 0
  · exact ⟨-1, Ev.bind hv (Ev.ite_pos c0 (Ev.now _)), fun q => by omega⟩
  · obtain ⟨q0, q1, q2⟩ := hq (by omega)
    have e1 := sz_float cs v (by omega) (by omega) hc
    by_cases c1 : v - (cs.length : Int) < 0
    · rw [if_pos c1] at e1
      exact ⟨-1, Ev.bind hv (Ev.ite_neg c0 (Ev.bind (Ev.const e1) (Ev.ite_pos (by omega) (Ev.now _)))), fun q => by omega⟩
    · rw [if_neg c1] at e1
      have e2 := sz_int os (v - (cs.length : Int)) (by omega) (by omega) ho
      by_cases c2 : v - (cs.length : Int) - (os.length : Int) < 0
      · rw [if_pos c2] at e2
        exact ⟨-1, Ev.bind hv (Ev.ite_neg c0 (Ev.bind (Ev.const e1) (Ev.ite_neg c1 (Ev.bind (Ev.const e2) (Ev.ite_pos (by omega) (Ev.now _)))))), fun q => by omega⟩
      · rw [if_neg c2] at e2
        exact ⟨_, Ev.bind hv (Ev.ite_neg c0 (Ev.bind (Ev.const e1) (Ev.ite_neg c1 (Ev.bind (Ev.const e2) (Ev.ite_neg c2 (Ev.now _)))))), fun q => ⟨by omega, q1, q2, by omega, by omega⟩⟩
theorem sz_state (ts : List S163) (cs : List Nat) (os : List Int) (fa : Int) (hx : ts.length ≤ 9223372036854775807) (hs : ∀ t ∈ ts, t.f5.length ≤ 9223372036854775807) (hc : cs.length ≤ 9223372036854775807) (ho : os.length ≤ 9223372036854775807) :
    ∃ v, Ev (fun k => laws_szState.f k ts cs os fa 1048576) v ∧ (0 ≤ v → ts.length ≤ 1048576 ∧ (∀ t ∈ ts, t.f5.length ≤ 1048576) ∧ cs.length ≤ 1048576 ∧ os.length ≤ 1048576) := by
  obtain ⟨v, hv, hq⟩ := sz_stateM ts cs os fa 1048576 (by omega) (by omega) hx hs hc ho
  exact ⟨v, hv, fun q => (hq q).2⟩
theorem math_nan (x : Nat) : math_IsNaN.f x = some (isNan x) := by
  unfold math_IsNaN.f; rw [feq_self]; cases isNan x <;> rfl
theorem impl_same {x y : Nat} : impl_SameNum.f x y = some (same x y) := by
  simp only [impl_SameNum.f, math_nan, Option.bind_some]
  unfold same
  cases hn : isNan x with
  | true =>
    rw [if_pos rfl, if_pos rfl]
    cases hm : isNan y with
    | true => rfl
    | false =>
      rw [if_neg (by simp)]
      congr 1
      rw [beq_eq_false_iff_ne]
      intro q
      have : x = y := by omega
      rw [this, hm] at hn
      cases hn
  | false =>
    rw [if_neg (by simp), if_neg (by simp)]
    congr 1
    rw [Bool.eq_iff_iff, beq_iff_eq, decide_eq_true_eq]
    constructor
    · intro q
      have : x = y := by omega
      exact ⟨this ▸ hn, this⟩
    · rintro ⟨_, rfl⟩; rfl
theorem rdOf_nat (l : List Nat) (i : Nat) : rdOf (0 : Nat) l (i : Int) = l.getD i 0 := by simp [rdOf]
/-- What a loop comes to that asks p of each place. -/
def allP (p : Nat → Bool) : Nat → Nat → Bool
  | _, 0 => true
  | i, d + 1 => if p i = true then allP p (i + 1) d else false
theorem ev_all (L : Nat → Int → Option Bool) (n : Nat) (p : Nat → Bool) (hs : ∀ (i : Nat) (r : Bool), i < n → Ev (fun k => L k ((i + 1 : Nat) : Int)) r → Ev (fun k => L k (i : Int)) (if p i = true then r else false)) (he : Ev (fun k => L k (n : Int)) true) :
    ∀ d i : Nat, i + d = n → Ev (fun k => L k (i : Int)) (allP p i d)
  | 0, i, h => by
    have : i = n := by omega
    subst this
    exact he
  | d + 1, i, h => hs i _ (by omega) (ev_all L n p hs he d (i + 1) (by omega))
def sameL (x y : List Nat) : Bool := if x.length = y.length then allP (fun i => same (x.getD i 0) (y.getD i 0)) 0 x.length else false
theorem getD_lt {x : List Nat} (hx : ∀ a ∈ x, a < 18446744073709551616) (i : Nat) : x.getD i 0 < 18446744073709551616 := by
  by_cases h : i < x.length
  · simp only [List.getD_eq_getElem?_getD, List.getElem?_eq_getElem h, Option.getD_some]; exact hx _ (List.getElem_mem h)
  · rw [List.getD_eq_getElem?_getD, List.getElem?_eq_none (Nat.le_of_not_lt h)]; decide
theorem spec_sameL (x y : List Nat) (hl : x.length ≤ 1048576) (hx : ∀ a ∈ x, a < 18446744073709551616) (hy : ∀ a ∈ y, a < 18446744073709551616) : Ev (fun k => spec_l3SameNums.f k x y) (sameL x y) := by
  simp only [spec_l3SameNums.f]
  unfold sameL
  by_cases h : x.length = y.length
  · rw [if_pos h]
    refine Ev.ite_pos (by omega) ?_
    refine ev_all (fun k i => spec_l3SameNums.l0 k x y (x.length : Int) i) x.length _ (fun i r hi hr => ?_) ?_ x.length 0 (by omega)
    · refine Ev.step (f := fun k => (spec_l1SameNum.f k (x.getD i 0) (y.getD i 0)).bind fun t => if t = true then spec_l3SameNums.l0 k x y (x.length : Int) ((i + 1 : Nat) : Int) else some false) (fun k => ?_) (Ev.bind (spec_same (getD_lt hx i) (getD_lt hy i)) ?_)
      · simp only [spec_l3SameNums.l0]
        rw [if_pos (by omega), if_pos (by omega), if_pos (by omega), if_pos (by omega), rdOf_nat, rdOf_nat, wrap_id (n := (i : Int) + 1) (by omega) (by omega)]
        rfl
      · cases same (x.getD i 0) (y.getD i 0) with
        | true => exact Ev.ite_pos rfl hr
        | false => exact Ev.ite_neg (by simp) (Ev.now _)
    · refine Ev.step (f := fun _ => some true) (fun k => ?_) (Ev.now _)
      simp only [spec_l3SameNums.l0]; rw [if_neg (by omega)]
  · rw [if_neg h]
    exact Ev.ite_neg (by omega) (Ev.now _)
theorem impl_sameL (x y : List Nat) (hl : x.length ≤ 1048576) : Ev (fun k => slices_EqualFunc_float64_float64_float64_float64_impl_SameNum.f k x y) (sameL x y) := by
  simp only [slices_EqualFunc_float64_float64_float64_float64_impl_SameNum.f]
  unfold sameL
  by_cases h : x.length = y.length
  · rw [if_pos h]
    refine Ev.ite_pos (by omega) ?_
    refine ev_all (fun k i => slices_EqualFunc_float64_float64_float64_float64_impl_SameNum.l0 k y x (x.length : Int) i) x.length _ (fun i r hi hr => ?_) ?_ x.length 0 (by omega)
    · refine Ev.step (f := fun k => if same (x.getD i 0) (y.getD i 0) = true then slices_EqualFunc_float64_float64_float64_float64_impl_SameNum.l0 k y x (x.length : Int) ((i + 1 : Nat) : Int) else some false) (fun k => ?_) ?_
      · simp only [slices_EqualFunc_float64_float64_float64_float64_impl_SameNum.l0]
        rw [if_pos (by omega), if_pos (by omega), if_pos (by omega), if_pos (by omega), rdOf_nat, rdOf_nat, impl_same, Option.bind_some, wrap_id (n := (i : Int) + 1) (by omega) (by omega)]
        rfl
      · cases same (x.getD i 0) (y.getD i 0) with
        | true => exact Ev.ite_pos rfl hr
        | false => exact Ev.ite_neg (by simp) (Ev.now _)
    · refine Ev.step (f := fun _ => some true) (fun k => ?_) (Ev.now _)
      simp only [slices_EqualFunc_float64_float64_float64_float64_impl_SameNum.l0]; rw [if_neg (by omega)]
  · rw [if_neg h]
    exact Ev.ite_neg (by omega) (Ev.now _)
def sameI (x y : List Int) : Bool := if x.length = y.length then allP (fun i => decide (x.getD i 0 = y.getD i 0)) 0 x.length else false
theorem spec_sameI (x y : List Int) (hl : x.length ≤ 1048576) : Ev (fun k => spec_l1Same.f k x y) (sameI x y) := by
  simp only [spec_l1Same.f]
  unfold sameI
  by_cases h : x.length = y.length
  · rw [if_pos h]
    refine Ev.ite_pos (by omega) ?_
    refine ev_all (fun k i => spec_l1Same.l0 k x y (x.length : Int) i) x.length _ (fun i r hi hr => ?_) ?_ x.length 0 (by omega)
    · refine Ev.step (f := fun k => if x.getD i 0 = y.getD i 0 then spec_l1Same.l0 k x y (x.length : Int) ((i + 1 : Nat) : Int) else some false) (fun k => ?_) ?_
      · simp only [spec_l1Same.l0]
        rw [if_pos (by omega), if_pos (by omega), if_pos (by omega), if_pos (by omega), rd_nat, rd_nat, wrap_id (n := (i : Int) + 1) (by omega) (by omega)]
        rfl
      · by_cases q : x.getD i 0 = y.getD i 0
        · rw [decide_eq_true q, if_pos rfl]; exact Ev.ite_pos q hr
        · rw [decide_eq_false q, if_neg (by simp)]; exact Ev.ite_neg q (Ev.now _)
    · refine Ev.step (f := fun _ => some true) (fun k => ?_) (Ev.now _)
      simp only [spec_l1Same.l0]; rw [if_neg (by omega)]
  · rw [if_neg h]
    exact Ev.ite_neg (by omega) (Ev.now _)
theorem impl_sameI (x y : List Int) (hl : x.length ≤ 1048576) : Ev (fun k => slices_Equal_int_int.f k x y) (sameI x y) := by
  simp only [slices_Equal_int_int.f]
  unfold sameI
  by_cases h : x.length = y.length
  · rw [if_pos h]
    refine Ev.ite_pos (by omega) ?_
    refine ev_all (fun k i => slices_Equal_int_int.l0 k x y (x.length : Int) i) x.length _ (fun i r hi hr => ?_) ?_ x.length 0 (by omega)
    · refine Ev.step (f := fun k => if x.getD i 0 = y.getD i 0 then slices_Equal_int_int.l0 k x y (x.length : Int) ((i + 1 : Nat) : Int) else some false) (fun k => ?_) ?_
      · simp only [slices_Equal_int_int.l0]
        rw [if_pos (by omega), if_pos (by omega), if_pos (by omega), if_pos (by omega), rd_nat, rd_nat, wrap_id (n := (i : Int) + 1) (by omega) (by omega)]
        rfl
      · by_cases q : x.getD i 0 = y.getD i 0
        · rw [decide_eq_true q, if_pos rfl]; exact Ev.ite_pos q hr
        · rw [decide_eq_false q, if_neg (by simp)]; exact Ev.ite_neg q (Ev.now _)
    · refine Ev.step (f := fun _ => some true) (fun k => ?_) (Ev.now _)
      simp only [slices_Equal_int_int.l0]; rw [if_neg (by omega)]
  · rw [if_neg h]
    exact Ev.ite_neg (by omega) (Ev.now _)
def plainT (a b : S135) : Bool := decide (a.f0 = b.f0 ∧ a.f1 = b.f1 ∧ a.f2 = b.f2 ∧ a.f3 = b.f3 ∧ a.f4 = b.f4)
def sameT (a b : S135) : Bool := plainT a b && sameL a.f5 b.f5
def goodT (t : S135) : Prop := t.f5.length ≤ 1048576 ∧ ∀ x ∈ t.f5, x < 18446744073709551616
theorem thread_ite {α : Type} (a b : S135) (X Y : Option α) : (if a.f0 = b.f0 then (if a.f1 = b.f1 then (if a.f2 = b.f2 then (if a.f3 = b.f3 then (if a.f4 = b.f4 then X else Y) else Y) else Y) else Y) else Y) = if plainT a b = true then X else Y := by
  unfold plainT
  by_cases h0 : a.f0 = b.f0 <;> by_cases h1 : a.f1 = b.f1 <;> by_cases h2 : a.f2 = b.f2 <;> by_cases h3 : a.f3 = b.f3 <;> by_cases h4 : a.f4 = b.f4 <;> simp only [h0, h1, h2, h3, h4, if_true, if_false, and_true, and_false, true_and, false_and, decide_true, decide_false, Bool.false_eq_true]
def allT (x y : List S135) : Bool := allP (fun i => sameT (x.getD i z135) (y.getD i z135)) 0 x.length
theorem rdT (xs : List S135) (i : Nat) : rd_T135 xs (i : Int) = xs.getD i z135 := by simp [rd_T135]
theorem spec_allT (x y : List S135) (hl : x.length ≤ 1048576) (he : x.length = y.length) (hx : ∀ t ∈ x, goodT t) (hy : ∀ t ∈ y, goodT t) (a b : List Nat) (c d : List Int) (e f : Int) :
    Ev (fun k => spec_SameState.l0 k x (x.length : Int) 0 y b d f) (allT x y) := by
  refine ev_all (fun k i => spec_SameState.l0 k x (x.length : Int) i y b d f) x.length _ (fun i r hi hr => ?_) ?_ x.length 0 (by omega)
  · have ex : x.getD i z135 = x[i] := by simp [hi]
    have ey : y.getD i z135 = y[i]'(by omega) := by simp [he ▸ hi]
    have gx := hx _ (List.getElem_mem hi)
    have gy := hy _ (List.getElem_mem (show i < y.length by omega))
    rw [← ex] at gx
    rw [← ey] at gy
    generalize x.getD i z135 = s at gx ex
    generalize y.getD i z135 = t at gy ey
    refine Ev.step (f := fun k => if plainT s t = true then ((spec_l3SameNums.f k s.f5 t.f5).bind fun q => if q = true then spec_SameState.l0 k x (x.length : Int) ((i + 1 : Nat) : Int) y b d f else some false) else some false) (fun k => ?_) ?_
    · simp only [spec_SameState.l0]
      rw [if_pos (by omega), if_pos (by omega), if_pos (by omega), if_pos (by omega), rdT, rdT, wrap_id (n := (i : Int) + 1) (by omega) (by omega)]
      have e1 : x.getD i z135 = s := by rw [ex]; simp [hi]
      have e2 : y.getD i z135 = t := by rw [ey]; simp [he ▸ hi]
      rw [e1, e2, thread_ite]
      rfl
    · unfold sameT
      cases q : plainT s t with
      | false => exact Ev.ite_neg (by simp) (by simpa using Ev.now false)
      | true =>
        refine Ev.ite_pos rfl (Ev.bind (spec_sameL _ _ gx.1 gx.2 gy.2) ?_)
        rw [Bool.true_and]
        cases sameL s.f5 t.f5 with
        | true => exact Ev.ite_pos rfl hr
        | false => exact Ev.ite_neg (by simp) (Ev.now _)
  · refine Ev.step (f := fun _ => some true) (fun k => ?_) (Ev.now _)
    simp only [spec_SameState.l0]; rw [if_neg (by omega)]
theorem impl_allT (x y : List S135) (hl : x.length ≤ 1048576) (he : x.length = y.length) (hx : ∀ t ∈ x, goodT t) :
    Ev (fun k => slices_EqualFunc_impl_SameState_1.f k x y) (allT x y) := by
  simp only [slices_EqualFunc_impl_SameState_1.f]
  refine Ev.ite_pos (by omega) ?_
  refine ev_all (fun k i => slices_EqualFunc_impl_SameState_1.l0 k y x (x.length : Int) i) x.length _ (fun i r hi hr => ?_) ?_ x.length 0 (by omega)
  · have ex : x.getD i z135 = x[i] := by simp [hi]
    have gx := hx _ (List.getElem_mem hi)
    rw [← ex] at gx
    refine Ev.step (f := fun k => (if plainT (x.getD i z135) (y.getD i z135) = true then ((slices_EqualFunc_float64_float64_float64_float64_impl_SameNum.f k (x.getD i z135).f5 (y.getD i z135).f5).bind fun q => some q) else some false).bind fun q => if q = true then slices_EqualFunc_impl_SameState_1.l0 k y x (x.length : Int) ((i + 1 : Nat) : Int) else some false) (fun k => ?_) ?_
    · simp only [slices_EqualFunc_impl_SameState_1.l0]
      rw [if_pos (by omega), if_pos (by omega), if_pos (by omega), if_pos (by omega), rdT, rdT, wrap_id (n := (i : Int) + 1) (by omega) (by omega)]
      simp only [impl_SameState_1.f]
      rw [thread_ite]
      rfl
    · unfold sameT
      generalize x.getD i z135 = s at gx
      generalize y.getD i z135 = t
      cases q : plainT s t with
      | false => exact Ev.bind (Ev.ite_neg (by simp) (Ev.now false)) (Ev.ite_neg (by simp) (by simpa using Ev.now false))
      | true =>
        refine Ev.bind (Ev.ite_pos rfl (Ev.bind (impl_sameL _ _ gx.1) (Ev.now _))) ?_
        rw [Bool.true_and]
        cases sameL s.f5 t.f5 with
        | true => exact Ev.ite_pos rfl hr
        | false => exact Ev.ite_neg (by simp) (Ev.now _)
  · refine Ev.step (f := fun _ => some true) (fun k => ?_) (Ev.now _)
    simp only [slices_EqualFunc_impl_SameState_1.l0]; rw [if_neg (by omega)]
theorem same_state (x y : List S135) (a b : List Nat) (c d : List Int) (e f : Int) (hx : x.length ≤ 1048576) (ha : a.length ≤ 1048576) (hc : c.length ≤ 1048576) (gx : ∀ t ∈ x, goodT t) (gy : ∀ t ∈ y, goodT t) (fa : ∀ z ∈ a, z < 18446744073709551616) (fb : ∀ z ∈ b, z < 18446744073709551616) :
    ∃ r, Ev (fun k => spec_SameState.f k x a c e y b d f) r ∧ Ev (fun k => impl_SameState.f k x a c e y b d f) r := by
  have hT : ∀ {r}, Ev (fun k => spec_SameState.l0 k x (x.length : Int) 0 y b d f) r → Ev (fun k => spec_SameState.j0 k false x a c e y b d f) r := fun h => Ev.step (fun k => by simp only [spec_SameState.j0]; rw [if_neg (by simp)]) h
  have hF : Ev (fun k => spec_SameState.j0 k true x a c e y b d f) false := Ev.step (f := fun _ => some false) (fun k => by simp only [spec_SameState.j0]; rw [if_pos trivial]) (Ev.now _)
  have h1 := spec_sameL a b ha fa fb
  have h2 := spec_sameI c d hc
  have h3 := impl_sameL a b ha
  have h4 := impl_sameI c d hc
  simp only [spec_SameState.f, impl_SameState.f]
  by_cases q0 : x.length = y.length
  · have hs := spec_allT x y hx q0 gx gy a b c d e f
    have hi := impl_allT x y hx q0 gx
    cases q1 : sameL a b with
    | false =>
      refine ⟨false, Ev.ite_pos (by omega) (Ev.bind h1 (Ev.ite_neg (by simp [q1]) hF)), ?_⟩
      by_cases q3 : e = f
      · refine Ev.ite_pos q3 (Ev.bind h4 ?_)
        cases q2 : sameI c d with
        | false => exact Ev.ite_neg (by simp) (Ev.now _)
        | true => exact Ev.ite_pos rfl (Ev.bind h3 (Ev.ite_neg (by simp [q1]) (Ev.now _)))
      · exact Ev.ite_neg q3 (Ev.now _)
    | true =>
      cases q2 : sameI c d with
      | false =>
        refine ⟨false, Ev.ite_pos (by omega) (Ev.bind h1 (Ev.ite_pos q1 (Ev.bind h2 (Ev.ite_neg (by simp [q2]) hF)))), ?_⟩
        by_cases q3 : e = f
        · exact Ev.ite_pos q3 (Ev.bind h4 (Ev.ite_neg (by simp [q2]) (Ev.now _)))
        · exact Ev.ite_neg q3 (Ev.now _)
      | true =>
        by_cases q3 : e = f
        · refine ⟨allT x y, Ev.ite_pos (by omega) (Ev.bind h1 (Ev.ite_pos q1 (Ev.bind h2 (Ev.ite_pos q2 ?_)))), Ev.ite_pos q3 (Ev.bind h4 (Ev.ite_pos q2 (Ev.bind h3 (Ev.ite_pos q1 (Ev.bind hi (Ev.now _))))))⟩
          rw [show (e != f) = false from by simp [q3]]
          exact hT hs
        · refine ⟨false, Ev.ite_pos (by omega) (Ev.bind h1 (Ev.ite_pos q1 (Ev.bind h2 (Ev.ite_pos q2 ?_)))), Ev.ite_neg q3 (Ev.now _)⟩
          rw [show (e != f) = true from by simp [q3]]
          exact hF
  · refine ⟨false, Ev.ite_neg (by omega) hF, ?_⟩
    have hi : Ev (fun k => slices_EqualFunc_impl_SameState_1.f k x y) false := by
      simp only [slices_EqualFunc_impl_SameState_1.f]
      exact Ev.ite_neg (by omega) (Ev.now _)
    by_cases q3 : e = f
    · refine Ev.ite_pos q3 (Ev.bind h4 ?_)
      cases q2 : sameI c d with
      | false => exact Ev.ite_neg (by simp) (Ev.now _)
      | true =>
        refine Ev.ite_pos rfl (Ev.bind h3 ?_)
        cases q1 : sameL a b with
        | false => exact Ev.ite_neg (by simp) (Ev.now _)
        | true => exact Ev.ite_pos rfl (Ev.bind hi (Ev.now _))
    · exact Ev.ite_neg q3 (Ev.now _)
theorem FnExactSameState : laws_FnExactSameState.Pure2 := by
  rintro ⟨ts, cs, os, fa⟩ ⟨us, ds, ps, fb⟩ ⟨⟨h0, h0'⟩, ⟨h1, h1'⟩, ⟨h2, _⟩, _⟩ ⟨⟨g0, g0'⟩, ⟨g1, g1'⟩, ⟨g2, _⟩, _⟩
  show ∃ k, laws_FnExactSameState.f k ts cs os fa us ds ps fb = some true
  apply Ev.rounds
  have hst : ∀ t ∈ ts, t.f5.length ≤ 9223372036854775807 := fun t ht => (h0' t ht).2.2.2.2.2.1
  have hsf : ∀ t ∈ ts, ∀ x ∈ t.f5, x < 18446744073709551616 := fun t ht => (h0' t ht).2.2.2.2.2.2
  have gst : ∀ t ∈ us, t.f5.length ≤ 9223372036854775807 := fun t ht => (g0' t ht).2.2.2.2.2.1
  have gsf : ∀ t ∈ us, ∀ x ∈ t.f5, x < 18446744073709551616 := fun t ht => (g0' t ht).2.2.2.2.2.2
  obtain ⟨v, hv, hq⟩ := sz_stateM ts cs os fa 1048576 (by omega) (by omega) h0 hst h1 h2
  simp only [laws_FnExactSameState.f]
  by_cases c : v < 0
  · exact Ev.bind hv (Ev.ite_pos c (Ev.now _))
  · obtain ⟨v1, q0, q1, q2, q3⟩ := hq (by omega)
    obtain ⟨w, hw, hr⟩ := sz_stateM us ds ps fb v (by omega) v1 g0 gst g1 g2
    by_cases c2 : w < 0
    · exact Ev.bind hv (Ev.ite_neg c (Ev.bind hw (Ev.ite_pos c2 (Ev.now _))))
    · obtain ⟨_, r0, r1, r2, r3⟩ := hr (by omega)
      have ht : Ev (fun k => laws_toState.f k ts cs os fa) (ts.map cvT, cs, os, fa) := Ev.bind (toThreadS_ev ts q0 q1) (Ev.bind (toFloatS_ev cs q2) (Ev.bind (toIntS_ev os q3) (Ev.now _)))
      have hu : Ev (fun k => laws_toState.f k us ds ps fb) (us.map cvT, ds, ps, fb) := Ev.bind (toThreadS_ev us r0 r1) (Ev.bind (toFloatS_ev ds r2) (Ev.bind (toIntS_ev ps r3) (Ev.now _)))
      have gt : ∀ t ∈ ts.map cvT, goodT t := fun t ht => by
        obtain ⟨y, hy, rfl⟩ := List.mem_map.mp ht
        exact ⟨q1 y hy, hsf y hy⟩
      have gu : ∀ t ∈ us.map cvT, goodT t := fun t ht => by
        obtain ⟨y, hy, rfl⟩ := List.mem_map.mp ht
        exact ⟨r1 y hy, gsf y hy⟩
      have he : Ev (fun k => laws_eqState.f k (ts.map cvT) cs os fa (ts.map cvT) cs os fa) true := by
        simp only [laws_eqState.f]
        exact Ev.bind (eqThreadS_ev (ts.map cvT) (by rw [List.length_map]; exact q0) gt) (Ev.ite_pos rfl (Ev.bind (eqFloatS_ev cs q2 h1') (Ev.ite_pos rfl (Ev.bind (eqIntS_ev os q3) (Ev.ite_pos rfl (Ev.ite_pos trivial (Ev.now _)))))))
      have hf : Ev (fun k => laws_eqState.f k (us.map cvT) ds ps fb (us.map cvT) ds ps fb) true := by
        simp only [laws_eqState.f]
        exact Ev.bind (eqThreadS_ev (us.map cvT) (by rw [List.length_map]; exact r0) gu) (Ev.ite_pos rfl (Ev.bind (eqFloatS_ev ds r2 g1') (Ev.ite_pos rfl (Ev.bind (eqIntS_ev ps r3) (Ev.ite_pos rfl (Ev.ite_pos trivial (Ev.now _)))))))
      obtain ⟨r, hs, hi⟩ := same_state (ts.map cvT) (us.map cvT) cs ds os ps fa fb (by rw [List.length_map]; exact q0) q2 q3 gt gu h1' g1'
      exact Ev.bind hv (Ev.ite_neg c (Ev.bind hw (Ev.ite_neg c2 (Ev.bind ht (Ev.bind hu (Ev.bind hs (Ev.bind ht (Ev.bind hu (Ev.bind hi (Ev.ite_neg (by simp) (Ev.bind ht (Ev.bind he (Ev.ite_pos rfl (Ev.bind hu (Ev.bind hf (Ev.ite_pos rfl (Ev.now _)))))))))))))))))

end Go.Proofs.Yteaahcofgnghaaa.Pure

/- FnOneOrder's plain laws: the orders that are found, their number, what fits. -/
import Derived.Test.YthdpiceiemkjlaaGFnOneOrderx18
import Derived.Test.YthdpiceiemkjlaaMBase
import Derived.KernelRfl
import Derived.Test.YthdpiceiemkjlaaPureOneFacts
set_option linter.unusedVariables false
set_option linter.unusedSimpArgs false
namespace Go.Proofs.Ythdpiceiemkjlaa.Pure
open Go.RowKit Go.Proofs.Ythdpiceiemkjlaa.GFnOneOrder Go.Proofs.YthdpiceiemkjlaaW.PrintWords Go.Proofs.YthdpiceiemkjlaaW.PrintLast Go.Proofs.YthdpiceiemkjlaaW.PrintMore Go.Proofs.Ythdpiceiemkjlaa.MBase
open Go.Proofs.Ythdpiceiemkjlaa Go.Proofs.Ythdpiceiemkjlaa.MNum Go.Proofs.Ythdpiceiemkjlaa.MIeee Go.Proofs.Ythdpiceiemkjlaa.MReal
def okG (kind : Int) (hs : List S77) : Bool := (kind == 1 || kind == 2) && goodH hs
def ordG (kind : Int) (hs : List S77) : List (List Int) := if okG kind hs = true then ord kind hs hs.length [] (L0 kind) else []
theorem ordG_t {kind : Int} {hs : List S77} (h : okG kind hs = true) : ordG kind hs = ord kind hs hs.length [] (L0 kind) := if_pos h
theorem ordG_f {kind : Int} {hs : List S77} (h : okG kind hs = false) : ordG kind hs = [] := if_neg (by rw [h]; exact Bool.false_ne_true)
theorem count_both (kind : Int) (hs : List S77) (hh : hs.length ≤ 1048576) (hf : ∀ c ∈ hs, c.f4 < 18446744073709551616) : Ev (fun k => spec_CountOrders.f k kind hs) (((ordG kind hs).length : Int), okG kind hs) ∧ Ev (fun k => impl_CountOrders.f k kind hs) (((ordG kind hs).length : Int), okG kind hs) := by
 simp only [spec_CountOrders.f, impl_CountOrders.f, spec_l16Kind.f, impl_isKind.f, kind_ev, Option.bind_some]
 by_cases ck : (kind == 1 || kind == 2) = true
 ·have hk : kind = 1 ∨ kind = 2 := by simpa using ck
  cases hg : goodH hs with
  | false =>
   have e : okG kind hs = false := by rw [okG, ck, hg]; rfl
   rw [ordG_f e, e]
   exact ⟨Ev.ite_pos ck (Ev.bind (spec_good hs hh) (Ev.ite_neg (by simp [hg]) (Ev.now _))), Ev.ite_pos ck (Ev.bind (impl_good hs hh) (Ev.ite_neg (by simp [hg]) (Ev.now _)))⟩
  | true =>
   have e : okG kind hs = true := by rw [okG, ck, hg]; rfl
   rw [ordG_t e]
   have G := goodHs kind hk hs hg hf
   have hn := G.n
   rw [e]
   have hlim := ord_lim kind hs hn hs.length (by omega) [] (L0 kind)
   have h1 := orders_ev G hs.length [] (L0 kind) (Begun.nil kind hs) (by simp) true (fun q => absurd rfl q) (fun _ => rfl)
   rw [if_pos rfl] at h1
   have h2 := search_ev Srch.mrC G hs.length [] (L0 kind) (Begun.nil kind hs) (by simp) 0
   rw [runO_count _ 0 (by omega) (by omega), Int.zero_add] at h2
   refine ⟨Ev.ite_pos ck (Ev.bind (spec_good hs hh) (Ev.ite_pos hg (Ev.bind h1 (Ev.now _)))), Ev.ite_pos ck (Ev.bind (impl_good hs hh) (Ev.ite_pos hg ?_))⟩
   simp only [new_ev, Option.bind_some]
   exact Ev.bind h2 (Ev.now _)
 ·have ck' : (kind == 1 || kind == 2) = false := by simpa using ck
  have e : okG kind hs = false := by rw [okG, ck']; rfl
  rw [ordG_f e, e]
  exact ⟨Ev.ite_neg ck (Ev.now _), Ev.ite_neg ck (Ev.now _)⟩
theorem order_both (kind : Int) (hs : List S77) (hh : hs.length ≤ 1048576) (hf : ∀ c ∈ hs, c.f4 < 18446744073709551616) : Ev (fun k => spec_OrderFor.f k kind hs) ((ordG kind hs).head?.getD [], (ordG kind hs).head?.isSome) ∧ Ev (fun k => impl_OrderFor.f k kind hs) ((ordG kind hs).head?.getD [], (ordG kind hs).head?.isSome) := by
 simp only [spec_OrderFor.f, impl_OrderFor.f, spec_l16Kind.f, impl_isKind.f, kind_ev, Option.bind_some]
 have hT : Ev (fun k => spec_OrderFor.j0 k kind hs true) (([] : List Int), false) := Ev.step (f := fun _ => some (([] : List Int), false)) (fun k => by simp only [spec_OrderFor.j0]; rw [if_pos trivial]) (Ev.now _)
 by_cases ck : (kind == 1 || kind == 2) = true
 ·have hk : kind = 1 ∨ kind = 2 := by simpa using ck
  cases hg : goodH hs with
  | false =>
   have e : okG kind hs = false := by rw [okG, ck, hg]; rfl
   rw [ordG_f e]
   exact ⟨Ev.ite_pos ck (Ev.bind (spec_good hs hh) (by rw [hg]; exact hT)), Ev.ite_pos ck (Ev.bind (impl_good hs hh) (Ev.ite_neg (by simp [hg]) (Ev.now _)))⟩
  | true =>
   have e : okG kind hs = true := by rw [okG, ck, hg]; rfl
   rw [ordG_t e]
   have G := goodHs kind hk hs hg hf
   have hn := G.n
   have h1 := orders_ev G hs.length [] (L0 kind) (Begun.nil kind hs) (by simp) true (fun q => absurd rfl q) (fun _ => rfl)
   rw [if_pos rfl] at h1
   have h2 := search_ev Srch.mrN G hs.length [] (L0 kind) (Begun.nil kind hs) (by simp) 0
   rw [runO_find] at h2
   have hS : Ev (fun k => spec_OrderFor.j0 k kind hs false) ((ord kind hs hs.length [] (L0 kind)).head?.getD [], (ord kind hs hs.length [] (L0 kind)).head?.isSome) := by
    refine Ev.step (f := fun k => (spec_l16Orders.f k kind hs ([] : List Int)).bind fun t => (if (t.length : Int) = 0 then (some (([] : List Int), false)) else (if 0 < (t.length : Int) then ((spec_l1Own.f (rd_L4 t 0)).bind fun t210 => (some (t210, true))) else (none)))) (fun k => by simp only [spec_OrderFor.j0]; rw [if_neg (by simp)]) (Ev.bind h1 ?_)
    cases hO : ord kind hs hs.length [] (L0 kind) with
    | nil => exact Ev.ite_pos rfl (Ev.now _)
    | cons o os =>
     have hol : o.length ≤ 8 := by have := ((fits_char G o).1 (by rw [hO]; exact List.mem_cons_self)).1.1; omega
     exact Ev.ite_neg (by simp <;> omega) (Ev.ite_pos (by simp <;> omega) (Ev.bind (Ev.const (own_eq o (by omega))) (Ev.now _)))
   refine ⟨Ev.ite_pos ck (Ev.bind (spec_good hs hh) (by rw [hg]; exact hS)), Ev.ite_pos ck (Ev.bind (impl_good hs hh) (Ev.ite_pos hg ?_))⟩
   simp only [new_ev, Option.bind_some]
   exact Ev.bind h2 (Ev.now _)
 ·have ck' : (kind == 1 || kind == 2) = false := by simpa using ck
  have e : okG kind hs = false := by rw [okG, ck']; rfl
  rw [ordG_f e]
  exact ⟨Ev.ite_neg ck hT, Ev.ite_neg ck (Ev.now _)⟩
set_option maxHeartbeats 1000000 in
theorem fits_both (kind : Int) (hs : List S77) (xs : List Int) (hh : hs.length ≤ 1048576) (hl : xs.length ≤ 1048576) (fh : ∀ c ∈ hs, c.f4 < 18446744073709551616) :
  ∃ v ok : Bool, (v = true ↔ xs ∈ ordG kind hs) ∧ (v = true → ok = true ∧ isOrd hs xs ∧ allP (fun i => !anyA hs xs i) 0 xs.length = true) ∧ Ev (fun k => spec_FitsOrder.f k kind hs xs) (v, ok) ∧ Ev (fun k => impl_FitsOrder.f k kind hs xs) (v, ok) := by
 have hkd : ∀ b : Bool, (if kind = 1 then some true else some (kind == 2)) = some (kind == 1 || kind == 2) := fun _ => by
  by_cases c : kind = 1
  ·rw [if_pos c, c]; rfl
  ·rw [if_neg c, show (kind == 1) = false from by simpa using c, Bool.false_or]
 simp only [spec_FitsOrder.f, impl_FitsOrder.f, impl_PlayObject.f, spec_l16Kind.f, impl_isKind.f, hkd true, Option.bind_some]
 have hF : ∀ {g : Nat → Option (List Nat × Bool)}, Ev g ([], false) → Ev (fun k => (g k).bind fun bt => if bt.2 = true then impl_FitsOrder.l0 k hs xs bt.1 xs (xs.length : Int) 0 else some (false, false)) (false, false) := fun h => Ev.bind h (Ev.ite_neg (by simp) (Ev.now _))
 by_cases ck : (kind == 1 || kind == 2) = true
 ·have hk : kind = 1 ∨ kind = 2 := by simpa using ck
  cases hg : goodH hs with
  | false =>
   have e : okG kind hs = false := by rw [okG, ck, hg]; rfl
   exact ⟨false, false, by rw [ordG_f e]; simp, fun q => (by cases q), Ev.ite_pos ck (Ev.bind (spec_good hs hh) (Ev.ite_neg (by simp [hg]) (Ev.now _))), hF (Ev.ite_pos ck (Ev.bind (impl_good hs hh) (Ev.ite_neg (by simp [hg]) (Ev.now _))))⟩
  | true =>
   have e : okG kind hs = true := by rw [okG, ck, hg]; rfl
   have G := goodHs kind hk hs hg fh
   rw [ordG_t e, fits_char G xs]
   obtain ⟨r, hr, o1, o2⟩ := order_char hs xs hh hl
   cases r with
   | false => exact ⟨false, false, ⟨fun q => (by cases q), fun q => absurd (hr.2 q.1) (by simp)⟩, fun q => (by cases q), Ev.ite_pos ck (Ev.bind (spec_good hs hh) (Ev.ite_pos hg (Ev.bind o1 (Ev.ite_neg (by simp) (Ev.now _))))), hF (Ev.ite_pos ck (Ev.bind (impl_good hs hh) (Ev.ite_pos hg (Ev.bind o2 (Ev.ite_neg (by simp) (Ev.now _))))))⟩
   | true =>
    have hO := hr.1 rfl
    obtain ⟨_, hb, _⟩ := hr.1 rfl
    obtain ⟨T, t1, t2, t3, t4⟩ := play_same kind hk hs fh xs hb hl
    have hT := Ev.unique t3 (splay_ev kind hk hs xs hb (by have := hO.1; have := G.n; omega))
    have h1 := fits_outer kind hs xs hb hl T _ t3 (fits_told hs xs hb hl T t1 t2 fh xs.length 0 (by omega)) xs.length 0 (by omega)
    have h2 := impl_outer hs xs hb hl T t1 xs.length 0 (by omega)
    have e : (if allP (fun i => !anyA hs xs i) 0 xs.length = true then allP (sameAt hs xs T) 0 xs.length else false) = allP (fun i => sameAt hs xs T i && !anyA hs xs i) 0 xs.length := by
     rw [allP_and]
     cases allP (fun i => !anyA hs xs i) 0 xs.length <;> simp
    rw [e] at h1
    rw [← hT]
    refine ⟨_, true, ⟨fun q => ⟨hO, q⟩, fun q => q.2⟩, fun q => ⟨rfl, hO, ?_⟩, Ev.ite_pos ck (Ev.bind (spec_good hs hh) (Ev.ite_pos hg (Ev.bind o1 (Ev.ite_pos rfl (Ev.bind (g := fun k => spec_l16Fits.f k kind hs xs) h1 (Ev.now _)))))), Ev.bind (g := fun k => if (kind == 1 || kind == 2) = true then _ else _) (Ev.ite_pos ck (Ev.bind (impl_good hs hh) (Ev.ite_pos hg (Ev.bind o2 (Ev.ite_pos rfl (Ev.bind t4 (Ev.now _))))))) (Ev.ite_pos rfl h2)⟩
    rw [allP_and, Bool.and_eq_true] at q
    exact q.2
 ·have ck' : (kind == 1 || kind == 2) = false := by simpa using ck
  have e : okG kind hs = false := by rw [okG, ck']; rfl
  exact ⟨false, false, by rw [ordG_f e]; simp, fun q => (by cases q), Ev.ite_neg ck (Ev.now _), hF (Ev.ite_neg ck (Ev.now _))⟩
theorem ahead_both (xs : List S77) (hl : xs.length ≤ 1048576) (i j : Int) : ∃ r ok : Bool, (goodH xs = true → (0 ≤ i ∧ i < (xs.length : Int)) → (0 ≤ j ∧ j < (xs.length : Int)) → ok = true ∧ r = decide ((rd_T77 xs i).f2 < (rd_T77 xs j).f1)) ∧ Ev (fun k => spec_CallAhead.f k xs i j) (r, ok) ∧ Ev (fun k => impl_CallAhead.f k xs i j) (r, ok) := by
 have hw : wrap64 ((xs.length : Int) - 1) = (xs.length : Int) - 1 := wrap_id (by omega) (by omega)
 simp only [spec_CallAhead.f, impl_CallAhead.f, impl_Call.f, impl_Call_ahead.f, spec_l16Ahead.f, l1In_dec, in_dec, hw, Option.bind_some]
 cases hg : goodH xs with
 | false => exact ⟨false, false, fun q => (by cases q), Ev.bind (spec_good xs hl) (Ev.ite_neg (by simp [hg]) (Ev.now _)), Ev.bind (impl_good xs hl) (Ev.ite_neg (by simp [hg]) (Ev.now _))⟩
 | true =>
  by_cases h1 : 0 ≤ i ∧ i ≤ (xs.length : Int) - 1
  ·by_cases h2 : 0 ≤ j ∧ j ≤ (xs.length : Int) - 1
   ·refine ⟨decide ((rd_T77 xs i).f2 < (rd_T77 xs j).f1), true, fun _ _ _ => ⟨rfl, rfl⟩, Ev.bind (spec_good xs hl) (Ev.ite_pos hg (Ev.ite_pos (decide_eq_true h1) (Ev.ite_pos (decide_eq_true h2) ?_))), Ev.bind (impl_good xs hl) (Ev.ite_pos hg (Ev.ite_pos (decide_eq_true h1) (Ev.ite_pos (decide_eq_true h2) ?_)))⟩ <;>
    exact Ev.ite_pos (by omega) (Ev.ite_pos (by omega) (Ev.ite_pos (by omega) (Ev.ite_pos (by omega) (Ev.now _))))
   ·exact ⟨false, false, fun _ _ q => absurd q (by omega), Ev.bind (spec_good xs hl) (Ev.ite_pos hg (Ev.ite_pos (decide_eq_true h1) (Ev.ite_neg (by simp; omega) (Ev.now _)))), Ev.bind (impl_good xs hl) (Ev.ite_pos hg (Ev.ite_pos (decide_eq_true h1) (Ev.ite_neg (by simp; omega) (Ev.now _))))⟩
  ·exact ⟨false, false, fun _ q _ => absurd q (by omega), Ev.bind (spec_good xs hl) (Ev.ite_pos hg (Ev.ite_neg (by simp; omega) (Ev.now _))), Ev.bind (impl_good xs hl) (Ev.ite_pos hg (Ev.ite_neg (by simp; omega) (Ev.now _)))⟩
/-- What fits: no later call of the order lies ahead of an earlier one. -/
theorem ahead_no {hs : List S77} {xs : List Int} (hh : hs.length ≤ 1048576) (hg : goodH hs = true) (hO : isOrd hs xs) (hA : allP (fun i => !anyA hs xs i) 0 xs.length = true) (i j : Nat) (hij : i < j) (hj : j < xs.length) : Ev (fun k => impl_CallAhead.f k hs (xs.getD j 0) (xs.getD i 0)) (false, true) := by
 obtain ⟨r, ok, h, _, h2⟩ := ahead_both hs hh (xs.getD j 0) (xs.getD i 0)
 have hx : ∀ k, k < xs.length → 0 ≤ xs.getD k 0 ∧ xs.getD k 0 < (hs.length : Int) := fun k hk => by
  rw [show xs.getD k 0 = xs[k] from by simp [hk]]
  exact hO.2.1 _ (List.getElem_mem hk)
 obtain ⟨e1, e2⟩ := h hg (hx j hj) (hx i (by omega))
 have h3 := (allP_iff _ xs.length 0).1 hA i (by omega) (by omega)
 simp only [anyA, Bool.not_eq_true', List.any_eq_false, decide_eq_true_eq] at h3
 have h4 := h3 (xs.getD j 0) (by
  rw [show xs.getD j 0 = xs[j] from by simp [hj]]
  rw [List.mem_iff_getElem]
  exact ⟨j - (i + 1), by rw [List.length_drop]; omega, by rw [List.getElem_drop]; congr 1; omega⟩)
 rw [e1, e2, decide_eq_false h4] at h2
 exact h2
theorem sameInts_loop (xs : List Int) (hl : xs.length ≤ 1048576) : ∀ d i : Nat, i + d = xs.length → Ev (fun k => laws_sameInts.l0 k xs xs (xs.length : Int) (i : Int)) true
 | 0, i, h => by
  refine Ev.step (f := fun _ => some true) (fun k => ?_) (Ev.now _)
  simp only [laws_sameInts.l0]
  rw [if_neg (by omega)]
 | d + 1, i, h => by
  refine Ev.step (fun k => ?_) (sameInts_loop xs hl d (i + 1) (by omega))
  simp only [laws_sameInts.l0]
  rw [if_pos (by omega), if_pos (by omega), if_pos (by omega), if_pos (by omega), wrap_id (n := (i : Int) + 1) (by omega) (by omega)]
  rfl
theorem sameInts_refl (xs : List Int) (hl : xs.length ≤ 1048576) : Ev (fun k => laws_sameInts.f k xs xs) true := by
 simp only [laws_sameInts.f]
 exact Ev.ite_pos trivial (sameInts_loop xs hl xs.length 0 (by omega))
theorem sameNum_refl {x : Nat} (hx : x < 18446744073709551616) : laws_sameNum.f x x = some true := by
 simp only [laws_sameNum.f, feq_self]
 cases hn : isNan x with
 | true => rfl
 | false =>
  simp only [Bool.not_false, if_true]
  rw [feq_eq hn nan_zero, key_zero]
  simp only [decide_eq_true_eq]
  by_cases h0 : key x = 0
  ·rw [if_pos h0]
   rcases zero_cases hx (key_rg_zero.mp h0) with rfl | rfl
   ·rw [if_pos inv_pz.1, if_pos inv_pz.1, show isNan (fdiv 4607182418800017408 0) = false from by kernel_rfl]; rfl
   ·rw [if_pos inv_nz.1, if_pos inv_nz.1, show isNan (fdiv 4607182418800017408 9223372036854775808) = false from by kernel_rfl]; rfl
  ·rw [if_neg h0]
theorem sameNum_eqv {x y t : Nat} (ht : t < 18446744073709551616) (hx : eqv x t) (hy : eqv y t) : laws_sameNum.f x y = some true := by
 rcases hx with rfl | ⟨h1, h2, _⟩
 ·rcases hy with rfl | ⟨h3, h4, _⟩
  ·exact sameNum_refl ht
  ·simp only [laws_sameNum.f, h3, h4]; rfl
 ·rcases hy with rfl | ⟨h3, h4, _⟩
  ·simp only [laws_sameNum.f, h1, h2]; rfl
  ·simp only [laws_sameNum.f, h1, h3]; rfl
theorem sameNums_loop {xs ys ts : List Nat} (hl : ts.length ≤ 1048576) (ht : flL ts) (hx : eqvL xs ts) (hy : eqvL ys ts) : ∀ d i : Nat, i + d = xs.length → Ev (fun k => laws_sameNums.l0 k xs ys (xs.length : Int) (i : Int)) true
 | 0, i, h => by
  refine Ev.step (f := fun _ => some true) (fun k => ?_) (Ev.now _)
  simp only [laws_sameNums.l0]
  rw [if_neg (by omega)]
 | d + 1, i, h => by
  have e1 := hx.1; have e2 := hy.1
  have h3 : ts.getD i 0 < 18446744073709551616 := by
   rw [show ts.getD i 0 = ts[i]'(by omega) from by simp [show i < ts.length from by omega]]
   exact ht _ (List.getElem_mem _)
  refine Ev.step (fun k => ?_) (sameNums_loop hl ht hx hy d (i + 1) (by omega))
  simp only [laws_sameNums.l0, rdOf, Int.toNat_natCast]
  rw [if_pos (by omega), if_pos (by omega), if_pos (by omega), if_pos (by omega), sameNum_eqv h3 (hx.2 i) (hy.2 i), Option.bind_some, if_pos rfl, wrap_id (n := (i : Int) + 1) (by omega) (by omega)]
  rfl
theorem sameNums_ev {xs ys ts : List Nat} (hl : ts.length ≤ 1048576) (ht : flL ts) (hx : eqvL xs ts) (hy : eqvL ys ts) : Ev (fun k => laws_sameNums.f k xs ys) true := by
 have e1 := hx.1
 have e2 := hy.1
 simp only [laws_sameNums.f]
 exact Ev.ite_pos (by omega) (sameNums_loop hl ht hx hy xs.length 0 (by omega))
theorem play_both (kind : Int) (hs : List S77) (xs : List Int) (hh : hs.length ≤ 1048576) (hl : xs.length ≤ 1048576) (fh : ∀ c ∈ hs, c.f4 < 18446744073709551616) :
  ∃ (T : List Nat) (ok : Bool), flL T ∧ T.length ≤ 1048576 ∧ Ev (fun k => spec_PlayObject.f k kind hs xs) (T, ok) ∧ Ev (fun k => impl_PlayObject.f k kind hs xs) (T, ok) := by
 simp only [spec_PlayObject.f, impl_PlayObject.f, spec_l16Kind.f, impl_isKind.f, kind_ev, Option.bind_some]
 by_cases ck : (kind == 1 || kind == 2) = true
 ·have hk : kind = 1 ∨ kind = 2 := by simpa using ck
  cases hg : goodH hs with
  | false => exact ⟨[], false, fun _ q => (by cases q), by simp, Ev.ite_pos ck (Ev.bind (spec_good hs hh) (Ev.ite_neg (by simp [hg]) (Ev.now _))), Ev.ite_pos ck (Ev.bind (impl_good hs hh) (Ev.ite_neg (by simp [hg]) (Ev.now _)))⟩
  | true =>
   obtain ⟨r, hr, o1, o2⟩ := order_char hs xs hh hl
   cases r with
   | false => exact ⟨[], false, fun _ q => (by cases q), by simp, Ev.ite_pos ck (Ev.bind (spec_good hs hh) (Ev.ite_pos hg (Ev.bind o1 (Ev.ite_neg (by simp) (Ev.now _))))), Ev.ite_pos ck (Ev.bind (impl_good hs hh) (Ev.ite_pos hg (Ev.bind o2 (Ev.ite_neg (by simp) (Ev.now _)))))⟩
   | true =>
    obtain ⟨_, hb, _⟩ := hr.1 rfl
    obtain ⟨T, t1, t2, t3, t4⟩ := play_same kind hk hs fh xs hb hl
    exact ⟨T, true, t2, by omega, Ev.ite_pos ck (Ev.bind (spec_good hs hh) (Ev.ite_pos hg (Ev.bind o1 (Ev.ite_pos rfl (Ev.bind t3 (Ev.now _)))))), Ev.ite_pos ck (Ev.bind (impl_good hs hh) (Ev.ite_pos hg (Ev.bind o2 (Ev.ite_pos rfl (Ev.bind t4 (Ev.now _))))))⟩
 ·exact ⟨[], false, fun _ q => (by cases q), by simp, Ev.ite_neg ck (Ev.now _), Ev.ite_neg ck (Ev.now _)⟩

end Go.Proofs.Ythdpiceiemkjlaa.Pure

/- The pure statement of FnExactPctAt: the schedule with a number, reckoned out, is the one that lies there among all of them. -/
import Derived.Test.YtpfbiopcfbokbaaQFnExactPctAt
import Derived.Test.YtpfbiopcfbokbaaMBase
import Derived.KernelRfl
set_option linter.unusedVariables false
set_option linter.unusedSimpArgs false
namespace Go.Proofs.Ytpfbiopcfbokbaa.Pure
open Go.RowKit Go.Proofs.Ytpfbiopcfbokbaa.GPctAt Go.Proofs.YtpfbiopcfbokbaaW.PrintWords Go.Proofs.YtpfbiopcfbokbaaW.PrintLast Go.Proofs.YtpfbiopcfbokbaaW.PrintMore Go.Proofs.Ytpfbiopcfbokbaa.MBase
theorem eqIntS_l0 (xs : List Int) (hx : xs.length ≤ 1048576) : ∀ (d i : Nat), i + d = xs.length → Ev (fun k => laws_eqIntS.l0 k xs xs (i : Int)) true
  | 0, i, h => by
    refine Ev.step (f := fun _ => some true) (fun k => ?_) (Ev.now _)
    simp only [laws_eqIntS.l0]
    rw [if_neg (by omega)]
  | d + 1, i, h => by
    refine Ev.step (fun k => ?_) (eqIntS_l0 xs hx d (i + 1) (by omega))
    simp only [laws_eqIntS.l0]
    rw [if_pos (by omega), if_pos (by omega), if_pos (by omega), if_pos trivial, wrap_id (by omega) (by omega)]
    rfl
theorem eqIntS_ev (xs : List Int) (hx : xs.length ≤ 1048576) : Ev (fun k => laws_eqIntS.f k xs xs) true := by
  refine Ev.congr (fun k => ?_) (eqIntS_l0 xs hx xs.length 0 (by omega))
  simp only [laws_eqIntS.f]
  rw [if_pos trivial]
  rfl
theorem markIntS_l0 (n : Nat) (hn : n ≤ 1048576) : ∀ (d i : Nat) (xs : List Int) (a : Int), i + d = n → xs.length = n → 0 ≤ a → a + (d : Int) ≤ 5000000000000000000 →
    Ev (fun k => laws_markIntS.l0 k xs a (i : Int)) (a + d, xs.take i ++ iota a d)
  | 0, i, xs, a, h, hl, h0, h1 => by
    have e : xs.take i ++ iota a 0 = xs := by rw [List.take_of_length_le (by omega), iota, List.append_nil]
    rw [e]
    refine Ev.step (f := fun _ => some (a, xs)) (fun k => ?_) ⟨0, fun _ _ => by simp⟩
    simp only [laws_markIntS.l0]
    rw [if_neg (by omega)]
  | d + 1, i, xs, a, h, hl, h0, h1 => by
    have ih := markIntS_l0 n hn d (i + 1) (xs.set i a) (a + 1) (by omega) (by simpa using hl) (by omega) (by omega)
    have e : (xs.set i a).take (i + 1) ++ iota (a + 1) d = xs.take i ++ iota a (d + 1) := by
      rw [List.take_succ_eq_append_getElem (by simp; omega), List.getElem_set_self, List.take_set, List.set_eq_of_length_le (by simp; omega), List.append_assoc]
      rfl
    rw [e, show a + 1 + (d : Int) = a + ((d + 1 : Nat) : Int) from by omega] at ih
    refine Ev.step (fun k => ?_) ih
    simp only [laws_markIntS.l0]
    rw [if_pos (by omega), if_pos (by omega), wrap_id (by omega) (by omega), wrap_id (by omega) (by omega)]
    rfl
theorem markIntS_ev (xs : List Int) (a : Int) (hn : xs.length ≤ 1048576) (h0 : 0 ≤ a) (h1 : a ≤ 4611686018427387000) : Ev (fun k => laws_markIntS.f k xs a) (a + xs.length, iota a xs.length) := by
  have h := markIntS_l0 xs.length hn xs.length 0 xs a (by omega) rfl h0 (by omega)
  simp only [List.take_zero, List.nil_append] at h
  exact h
theorem heldIntS_l0 (n : Nat) (hn : n ≤ 1048576) (a : Int) (h0 : 0 ≤ a) (h1 : a ≤ 4611686018427387000) : ∀ (d i : Nat), i + d = n →
    Ev (fun k => laws_heldIntS.l0 k (iota a n) (a + i) (i : Int)) (a + n)
  | 0, i, h => by
    obtain rfl : i = n := by omega
    refine Ev.step (f := fun _ => some (a + (i : Int))) (fun k => ?_) (Ev.now _)
    simp only [laws_heldIntS.l0, iota_length]
    rw [if_neg (by omega)]
  | d + 1, i, h => by
    refine Ev.step (fun k => ?_) (heldIntS_l0 n hn a h0 h1 d (i + 1) (by omega))
    simp only [laws_heldIntS.l0, iota_length]
    rw [if_pos (by omega), if_pos (by omega), if_pos (by rw [rd_nat, iota_getD _ _ _ (by omega)]), wrap_id (by omega) (by omega), wrap_id (by omega) (by omega), show a + (i : Int) + 1 = a + ((i + 1 : Nat) : Int) from by omega]
    rfl
theorem heldIntS_ev (n : Nat) (a : Int) (hn : n ≤ 1048576) (h0 : 0 ≤ a) (h1 : a ≤ 4611686018427387000) : Ev (fun k => laws_heldIntS.f k (iota a n) a) (a + n) := by
  have h := heldIntS_l0 n hn a h0 h1 n 0 (by omega)
  simp only [Int.ofNat_zero, Int.add_zero, Int.natCast_zero] at h
  exact h
theorem l1In_dec (a b c : Int) : spec_l1In.f a b c = some (decide (b ≤ a ∧ a ≤ c)) := by
  unfold spec_l1In.f
  by_cases h : b ≤ a
  · rw [if_pos h]; simp [h]
  · rw [if_neg h]; simp [h]
theorem in_dec (a b c : Int) : impl_in.f a b c = some (decide (b ≤ a ∧ a ≤ c)) := l1In_dec a b c
theorem iota_snoc (a : Int) (n : Nat) : iota a (n + 1) = iota a n ++ [a + n] := by
  induction n generalizing a with
  | zero => simp [iota]
  | succ n ih =>
    rw [iota, ih (a + 1)]
    simp only [iota, List.cons_append]
    rw [show a + 1 + (n : Int) = a + ((n + 1 : Nat) : Int) from by omega]
/-! ### what the kernel reckons out -/
def permsOk (t : Nat) : Bool := match spec_l5Perms.f 40 (t : Int) [], impl_factorial.f 40 (t : Int) with
  | some l, some n => (l.length : Int) == n && (decide (l.length ≤ 1000) && ((l.all fun p => decide (p.length ≤ 10)) && (List.range l.length).all fun r => impl_pctAt.l1 40 (t : Int) 0 0 (iota 0 t) (r : Int) 0 (t : Int) [] [] == some (l.getD r [] ++ iota (t : Int) (5 - t), [])))
  | _, _ => false
def choicesOk (s c : Nat) : Bool := match spec_l5Choices.f 300 (s : Int) (c : Int) 0, impl_choose.f 40 (s : Int) (c : Int) with
  | some l, some n => (l.length : Int) == n && (decide (l.length ≤ 1000) && ((l.all fun p => decide (p.length ≤ 10)) && (List.range l.length).all fun x => impl_pctAt.l3 60 (s : Int) (c : Int) (x : Int) 0 [] [] == some ([], l.getD x [])))
  | _, _ => false
theorem perms1 : permsOk 1 = true := by kernel_rfl
theorem perms2 : permsOk 2 = true := by kernel_rfl
theorem perms3 : permsOk 3 = true := by kernel_rfl
theorem perms4 : permsOk 4 = true := by kernel_rfl
theorem perms5 : permsOk 5 = true := by kernel_rfl
theorem choices0 : ((List.range 21).all fun s => choicesOk s 0) = true := by kernel_rfl
theorem choices1 : ((List.range 21).all fun s => choicesOk s 1) = true := by kernel_rfl
theorem choices2a : ((List.range 11).all fun s => choicesOk s 2) = true := by kernel_rfl
theorem choices2b : ((List.range 5).all fun s => choicesOk (11 + s) 2) = true := by kernel_rfl
theorem choices2c : ((List.range 5).all fun s => choicesOk (16 + s) 2) = true := by kernel_rfl
theorem perms_ok (t : Nat) (h1 : 1 ≤ t) (h2 : t ≤ 5) : permsOk t = true := by
  rcases (by omega : t = 1 ∨ t = 2 ∨ t = 3 ∨ t = 4 ∨ t = 5) with rfl | rfl | rfl | rfl | rfl
  · exact perms1
  · exact perms2
  · exact perms3
  · exact perms4
  · exact perms5
theorem choices_ok (s c : Nat) (h1 : s ≤ 20) (h2 : c ≤ 2) : choicesOk s c = true := by
  rcases (by omega : c = 0 ∨ c = 1 ∨ c = 2) with rfl | rfl | rfl
  · exact List.all_eq_true.mp choices0 s (by simp; omega)
  · exact List.all_eq_true.mp choices1 s (by simp; omega)
  · by_cases h : s < 11
    · exact List.all_eq_true.mp choices2a s (by simp; omega)
    · by_cases h' : s < 16
      · have := List.all_eq_true.mp choices2b (s - 11) (by simp; omega)
        rwa [show 11 + (s - 11) = s by omega] at this
      · have := List.all_eq_true.mp choices2c (s - 16) (by simp; omega)
        rwa [show 16 + (s - 16) = s by omega] at this
theorem perms_at (t : Nat) (h1 : 1 ≤ t) (h2 : t ≤ 5) : ∃ l n, spec_l5Perms.f 40 (t : Int) [] = some l ∧ impl_factorial.f 40 (t : Int) = some n ∧ (l.length : Int) = n ∧ l.length ≤ 1000 ∧ (∀ p ∈ l, p.length ≤ 10) ∧ ∀ r, r < l.length → impl_pctAt.l1 40 (t : Int) 0 0 (iota 0 t) (r : Int) 0 (t : Int) [] [] = some (l.getD r [] ++ iota (t : Int) (5 - t), []) := by
  have h := perms_ok t h1 h2
  unfold permsOk at h
  split at h
  · rename_i l n hl hn
    simp only [Bool.and_eq_true, beq_iff_eq, decide_eq_true_eq, List.all_eq_true, List.mem_range] at h
    exact ⟨l, n, hl, hn, h.1, h.2.1, h.2.2.1, h.2.2.2⟩
  · cases h
theorem choices_at (s c : Nat) (h1 : s ≤ 20) (h2 : c ≤ 2) : ∃ l n, spec_l5Choices.f 300 (s : Int) (c : Int) 0 = some l ∧ impl_choose.f 40 (s : Int) (c : Int) = some n ∧ (l.length : Int) = n ∧ l.length ≤ 1000 ∧ (∀ p ∈ l, p.length ≤ 10) ∧ ∀ x, x < l.length → impl_pctAt.l3 60 (s : Int) (c : Int) (x : Int) 0 [] [] = some ([], l.getD x []) := by
  have h := choices_ok s c h1 h2
  unfold choicesOk at h
  split at h
  · rename_i l n hl hn
    simp only [Bool.and_eq_true, beq_iff_eq, decide_eq_true_eq, List.all_eq_true, List.mem_range] at h
    exact ⟨l, n, hl, hn, h.1, h.2.1, h.2.2.1, h.2.2.2⟩
  · cases h
/-! ### impl: what is handed through -/
theorem l3R (R : List Int) : ∀ (k : Nat) (s c x n : Int) (ch o : List Int), impl_pctAt.l3 k s c x n [] ch = some ([], o) → impl_pctAt.l3 k s c x n R ch = some (R, o)
  | 0, s, c, x, n, ch, o, h => by simp [impl_pctAt.l3] at h
  | k + 1, s, c, x, n, ch, o, h => by
    simp only [impl_pctAt.l3] at h ⊢
    by_cases hc : c > 0
    · rw [if_pos hc] at h ⊢
      obtain ⟨v, hv, h⟩ := Option.bind_eq_some_iff.mp h
      rw [hv]
      simp only [Option.bind_some]
      by_cases hx : x < v
      · rw [if_pos hx] at h ⊢
        by_cases hl : ch.length < 17592186044416
        · rw [if_pos hl] at h ⊢
          exact l3R R k _ _ _ _ _ _ h
        · rw [if_neg hl] at h
          cases h
      · rw [if_neg hx] at h ⊢
        exact l3R R k _ _ _ _ _ _ h
    · rw [if_neg hc] at h ⊢
      simp only [Option.some.injEq, Prod.mk.injEq, true_and] at h ⊢
      exact h
theorem l3zero (k : Nat) (out R : List Int) (h : impl_pctAt.l3 k 0 0 0 0 out [] = some (R, [])) : R = out := by
  cases k with
  | zero => simp [impl_pctAt.l3] at h
  | succ k =>
    simp only [impl_pctAt.l3] at h
    rw [if_neg (by omega)] at h
    simp only [Option.some.injEq, Prod.mk.injEq, and_true] at h
    exact h.symm
theorem l2tail (s c x : Int) (R : List Int) (r : List Int × List Int) (hr : Ev (fun k => impl_pctAt.l3 k s c x 0 R []) r) : ∀ (k : Nat) (i : Int) (out : List Int), impl_pctAt.l2 k 0 0 0 i out [] = some (R, []) → Ev (fun k => impl_pctAt.l2 k s c x i out []) r
  | 0, i, out, h => by simp [impl_pctAt.l2] at h
  | k + 1, i, out, h => by
    simp only [impl_pctAt.l2] at h
    by_cases hi : i < 5
    · rw [if_pos hi] at h
      by_cases hl : out.length < 17592186044416
      · rw [if_pos hl] at h
        refine Ev.step (fun k => ?_) (l2tail s c x R r hr k _ _ h)
        simp only [impl_pctAt.l2]
        rw [if_pos hi, if_pos hl]
      · rw [if_neg hl] at h
        cases h
    · rw [if_neg hi] at h
      obtain rfl := l3zero _ _ _ h
      refine Ev.step (fun k => ?_) hr
      simp only [impl_pctAt.l2]
      rw [if_neg hi]
theorem l1tail (t s c x : Int) (R : List Int) (r : List Int × List Int) (hr : Ev (fun k => impl_pctAt.l3 k s c x 0 R []) r) : ∀ (k : Nat) (left : List Int) (rank n : Int) (out : List Int), impl_pctAt.l1 k t 0 0 left rank 0 n out [] = some (R, []) → Ev (fun k => impl_pctAt.l1 k t s c left rank x n out []) r
  | 0, left, rank, n, out, h => by simp [impl_pctAt.l1] at h
  | k + 1, left, rank, n, out, h => by
    simp only [impl_pctAt.l1] at h
    by_cases hn : n > 0
    · rw [if_pos hn] at h
      obtain ⟨v, hv, h⟩ := Option.bind_eq_some_iff.mp h
      by_cases h0 : v = 0
      · rw [if_pos h0] at h; cases h
      rw [if_neg h0, hv] at h
      simp only [Option.bind_some] at h
      rw [if_neg h0] at h
      by_cases h1 : 0 ≤ wrap64 (Int.tdiv rank v)
      · rw [if_pos h1] at h
        by_cases h2 : wrap64 (Int.tdiv rank v) < (left.length : Int)
        · rw [if_pos h2] at h
          by_cases h3 : out.length < 17592186044416
          · rw [if_pos h3] at h
            obtain ⟨z, hz, h⟩ := Option.bind_eq_some_iff.mp h
            have ih := l1tail t s c x R r hr k _ _ _ _ h
            have hf := Ev.of (impl_factorial.mono _) hv
            have hb := Ev.bind (f := fun k t219 => if t219 = 0 then none else ((impl_factorial.f k (wrap64 (n - 1))).bind fun t220 => if t220 = 0 then none else (if 0 ≤ wrap64 (Int.tdiv rank t219) then (if wrap64 (Int.tdiv rank t219) < (left.length : Int) then (if out.length < 17592186044416 then ((slices_Delete_int_int.f left (wrap64 (Int.tdiv rank t219)) (wrap64 (wrap64 (Int.tdiv rank t219) + 1))).bind fun t225 => impl_pctAt.l1 k t s c t225 (Int.tmod rank t220) x (wrap64 (n - 1)) (out ++ [rd left (wrap64 (Int.tdiv rank t219))]) []) else none) else none) else none))) hf (Ev.ite_neg h0 (Ev.bind hf (Ev.ite_neg h0 (Ev.ite_pos h1 (Ev.ite_pos h2 (Ev.ite_pos h3 (Ev.bind (Ev.const hz) ih)))))))
            refine Ev.step (fun k => ?_) hb
            simp only [impl_pctAt.l1]
            rw [if_pos hn]
          · rw [if_neg h3] at h; cases h
        · rw [if_neg h2] at h; cases h
      · rw [if_neg h1] at h; cases h
    · rw [if_neg hn] at h
      refine Ev.step (fun k => ?_) (l2tail s c x R r hr k _ _ h)
      simp only [impl_pctAt.l1]
      rw [if_neg hn]
theorem l0_up (t : Nat) (ht : t ≤ 5) (s c no : Int) (r : List Int × List Int) (hr : Ev (fun k => impl_pctAt.l0 k (t : Int) s c no (iota 0 t) (t : Int) (t : Int) [] []) r) : ∀ (d i : Nat), i + d = t → Ev (fun k => impl_pctAt.l0 k (t : Int) s c no (iota 0 i) (t : Int) (i : Int) [] []) r
  | 0, i, h => by
    obtain rfl : i = t := by omega
    exact hr
  | d + 1, i, h => by
    refine Ev.step (fun k => ?_) (l0_up t ht s c no r hr d (i + 1) (by omega))
    simp only [impl_pctAt.l0]
    rw [if_pos (by omega), if_pos (by rw [iota_length]; omega), wrap_id (by omega) (by omega), iota_snoc 0 i, Int.zero_add]
    rfl
theorem tdiv_nat (m c : Nat) : Int.tdiv (m : Int) (c : Int) = ((m / c : Nat) : Int) := rfl
theorem tmod_nat (m c : Nat) : Int.tmod (m : Int) (c : Int) = ((m % c : Nat) : Int) := rfl
theorem impl_at (t s c : Nat) (ht : t ≤ 5) (l q : List (List Int)) (hch : impl_choose.f 40 (s : Int) (c : Int) = some (q.length : Int)) (hq : q.length ≤ 1000) (hl : l.length ≤ 1000)
    (hp : ∀ r, r < l.length → impl_pctAt.l1 40 (t : Int) 0 0 (iota 0 t) (r : Int) 0 (t : Int) [] [] = some (l.getD r [] ++ iota (t : Int) (5 - t), []))
    (hc : ∀ x, x < q.length → impl_pctAt.l3 60 (s : Int) (c : Int) (x : Int) 0 [] [] = some ([], q.getD x [])) (m : Nat) (hm : m < l.length * q.length) :
    Ev (fun k => impl_pctAt.f k (t : Int) (s : Int) (c : Int) (m : Int)) (l.getD (m / q.length) [] ++ iota (t : Int) (5 - t), q.getD (m % q.length) []) := by
  have hq0 : 0 < q.length := Nat.pos_of_ne_zero fun e => by rw [e, Nat.mul_zero] at hm; omega
  have hdl : m / q.length < l.length := (Nat.div_lt_iff_lt_mul hq0).mpr hm
  have hml : m % q.length < q.length := Nat.mod_lt _ hq0
  have hcv := Ev.of (impl_choose.mono _ _) hch
  have hne : ¬ (q.length : Int) = 0 := by omega
  have h3 : Ev (fun k => impl_pctAt.l3 k (s : Int) (c : Int) ((m % q.length : Nat) : Int) 0 (l.getD (m / q.length) [] ++ iota (t : Int) (5 - t)) []) (l.getD (m / q.length) [] ++ iota (t : Int) (5 - t), q.getD (m % q.length) []) :=
    Ev.of (fun k => (impl_pctAt.mono_l k).2.2.2 _ _ _ _ _ _) (l3R _ 60 _ _ _ _ _ _ (hc _ hml))
  have h1 := l1tail (t : Int) (s : Int) (c : Int) ((m % q.length : Nat) : Int) _ _ h3 40 _ _ _ _ (hp _ hdl)
  refine l0_up t ht (s : Int) (c : Int) (m : Int) _ ?_ t 0 (by omega)
  refine Ev.step (f := fun k => (impl_choose.f k (s : Int) (c : Int)).bind fun t217 => (if t217 = 0 then (none) else ((impl_choose.f k (s : Int) (c : Int)).bind fun t218 => (if t218 = 0 then (none) else (impl_pctAt.l1 k (t : Int) (s : Int) (c : Int) (iota 0 t) (wrap64 (Int.tdiv (m : Int) t217)) (Int.tmod (m : Int) t218) (t : Int) [] []))))) (fun k => ?_) ?_
  · simp only [impl_pctAt.l0]
    rw [if_neg (by omega)]
  · refine Ev.bind (f := fun k t217 => (if t217 = 0 then (none) else ((impl_choose.f k (s : Int) (c : Int)).bind fun t218 => (if t218 = 0 then (none) else (impl_pctAt.l1 k (t : Int) (s : Int) (c : Int) (iota 0 t) (wrap64 (Int.tdiv (m : Int) t217)) (Int.tmod (m : Int) t218) (t : Int) [] []))))) hcv (Ev.ite_neg hne (Ev.bind (f := fun k t218 => (if t218 = 0 then (none) else (impl_pctAt.l1 k (t : Int) (s : Int) (c : Int) (iota 0 t) (wrap64 (Int.tdiv (m : Int) (q.length : Int))) (Int.tmod (m : Int) t218) (t : Int) [] []))) hcv (Ev.ite_neg hne ?_)))
    have hw : wrap64 ((m / q.length : Nat) : Int) = ((m / q.length : Nat) : Int) := by
      generalize m / q.length = z at hdl
      exact wrap_id (by omega) (by omega)
    rw [tdiv_nat, tmod_nat, hw]
    exact h1
/-! ### spec: all of them -/
theorem own_eq (x : List Int) (h : x.length < 17592186044416) : spec_l1Own.f x = some x := by
  simp only [spec_l1Own.f, Option.bind_some]
  rw [if_pos (by simpa using h)]
  rfl
section
variable (t : Nat) (ht : t ≤ 5) (perms q : List (List Int)) (hp : perms.length ≤ 1000) (hq : q.length ≤ 1000) (hpl : ∀ p ∈ perms, p.length ≤ 10) (hql : ∀ p ∈ q, p.length ≤ 10)
include hq hql
theorem all_l2 (R : List Int) (hR : R.length ≤ 20) (j : Int) (r : List S26) : ∀ (d i : Nat) (acc : List S26), i + d = q.length → acc.length + d ≤ 2000000 →
    Ev (fun k => spec_l5All.l0 k (t : Int) (acc ++ (q.drop i).map fun c => (⟨R, c⟩ : S26)) q perms (perms.length : Int) (wrap64 (j + 1))) r →
    Ev (fun k => spec_l5All.l2 k (t : Int) acc q R perms (perms.length : Int) j q (q.length : Int) (i : Int)) r
  | 0, i, acc, h, ha, hr => by
    rw [List.drop_eq_nil_of_le (by omega), List.map_nil, List.append_nil] at hr
    refine Ev.step (fun k => ?_) hr
    simp only [spec_l5All.l2]
    rw [if_neg (by omega)]
  | d + 1, i, acc, h, ha, hr => by
    have hi : i < q.length := by omega
    have hx : rd_L1 q (i : Int) = q[i] := by simp [rd_L1, hi]
    rw [List.drop_eq_getElem_cons hi, List.map_cons] at hr
    have ih := all_l2 R hR j r d (i + 1) (acc ++ [⟨R, q[i]⟩]) (by omega) (by simp; omega) (by rw [List.append_assoc]; exact hr)
    refine Ev.step (fun k => ?_) ih
    simp only [spec_l5All.l2]
    rw [if_pos (by omega), if_pos (by omega), if_pos (by omega), own_eq R (by omega), hx, own_eq q[i] (by have := hql q[i] (List.getElem_mem hi); omega)]
    simp only [Option.bind_some]
    rw [if_pos (by omega), wrap_id (by omega) (by omega)]
    rfl
theorem all_l1 (acc : List S26) (hacc : acc.length + q.length ≤ 2000000) (j : Int) (r : List S26) : ∀ (d i : Nat) (R : List Int), i + d = 5 → R.length + d ≤ 20 →
    Ev (fun k => spec_l5All.l0 k (t : Int) (acc ++ q.map fun c => (⟨R ++ iota (i : Int) d, c⟩ : S26)) q perms (perms.length : Int) (wrap64 (j + 1))) r →
    Ev (fun k => spec_l5All.l1 k (t : Int) acc q R (i : Int) perms (perms.length : Int) j) r
  | 0, i, R, h, hR, hr => by
    rw [iota, List.append_nil] at hr
    refine Ev.step (fun k => ?_) (all_l2 t perms q hq hql R (by omega) j r q.length 0 acc (by omega) (by omega) hr)
    simp only [spec_l5All.l1]
    rw [if_neg (by omega)]
    rfl
  | d + 1, i, R, h, hR, hr => by
    rw [iota] at hr
    have ih := all_l1 acc hacc j r d (i + 1) (R ++ [(i : Int)]) (by omega) (by simp; omega) (by rw [List.append_assoc]; exact hr)
    refine Ev.step (fun k => ?_) ih
    simp only [spec_l5All.l1]
    rw [if_pos (by omega), if_pos (by omega), wrap_id (by omega) (by omega)]
    rfl
include hp hpl ht
theorem all_l0 : ∀ (d j : Nat) (acc : List S26), j + d = perms.length → acc.length + d * q.length ≤ 1000000 →
    Ev (fun k => spec_l5All.l0 k (t : Int) acc q perms (perms.length : Int) (j : Int)) (acc ++ (perms.drop j).flatMap fun p => q.map fun c => (⟨p ++ iota (t : Int) (5 - t), c⟩ : S26))
  | 0, j, acc, h, ha => by
    rw [List.drop_eq_nil_of_le (by omega), List.flatMap_nil, List.append_nil]
    refine Ev.step (f := fun _ => some acc) (fun k => ?_) (Ev.now _)
    simp only [spec_l5All.l0]
    rw [if_neg (by omega)]
  | d + 1, j, acc, h, ha => by
    have hj : j < perms.length := by omega
    have hx : rd_L1 perms (j : Int) = perms[j] := by simp [rd_L1, hj]
    have hle : d * q.length + q.length = (d + 1) * q.length := (Nat.succ_mul d q.length).symm
    have hqa : acc.length + q.length ≤ 1000000 := Nat.le_trans (Nat.add_le_add_left (by rw [← hle]; exact Nat.le_add_left _ _) _) ha
    have ih := all_l0 d (j + 1) (acc ++ q.map fun c => (⟨perms[j] ++ iota (t : Int) (5 - t), c⟩ : S26)) (by omega) (by rw [List.length_append, List.length_map]; omega)
    rw [List.append_assoc] at ih
    have e : (q.map fun c => (⟨perms[j] ++ iota (t : Int) (5 - t), c⟩ : S26)) ++ (perms.drop (j + 1)).flatMap (fun p => q.map fun c => (⟨p ++ iota (t : Int) (5 - t), c⟩ : S26)) = (perms.drop j).flatMap fun p => q.map fun c => (⟨p ++ iota (t : Int) (5 - t), c⟩ : S26) := by
      rw [List.drop_eq_getElem_cons hj, List.flatMap_cons]
    rw [e] at ih
    have hl1 := all_l1 t perms q hq hql acc (by omega) (j : Int) (acc ++ (perms.drop j).flatMap fun p => q.map fun c => (⟨p ++ iota (t : Int) (5 - t), c⟩ : S26)) (5 - t) t perms[j] (by omega) (by have := hpl perms[j] (List.getElem_mem hj); omega) (by rw [wrap_id (by omega) (by omega)]; exact ih)
    refine Ev.step (fun k => ?_) hl1
    simp only [spec_l5All.l0]
    rw [if_pos (by omega), if_pos (by omega), if_pos (by omega), hx]
    rfl
end
theorem flat_at {α β γ : Type} (g : α → β → γ) (q : List β) (a : α) (b : β) (z : γ) : ∀ (l : List α) (m : Nat), m < l.length * q.length → (l.flatMap fun p => q.map (g p)).getD m z = g (l.getD (m / q.length) a) (q.getD (m % q.length) b)
  | [], m, h => by simp at h
  | p :: l, m, h => by
    rw [List.flatMap_cons]
    have hq0 : 0 < q.length := Nat.pos_of_ne_zero fun e => by rw [e, Nat.mul_zero] at h; omega
    by_cases hm : m < q.length
    · rw [Nat.div_eq_of_lt hm, Nat.mod_eq_of_lt hm, List.getD_eq_getElem?_getD, List.getElem?_append_left (by simpa using hm), List.getElem?_map, List.getElem?_eq_getElem hm]
      simp [List.getD_eq_getElem?_getD, List.getElem?_eq_getElem hm]
    · have h2 : m - q.length < l.length * q.length := by
        rw [List.length_cons, Nat.succ_mul] at h; omega
      have ih := flat_at g q a b z l (m - q.length) h2
      rw [List.getD_eq_getElem?_getD, List.getElem?_append_right (by simpa using hm), List.length_map, ← List.getD_eq_getElem?_getD, ih]
      have hd : m / q.length = (m - q.length) / q.length + 1 := by
        rw [← Nat.add_div_right _ hq0, Nat.sub_add_cancel (by omega)]
      have hr : m % q.length = (m - q.length) % q.length := by
        rw [← Nat.add_mod_right (m - q.length), Nat.sub_add_cancel (by omega)]
      rw [hd, hr, List.getD_cons_succ]
theorem at_same (t s c n : Int) (hn : okI n) : ∃ us vs o, us.length ≤ 20 ∧ vs.length ≤ 20 ∧ Ev (fun k => spec_PctAt.f k t s c n) (us, vs, o) ∧ Ev (fun k => impl_PctAt.f k t s c n) (us, vs, o) := by
  have no : Ev (fun k => spec_CountPct.f k t s c) (0, false) → Ev (fun k => impl_CountPct.f k t s c) (0, false) → ∃ us vs o, us.length ≤ 20 ∧ vs.length ≤ 20 ∧ Ev (fun k => spec_PctAt.f k t s c n) (us, vs, o) ∧ Ev (fun k => impl_PctAt.f k t s c n) (us, vs, o) := fun h1 h2 =>
    ⟨[], [], false, by simp, by simp, Ev.bind h1 (Ev.ite_neg (by simp) (Ev.now _)), Ev.bind h2 (Ev.ite_neg (by simp) (Ev.now _))⟩
  by_cases h1 : 1 ≤ t ∧ t ≤ 5
  · by_cases h2 : 0 ≤ s ∧ s ≤ 20
    · by_cases h3 : 0 ≤ c ∧ c ≤ 2
      · obtain ⟨t, rfl⟩ : ∃ m : Nat, t = (m : Int) := ⟨t.toNat, by omega⟩
        obtain ⟨s, rfl⟩ : ∃ m : Nat, s = (m : Int) := ⟨s.toNat, by omega⟩
        obtain ⟨c, rfl⟩ : ∃ m : Nat, c = (m : Int) := ⟨c.toNat, by omega⟩
        obtain ⟨l, nl, hl, hnl, el, hll, hlp, hl1⟩ := perms_at t (by omega) (by omega)
        obtain ⟨q, nq, hq, hnq, eq_, hqq, hqp, hq3⟩ := choices_at s c (by omega) (by omega)
        subst el eq_
        have hmul : l.length * q.length ≤ 1000000 := Nat.mul_le_mul hll hqq
        have hP := Ev.of (spec_l5Perms.mono (t : Int) []) hl
        have hC := Ev.of (spec_l5Choices.mono (s : Int) (c : Int) 0) hq
        have hw : wrap64 ((l.length : Int) * (q.length : Int)) = ((l.length * q.length : Nat) : Int) := by
          rw [← Int.natCast_mul, wrap_id (by omega) (by omega)]
        have cs : Ev (fun k => spec_CountPct.f k (t : Int) (s : Int) (c : Int)) (((l.length * q.length : Nat) : Int), true) := by
          refine Ev.congr (fun k => ?_) (Ev.bind (f := fun k (x : List (List Int)) => (spec_l5Choices.f k (s : Int) (c : Int) 0).bind fun y => some (wrap64 ((x.length : Int) * (y.length : Int)), true)) hP (Ev.bind (f := fun _ (y : List (List Int)) => some (wrap64 ((l.length : Int) * (y.length : Int)), true)) hC (Ev.const (by rw [hw]))))
          simp only [spec_CountPct.f, spec_l5Asked.f, l1In_dec, Option.bind_some, decide_eq_true h1, decide_eq_true h2, decide_eq_true h3, if_true]
        have ci : Ev (fun k => impl_CountPct.f k (t : Int) (s : Int) (c : Int)) (((l.length * q.length : Nat) : Int), true) := by
          refine Ev.congr (fun k => ?_) (Ev.step (f := fun k => (impl_factorial.f k (t : Int)).bind fun x => (impl_choose.f k (s : Int) (c : Int)).bind fun y => some (wrap64 (x * y), true)) (g := fun k => impl_CountPct.j0 k (t : Int) (s : Int) (c : Int) false) (fun k => ?_) (Ev.bind (f := fun k x => (impl_choose.f k (s : Int) (c : Int)).bind fun y => some (wrap64 (x * y), true)) (Ev.of (impl_factorial.mono (t : Int)) hnl) (Ev.bind (f := fun _ y => some (wrap64 ((l.length : Int) * y), true)) (Ev.of (impl_choose.mono (s : Int) (c : Int)) hnq) (Ev.const (by rw [hw])))))
          · simp only [impl_CountPct.f, in_dec, Option.bind_some, decide_eq_true h1, decide_eq_true h2, decide_eq_true h3, if_true, Bool.not_true]
          · simp only [impl_CountPct.j0]; rw [if_neg (by simp)]
        by_cases hr : 0 ≤ n ∧ n ≤ wrap64 (((l.length * q.length : Nat) : Int) - 1)
        · have hr2 := hr.2
          rw [wrap_id (by omega) (by omega)] at hr2
          obtain ⟨m, rfl⟩ : ∃ m : Nat, n = (m : Int) := ⟨n.toNat, by omega⟩
          have hm : m < l.length * q.length := by omega
          have hA : Ev (fun k => spec_l5All.f k (t : Int) (s : Int) (c : Int)) (l.flatMap fun p => q.map fun c => (⟨p ++ iota (t : Int) (5 - t), c⟩ : S26)) := by
            have h := all_l0 t (by omega) l q hll hqq hlp hqp l.length 0 [] (by omega) (by simpa using hmul)
            simp only [List.nil_append, List.drop_zero] at h
            exact Ev.bind hC (Ev.bind hP h)
          have hlen : (l.flatMap fun p => q.map fun c => (⟨p ++ iota (t : Int) (5 - t), c⟩ : S26)).length = l.length * q.length := by
            clear hA cs ci hw hmul hl1 hlp hP hl hr hr2 hm hll hnl
            induction l with
            | nil => simp
            | cons p l ih => rw [List.flatMap_cons, List.length_append, List.length_map, ih, List.length_cons, Nat.succ_mul, Nat.add_comm]
          have hrd : rd_T26 (l.flatMap fun p => q.map fun c => (⟨p ++ iota (t : Int) (5 - t), c⟩ : S26)) (m : Int) = ⟨l.getD (m / q.length) [] ++ iota (t : Int) (5 - t), q.getD (m % q.length) []⟩ := by
            simp only [rd_T26, Int.toNat_natCast]
            exact flat_at (fun p c => (⟨p ++ iota (t : Int) (5 - t), c⟩ : S26)) q [] [] z26 l m hm
          have hq0 : 0 < q.length := Nat.pos_of_ne_zero fun e => by rw [e, Nat.mul_zero] at hm; omega
          have hdl : m / q.length < l.length := (Nat.div_lt_iff_lt_mul hq0).mpr hm
          have hml : m % q.length < q.length := Nat.mod_lt _ hq0
          refine ⟨l.getD (m / q.length) [] ++ iota (t : Int) (5 - t), q.getD (m % q.length) [], true, ?_, ?_, ?_, ?_⟩
          · rw [List.length_append, iota_length, List.getD_eq_getElem?_getD, List.getElem?_eq_getElem hdl, Option.getD_some]
            have := hlp _ (List.getElem_mem hdl); omega
          · rw [List.getD_eq_getElem?_getD, List.getElem?_eq_getElem hml, Option.getD_some]
            have := hqp _ (List.getElem_mem hml); omega
          · refine Ev.bind cs (Ev.ite_pos rfl (Ev.bind (a := true) (Ev.const (by rw [l1In_dec, decide_eq_true hr])) (Ev.ite_pos rfl (Ev.bind hA (Ev.ite_pos (by omega) (Ev.ite_pos (by rw [hlen]; omega) (Ev.const ?_)))))))
            rw [hrd]
          · exact Ev.bind ci (Ev.ite_pos rfl (Ev.bind (a := true) (Ev.const (by rw [in_dec, decide_eq_true hr])) (Ev.ite_pos rfl (Ev.bind (impl_at t s c (by omega) l q hnq hqq hll hl1 hq3 m hm) (Ev.now _)))))
        · exact ⟨[], [], false, by simp, by simp, Ev.bind cs (Ev.ite_pos rfl (Ev.bind (a := false) (Ev.const (by rw [l1In_dec, decide_eq_false hr])) (Ev.ite_neg (by simp) (Ev.now _)))), Ev.bind ci (Ev.ite_pos rfl (Ev.bind (a := false) (Ev.const (by rw [in_dec, decide_eq_false hr])) (Ev.ite_neg (by simp) (Ev.now _))))⟩
      · refine no (Ev.congr (fun k => ?_) (Ev.now _)) (Ev.congr (fun k => ?_) (Ev.step (g := fun k => impl_CountPct.j0 k t s c true) (f := fun _ => some (0, false)) (fun k => ?_) (Ev.now _)))
        · simp [spec_CountPct.f, spec_l5Asked.f, l1In_dec, h1, h2, h3]
        · simp [impl_CountPct.f, in_dec, h1, h2, h3]
        · simp only [impl_CountPct.j0]; rw [if_pos trivial]
    · refine no (Ev.congr (fun k => ?_) (Ev.now _)) (Ev.congr (fun k => ?_) (Ev.step (g := fun k => impl_CountPct.j0 k t s c true) (f := fun _ => some (0, false)) (fun k => ?_) (Ev.now _)))
      · simp [spec_CountPct.f, spec_l5Asked.f, l1In_dec, h1, h2]
      · simp [impl_CountPct.f, in_dec, h1, h2]
      · simp only [impl_CountPct.j0]; rw [if_pos trivial]
  · refine no (Ev.congr (fun k => ?_) (Ev.now _)) (Ev.congr (fun k => ?_) (Ev.step (g := fun k => impl_CountPct.j0 k t s c true) (f := fun _ => some (0, false)) (fun k => ?_) (Ev.now _)))
    · simp [spec_CountPct.f, spec_l5Asked.f, l1In_dec, h1]
    · simp [impl_CountPct.f, in_dec, h1]
    · simp only [impl_CountPct.j0]; rw [if_pos trivial]
theorem FnExactPctAt : laws_FnExactPctAt.Pure2 := by
  intro t s c n _ _ _ hn
  apply Ev.rounds
  obtain ⟨us, vs, o, lu, lv, hS, hI⟩ := at_same t s c n hn
  have hq : Ev (fun k => laws_eqPct.f k us vs us vs) true := Ev.bind (eqIntS_ev us (by omega)) (Ev.ite_pos rfl (Ev.bind (eqIntS_ev vs (by omega)) (Ev.ite_pos rfl (Ev.now _))))
  have hm : Ev (fun k => laws_markPct.f k us vs 1) (1 + us.length + vs.length, iota 1 us.length, iota (1 + us.length) vs.length) := Ev.bind (markIntS_ev us 1 (by omega) (by omega) (by omega)) (Ev.bind (markIntS_ev vs (1 + us.length) (by omega) (by omega) (by omega)) (Ev.now _))
  have hh : Ev (fun k => laws_heldPct.f k (iota 1 us.length) (iota (1 + (us.length : Int)) vs.length) 1) (1 + (us.length : Int) + (vs.length : Int)) := Ev.bind (heldIntS_ev us.length 1 (by omega) (by omega) (by omega)) (Ev.ite_neg (by omega) (Ev.bind (heldIntS_ev vs.length (1 + (us.length : Int)) (by omega) (by omega) (by omega)) (Ev.ite_neg (by omega) (Ev.now _))))
  have ho : (o != o) = false := by simp
  have hj1 : Ev (fun k => laws_FnExactPctAt.j1 k (1 + (us.length : Int) + (vs.length : Int)) (o != o) (iota 1 us.length) (iota (1 + (us.length : Int)) vs.length)) true := by
    rw [ho]
    refine Ev.step (fun k => by simp only [laws_FnExactPctAt.j1]; rw [if_neg (by simp)]) ?_
    exact Ev.bind hh (Ev.ite_neg (by omega) (Ev.ite_pos rfl (Ev.now _)))
  have hj0 : Ev (fun k => laws_FnExactPctAt.j0 k t s c n o (o != o) us vs us vs) true := by
    rw [ho]
    refine Ev.step (fun k => by simp only [laws_FnExactPctAt.j0]; rw [if_neg (by simp)]) ?_
    exact Ev.bind hm (Ev.bind hh (Ev.ite_neg (by omega) (Ev.ite_pos rfl (Ev.bind hI (Ev.bind hq (Ev.ite_pos rfl hj1))))))
  exact Ev.bind hS (Ev.bind hI (Ev.bind hq (Ev.ite_pos rfl hj0)))

end Go.Proofs.Ytpfbiopcfbokbaa.Pure

/- The pure statement of FnExactDropSpan: both leave the same span out of good picks. -/
import Derived.Test.YtomckmlhidhodaaQFnExactDropSpan
import Derived.Test.YtomckmlhidhodaaMBase
import Derived.KernelRfl
set_option linter.unusedVariables false
set_option linter.unusedSimpArgs false
namespace Go.Proofs.Ytomckmlhidhodaa.Pure
open Go.RowKit Go.Proofs.Ytomckmlhidhodaa.GDropSpan Go.Proofs.YtomckmlhidhodaaW.PrintWords Go.Proofs.YtomckmlhidhodaaW.PrintLast Go.Proofs.YtomckmlhidhodaaW.PrintMore Go.Proofs.Ytomckmlhidhodaa.MBase
theorem toIntS_l0 (xs : List Int) (hx : xs.length ≤ 1048576) : ∀ (d i : Nat) (acc : List Int), i + d = xs.length → acc.length = xs.length →
    Ev (fun k => laws_toIntS.l0 k xs acc (i : Int)) (acc.take i ++ xs.drop i)
  | 0, i, acc, h, ha => by
    have e : acc.take i ++ xs.drop i = acc := by rw [List.take_of_length_le (by omega), List.drop_eq_nil_of_le (by omega), List.append_nil]
    rw [e]
    refine Ev.step (f := fun _ => some acc) (fun k => ?_) (Ev.now _)
    simp only [laws_toIntS.l0]
    rw [if_neg (by omega)]
  | d + 1, i, acc, h, ha => by
    have ih := toIntS_l0 xs hx d (i + 1) (acc.set i (xs.getD i 0)) (by omega) (by simpa using ha)
    rw [set_take_drop xs acc 0 i (by omega) ha] at ih
    refine Ev.step (fun k => ?_) ih
    simp only [laws_toIntS.l0]
    rw [if_pos (by omega), if_pos (by omega), if_pos (by omega), wrap_id (by omega) (by omega), rd_nat]
    rfl
theorem toIntS_ev (xs : List Int) (hx : xs.length ≤ 1048576) : Ev (fun k => laws_toIntS.f k xs) xs := by
  have h := toIntS_l0 xs hx xs.length 0 (List.replicate xs.length 0) (by omega) (by simp)
  simp only [List.take_zero, List.drop_zero, List.nil_append] at h
  refine Ev.congr (fun k => ?_) h
  simp only [laws_toIntS.f]
  rw [if_pos (by omega), if_pos (by simp only [Int.toNat_natCast]; omega)]
  simp only [Int.toNat_natCast]
  rfl
theorem eqIntS_l0 (xs : List Int) (hx : xs.length ≤ 1048576) : ∀ (d i : Nat), i + d = xs.length → Ev (fun k => laws_eqIntS.l0 k xs xs (i : Int)) true
  | 0, i, h => by
    refine Ev.step (f := fun _ => some true) (fun k => ?_) (Ev.now _)
    simp only [laws_eqIntS.l0]
    rw [if_neg (by omega)]
  | d + 1, i, h => by
    refine Ev.step (fun k => ?_) (eqIntS_l0 xs hx d (i + 1) (by omega))
    simp only [laws_eqIntS.l0]
    rw [if_pos (by omega), if_pos (by omega), if_pos (by omega), if_pos trivial, wrap_id (by omega) (by omega)]
    rfl
theorem eqIntS_ev (xs : List Int) (hx : xs.length ≤ 1048576) : Ev (fun k => laws_eqIntS.f k xs xs) true := by
  refine Ev.congr (fun k => ?_) (eqIntS_l0 xs hx xs.length 0 (by omega))
  simp only [laws_eqIntS.f]
  rw [if_pos trivial]
  rfl
theorem markIntS_l0 (n : Nat) (hn : n ≤ 1048576) : ∀ (d i : Nat) (xs : List Int) (a : Int), i + d = n → xs.length = n → 0 ≤ a → a + (d : Int) ≤ 5000000000000000000 →
    Ev (fun k => laws_markIntS.l0 k xs a (i : Int)) (a + d, xs.take i ++ iota a d)
  | 0, i, xs, a, h, hl, h0, h1 => by
    have e : xs.take i ++ iota a 0 = xs := by rw [List.take_of_length_le (by omega), iota, List.append_nil]
    rw [e]
    refine Ev.step (f := fun _ => some (a, xs)) (fun k => ?_) ⟨0, fun _ _ => by simp⟩
    simp only [laws_markIntS.l0]
    rw [if_neg (by omega)]
  | d + 1, i, xs, a, h, hl, h0, h1 => by
    have ih := markIntS_l0 n hn d (i + 1) (xs.set i a) (a + 1) (by omega) (by simpa using hl) (by omega) (by omega)
    have e : (xs.set i a).take (i + 1) ++ iota (a + 1) d = xs.take i ++ iota a (d + 1) := by
      rw [List.take_succ_eq_append_getElem (by simp; omega), List.getElem_set_self, List.take_set, List.set_eq_of_length_le (by simp; omega), List.append_assoc]
      rfl
    rw [e, show a + 1 + (d : Int) = a + ((d + 1 : Nat) : Int) from by omega] at ih
    refine Ev.step (fun k => ?_) ih
    simp only [laws_markIntS.l0]
    rw [if_pos (by omega), if_pos (by omega), wrap_id (by omega) (by omega), wrap_id (by omega) (by omega)]
    rfl
theorem markIntS_ev (xs : List Int) (a : Int) (hn : xs.length ≤ 1048576) (h0 : 0 ≤ a) (h1 : a ≤ 4611686018427387000) : Ev (fun k => laws_markIntS.f k xs a) (a + xs.length, iota a xs.length) := by
  have h := markIntS_l0 xs.length hn xs.length 0 xs a (by omega) rfl h0 (by omega)
  simp only [List.take_zero, List.nil_append] at h
  exact h
theorem heldIntS_l0 (n : Nat) (hn : n ≤ 1048576) (a : Int) (h0 : 0 ≤ a) (h1 : a ≤ 4611686018427387000) : ∀ (d i : Nat), i + d = n →
    Ev (fun k => laws_heldIntS.l0 k (iota a n) (a + i) (i : Int)) (a + n)
  | 0, i, h => by
    obtain rfl : i = n := by omega
    refine Ev.step (f := fun _ => some (a + (i : Int))) (fun k => ?_) (Ev.now _)
    simp only [laws_heldIntS.l0, iota_length]
    rw [if_neg (by omega)]
  | d + 1, i, h => by
    refine Ev.step (fun k => ?_) (heldIntS_l0 n hn a h0 h1 d (i + 1) (by omega))
    simp only [laws_heldIntS.l0, iota_length]
    rw [if_pos (by omega), if_pos (by omega), if_pos (by rw [rd_nat, iota_getD _ _ _ (by omega)]), wrap_id (by omega) (by omega), wrap_id (by omega) (by omega), show a + (i : Int) + 1 = a + ((i + 1 : Nat) : Int) from by omega]
    rfl
theorem heldIntS_ev (n : Nat) (a : Int) (hn : n ≤ 1048576) (h0 : 0 ≤ a) (h1 : a ≤ 4611686018427387000) : Ev (fun k => laws_heldIntS.f k (iota a n) a) (a + n) := by
  have h := heldIntS_l0 n hn a h0 h1 n 0 (by omega)
  simp only [Int.ofNat_zero, Int.add_zero, Int.natCast_zero] at h
  exact h
theorem l1In_dec (a b c : Int) : spec_l1In.f a b c = some (decide (b ≤ a ∧ a ≤ c)) := by
  unfold spec_l1In.f
  by_cases h : b ≤ a
  · rw [if_pos h]; simp [h]
  · rw [if_neg h]; simp [h]
theorem in_dec (a b c : Int) : impl_in.f a b c = some (decide (b ≤ a ∧ a ≤ c)) := l1In_dec a b c
def gp (x : Int) : Bool := decide (0 ≤ x ∧ x ≤ 999)
theorem all_loop (xs : List Int) (hx : xs.length ≤ 1048576) : ∀ d i : Nat, i + d = xs.length → Ev (fun k => spec_l1All.l0 k 0 999 xs (xs.length : Int) (i : Int)) ((xs.drop i).all gp)
  | 0, i, h => by
    rw [List.drop_eq_nil_of_le (by omega)]
    refine Ev.step (f := fun _ => some true) (fun k => ?_) (Ev.now _)
    simp only [spec_l1All.l0]; rw [if_neg (by omega)]
  | d + 1, i, h => by
    have hi : i < xs.length := by omega
    rw [List.drop_eq_getElem_cons hi, List.all_cons]
    have hst : ∀ k, spec_l1All.l0 (k+1) 0 999 xs (xs.length : Int) (i : Int) = if gp xs[i] = true then spec_l1All.l0 k 0 999 xs (xs.length : Int) ((i + 1 : Nat) : Int) else some false := by
      intro k
      simp only [spec_l1All.l0, l1In_dec, Option.bind_some]
      rw [if_pos (by omega), if_pos (by omega), if_pos (by omega), rd_nat, wrap_id (n := (i : Int) + 1) (by omega) (by omega)]
      have : xs.getD i 0 = xs[i] := by simp [hi]
      rw [this]
      rfl
    cases hg : gp xs[i] with
    | true => rw [Bool.true_and]; exact Ev.step hst (Ev.ite_pos hg (all_loop xs hx d (i + 1) (by omega)))
    | false => rw [Bool.false_and]; exact Ev.step hst (Ev.ite_neg (by simp [hg]) (Ev.now _))
theorem index_loop (xs : List Int) (hx : xs.length ≤ 1048576) : ∀ d i : Nat, i + d = xs.length → ∃ r : Int, (decide (r ≥ 0) = !(xs.drop i).all gp) ∧ Ev (fun k => slices_IndexFunc_int_int_impl_arePicks_1.l0 k xs (xs.length : Int) (i : Int)) r
  | 0, i, h => by
    rw [List.drop_eq_nil_of_le (by omega)]
    refine ⟨-1, by simp, Ev.step (f := fun _ => some (-1)) (fun k => ?_) (Ev.now _)⟩
    simp only [slices_IndexFunc_int_int_impl_arePicks_1.l0]; rw [if_neg (by omega)]
  | d + 1, i, h => by
    have hi : i < xs.length := by omega
    rw [List.drop_eq_getElem_cons hi, List.all_cons]
    have hst : ∀ k, slices_IndexFunc_int_int_impl_arePicks_1.l0 (k+1) xs (xs.length : Int) (i : Int) = if (!gp xs[i]) = true then some (i : Int) else slices_IndexFunc_int_int_impl_arePicks_1.l0 k xs (xs.length : Int) ((i + 1 : Nat) : Int) := by
      intro k
      simp only [slices_IndexFunc_int_int_impl_arePicks_1.l0, impl_arePicks_1.f, in_dec, Option.bind_some]
      rw [if_pos (by omega), if_pos (by omega), if_pos (by omega), rd_nat, wrap_id (n := (i : Int) + 1) (by omega) (by omega)]
      have : xs.getD i 0 = xs[i] := by simp [hi]
      rw [this]
      rfl
    cases hg : gp xs[i] with
    | true =>
      obtain ⟨r, hr, ih⟩ := index_loop xs hx d (i + 1) (by omega)
      exact ⟨r, by rw [Bool.true_and]; exact hr, Ev.step hst (Ev.ite_neg (by simp [hg]) ih)⟩
    | false => exact ⟨(i : Int), by simp, Ev.step hst (Ev.ite_pos (by simp [hg]) (Ev.now _))⟩
def picksOk (xs : List Int) : Bool := decide ((xs.length : Int) ≤ 60) && xs.all gp
theorem spec_picks (xs : List Int) (hx : xs.length ≤ 1048576) : Ev (fun k => spec_l12Picks.f k xs) (picksOk xs) := by
  simp only [spec_l12Picks.f]
  unfold picksOk
  by_cases h : (xs.length : Int) ≤ 60
  · rw [decide_eq_true h, Bool.true_and]
    have q := all_loop xs hx xs.length 0 (by omega)
    rw [List.drop_zero] at q
    exact Ev.ite_pos h (Ev.bind (g := fun k => spec_l1All.f k xs 0 999) (f := fun _ t => some t) q (Ev.now _))
  · rw [decide_eq_false h, Bool.false_and]; exact Ev.ite_neg h (Ev.now _)
theorem impl_picks (xs : List Int) (hx : xs.length ≤ 1048576) : Ev (fun k => impl_areShort.f k xs) (picksOk xs) := by
  refine Ev.bind (g := fun k => impl_arePicks.f k xs 60) (f := fun _ t => some t) ?_ (Ev.now _)
  simp only [impl_arePicks.f]
  unfold picksOk
  by_cases h : (xs.length : Int) ≤ 60
  · rw [decide_eq_true h, Bool.true_and]
    obtain ⟨r, hr, hi⟩ := index_loop xs hx xs.length 0 (by omega)
    rw [List.drop_zero] at hr
    have e : xs.all gp = !(decide (r ≥ 0)) := by rw [hr]; simp
    rw [e]
    exact Ev.ite_pos h (Ev.bind (f := fun _ t => some (!t)) (g := fun k => slices_ContainsFunc_int_int_impl_arePicks_1.f k xs) (Ev.bind (f := fun _ t => some (decide (t ≥ 0))) hi (Ev.now _)) (Ev.now _))
  · rw [decide_eq_false h, Bool.false_and]; exact Ev.ite_neg h (Ev.now _)
theorem own_eq (xs : List Int) (hx : xs.length ≤ 1048576) : spec_l1Own.f xs = some xs := by
  simp only [spec_l1Own.f, Option.bind_some]; rw [if_pos (by simp; omega)]; rfl
theorem clone_eq (xs : List Int) (hx : xs.length ≤ 1048576) : slices_Clone_int_int.f xs = some xs := by
  simp only [slices_Clone_int_int.f, Option.bind_some]; rw [if_pos (by simp; omega)]; rfl
theorem drop_same (xs : List Int) (hx : xs.length ≤ 1048576) (i j : Int) : ∃ r, r.1.length ≤ 1048576 ∧ Ev (fun k => spec_DropSpan.f k xs i j) r ∧ Ev (fun k => impl_DropSpan.f k xs i j) r := by
  simp only [spec_DropSpan.f, impl_DropSpan.f, l1In_dec, in_dec, Option.bind_some, decide_eq_true_eq]
  cases hp : picksOk xs with
  | false => exact ⟨([], false), by simp, Ev.bind (spec_picks xs hx) (Ev.ite_neg (by simp [hp]) (Ev.now _)), Ev.bind (impl_picks xs hx) (Ev.ite_neg (by simp [hp]) (Ev.now _))⟩
  | true =>
    by_cases h : 0 ≤ i ∧ i ≤ j ∧ j ≤ (xs.length : Int)
    · have hs : spec_l12Drop.f xs i j = some (xs.take i.toNat ++ xs.drop j.toNat) := by
        simp only [spec_l12Drop.f]
        rw [if_pos h.1, if_pos (by omega), own_eq _ (by simp; omega), Option.bind_some, if_pos (by omega), if_pos h.2.2, if_pos (by simp; omega)]
      have hi : impl_drop.f xs i j = some (xs.take i.toNat ++ xs.drop j.toNat) := by
        simp only [impl_drop.f]
        rw [clone_eq xs hx, Option.bind_some]
        simp only [slices_Delete_int_int.f]
        rw [if_pos h.1, if_pos h.2.1, if_pos h.2.2, Option.bind_some]
      rw [hs, hi]
      simp only [Option.bind_some]
      refine ⟨(xs.take i.toNat ++ xs.drop j.toNat, true), by simp; omega, Ev.bind (spec_picks xs hx) (Ev.ite_pos hp (Ev.ite_pos (by omega) (Ev.ite_pos (by omega) (Ev.now _)))), Ev.bind (impl_picks xs hx) (Ev.ite_pos hp (Ev.ite_pos (by omega) (Ev.ite_neg (by omega) (Ev.now _))))⟩
    · refine ⟨([], false), by simp, Ev.bind (spec_picks xs hx) (Ev.ite_pos hp ?_), Ev.bind (impl_picks xs hx) (Ev.ite_pos hp ?_)⟩
      · by_cases h1 : 0 ≤ i ∧ i ≤ (xs.length : Int)
        · exact Ev.ite_pos h1 (Ev.ite_neg (by omega) (Ev.now _))
        · exact Ev.ite_neg h1 (Ev.now _)
      · by_cases h1 : 0 ≤ i ∧ i ≤ j
        · exact Ev.ite_pos h1 (Ev.ite_pos (by omega) (Ev.now _))
        · exact Ev.ite_neg h1 (Ev.now _)
theorem FnExactDropSpan : laws_FnExactDropSpan.Pure2 := by
  intro x i j _ hb _ _
  apply Ev.rounds
  simp only [laws_FnExactDropSpan.f]
  by_cases h : (x.length : Int) > 1048576
  · exact Ev.ite_pos h (Ev.now _)
  refine Ev.ite_neg h ?_
  have hx : x.length ≤ 1048576 := by omega
  obtain ⟨⟨r, b⟩, hr, hs, hi⟩ := drop_same x hx i j
  simp only at hr
  refine Ev.bind (toIntS_ev x hx) (Ev.bind hs (Ev.bind (toIntS_ev x hx) (Ev.bind hi (Ev.bind (eqIntS_ev r (by omega)) (Ev.ite_pos rfl ?_)))))
  refine Ev.congr (fun k => by rw [show (b != b) = false from by simp]) ?_
  refine Ev.step (fun k => by simp only [laws_FnExactDropSpan.j0]; rw [if_neg (by simp)]) ?_
  refine Ev.bind (toIntS_ev x hx) (Ev.bind (eqIntS_ev x hx) (Ev.ite_pos rfl ?_))
  refine Ev.bind (markIntS_ev x 1 hx (by omega) (by omega)) (Ev.ite_neg (by simp only; omega) (Ev.bind (eqIntS_ev r (by omega)) (Ev.ite_pos rfl ?_)))
  refine Ev.congr (fun k => by rw [show (b != b) = false from by simp]) ?_
  refine Ev.step (fun k => by simp only [laws_FnExactDropSpan.j1]; rw [if_neg (by simp)]) ?_
  refine Ev.bind (markIntS_ev r 1 (by omega) (by omega) (by omega)) (Ev.bind (heldIntS_ev r.length 1 (by omega) (by omega) (by omega)) (Ev.ite_neg (by omega) (Ev.ite_pos rfl ?_)))
  refine Ev.bind (toIntS_ev x hx) (Ev.bind hi (Ev.bind (eqIntS_ev r (by omega)) (Ev.ite_pos rfl ?_)))
  refine Ev.congr (fun k => by rw [show (b != b) = false from by simp]) ?_
  refine Ev.step (fun k => by simp only [laws_FnExactDropSpan.j2]; rw [if_neg (by simp)]) ?_
  exact Ev.bind (heldIntS_ev r.length 1 (by omega) (by omega) (by omega)) (Ev.ite_neg (by omega) (Ev.ite_pos rfl (Ev.now _)))

end Go.Proofs.Ytomckmlhidhodaa.Pure

/- The pure statement of FnExactClockLess: both functions compare two clocks alike, for all lists. -/
import Derived.Test.YtbgocnhhpbpilaaPFnExactClockLessx2
import Derived.Test.YtbgocnhhpbpilaaMBase
import Derived.KernelRfl
set_option linter.unusedVariables false
set_option linter.unusedSimpArgs false
namespace Go.Proofs.Ytbgocnhhpbpilaa.Pure
open Go.RowKit Go.Proofs.Ytbgocnhhpbpilaa.PFnExactClockLess Go.Proofs.YtbgocnhhpbpilaaW.PrintWords Go.Proofs.YtbgocnhhpbpilaaW.PrintLast Go.Proofs.YtbgocnhhpbpilaaW.PrintMore Go.Proofs.Ytbgocnhhpbpilaa.MBase
theorem toIntS_l0 (xs : List Int) (hx : xs.length ≤ 1048576) : ∀ (d i : Nat) (acc : List Int), i + d = xs.length → acc.length = xs.length →
    Ev (fun k => laws_toIntS.l0 k xs acc (i : Int)) (acc.take i ++ xs.drop i)
  | 0, i, acc, h, ha => by
    have e : acc.take i ++ xs.drop i = acc := by rw [List.take_of_length_le (by omega), List.drop_eq_nil_of_le (by omega), List.append_nil]
    rw [e]
    refine Ev.step (f := fun _ => some acc) (fun k => ?_) (Ev.now _)
    simp only [laws_toIntS.l0]
    rw [if_neg (by omega)]
  | d + 1, i, acc, h, ha => by
    have ih := toIntS_l0 xs hx d (i + 1) (acc.set i (xs.getD i 0)) (by omega) (by simpa using ha)
    rw [set_take_drop xs acc 0 i (by omega) ha] at ih
    refine Ev.step (fun k => ?_) ih
    simp only [laws_toIntS.l0]
    rw [if_pos (by omega), if_pos (by omega), if_pos (by omega), wrap_id (by omega) (by omega), rd_nat]
    rfl
theorem toIntS_ev (xs : List Int) (hx : xs.length ≤ 1048576) : Ev (fun k => laws_toIntS.f k xs) xs := by
  have h := toIntS_l0 xs hx xs.length 0 (List.replicate xs.length 0) (by omega) (by simp)
  simp only [List.take_zero, List.drop_zero, List.nil_append] at h
  refine Ev.congr (fun k => ?_) h
  simp only [laws_toIntS.f]
  rw [if_pos (by omega), if_pos (by simp only [Int.toNat_natCast]; omega)]
  simp only [Int.toNat_natCast]
  rfl
theorem eqIntS_l0 (xs : List Int) (hx : xs.length ≤ 1048576) : ∀ (d i : Nat), i + d = xs.length → Ev (fun k => laws_eqIntS.l0 k xs xs (i : Int)) true
  | 0, i, h => by
    refine Ev.step (f := fun _ => some true) (fun k => ?_) (Ev.now _)
    simp only [laws_eqIntS.l0]
    rw [if_neg (by omega)]
  | d + 1, i, h => by
    refine Ev.step (fun k => ?_) (eqIntS_l0 xs hx d (i + 1) (by omega))
    simp only [laws_eqIntS.l0]
    rw [if_pos (by omega), if_pos (by omega), if_pos (by omega), if_pos trivial, wrap_id (by omega) (by omega)]
    rfl
theorem eqIntS_ev (xs : List Int) (hx : xs.length ≤ 1048576) : Ev (fun k => laws_eqIntS.f k xs xs) true := by
  refine Ev.congr (fun k => ?_) (eqIntS_l0 xs hx xs.length 0 (by omega))
  simp only [laws_eqIntS.f]
  rw [if_pos trivial]
  rfl
theorem same_loops (x y : List Int) (hx : x.length ≤ 1048576) (hy : y.length = x.length) : ∀ (d i : Nat), i + d = x.length →
    ∃ r, Ev (fun k => spec_l1Same.l0 k x y (x.length : Int) (i : Int)) r ∧ Ev (fun k => slices_Equal_int_int.l0 k x y (x.length : Int) (i : Int)) r
  | 0, i, h => by
    refine ⟨true, Ev.step (f := fun _ => some true) (fun k => ?_) (Ev.now _), Ev.step (f := fun _ => some true) (fun k => ?_) (Ev.now _)⟩
    · simp only [spec_l1Same.l0]; rw [if_neg (by omega)]
    · simp only [slices_Equal_int_int.l0]; rw [if_neg (by omega)]
  | d + 1, i, h => by
    by_cases e : rd x (i : Int) = rd y (i : Int)
    · obtain ⟨r, hs, hi⟩ := same_loops x y hx hy d (i + 1) (by omega)
      refine ⟨r, Ev.step (fun k => ?_) hs, Ev.step (fun k => ?_) hi⟩
      · simp only [spec_l1Same.l0]
        rw [if_pos (by omega), if_pos (by omega), if_pos (by omega), if_pos (by omega), if_pos e, wrap_id (by omega) (by omega)]
        rfl
      · simp only [slices_Equal_int_int.l0]
        rw [if_pos (by omega), if_pos (by omega), if_pos (by omega), if_pos (by omega), if_pos e, wrap_id (by omega) (by omega)]
        rfl
    · refine ⟨false, Ev.step (f := fun _ => some false) (fun k => ?_) (Ev.now _), Ev.step (f := fun _ => some false) (fun k => ?_) (Ev.now _)⟩
      · simp only [spec_l1Same.l0]
        rw [if_pos (by omega), if_pos (by omega), if_pos (by omega), if_pos (by omega), if_neg e]
      · simp only [slices_Equal_int_int.l0]
        rw [if_pos (by omega), if_pos (by omega), if_pos (by omega), if_pos (by omega), if_neg e]
theorem same_both (x y : List Int) (hx : x.length ≤ 1048576) (hy : y.length = x.length) : ∃ r, Ev (fun k => spec_l1Same.f k x y) r ∧ Ev (fun k => slices_Equal_int_int.f k x y) r := by
  obtain ⟨r, hs, hi⟩ := same_loops x y hx hy x.length 0 (by omega)
  exact ⟨r, Ev.congr (fun k => by simp only [spec_l1Same.f]; rw [if_pos (by omega)]; rfl) hs, Ev.congr (fun k => by simp only [slices_Equal_int_int.f]; rw [if_pos (by omega)]; rfl) hi⟩
theorem less_loops (x y : List Int) (hx : x.length ≤ 1048576) (hy : y.length = x.length) : ∀ (d i : Nat), i + d = x.length →
    ∃ r, Ev (fun k => spec_ClockLess.l0 k x y (x.length : Int) (i : Int)) r ∧ Ev (fun k => impl_ClockLess.l0 k x y (x.length : Int) (i : Int)) r
  | 0, i, h => by
    obtain ⟨b, hs, hi⟩ := same_both x y hx hy
    refine ⟨(!b, true), Ev.step (fun k => ?_) (Ev.bind (f := fun _ t => some (!t, true)) hs (Ev.now _)), Ev.step (fun k => ?_) (Ev.bind (f := fun _ t => some (!t, true)) hi (Ev.now _))⟩
    · simp only [spec_ClockLess.l0]; rw [if_neg (by omega)]
    · simp only [impl_ClockLess.l0]; rw [if_neg (by omega)]
  | d + 1, i, h => by
    by_cases e : rd x (i : Int) > rd y (i : Int)
    · refine ⟨(false, true), Ev.step (f := fun _ => some (false, true)) (fun k => ?_) (Ev.now _), Ev.step (f := fun _ => some (false, true)) (fun k => ?_) (Ev.now _)⟩
      · simp only [spec_ClockLess.l0]
        rw [if_pos (by omega), if_pos (by omega), if_pos (by omega), if_pos (by omega), if_pos e]
      · simp only [impl_ClockLess.l0]
        rw [if_pos (by omega), if_pos (by omega), if_pos (by omega), if_pos (by omega), if_pos e]
    · obtain ⟨r, hs, hi⟩ := less_loops x y hx hy d (i + 1) (by omega)
      refine ⟨r, Ev.step (fun k => ?_) hs, Ev.step (fun k => ?_) hi⟩
      · simp only [spec_ClockLess.l0]
        rw [if_pos (by omega), if_pos (by omega), if_pos (by omega), if_pos (by omega), if_neg e, wrap_id (by omega) (by omega)]
        rfl
      · simp only [impl_ClockLess.l0]
        rw [if_pos (by omega), if_pos (by omega), if_pos (by omega), if_pos (by omega), if_neg e, wrap_id (by omega) (by omega)]
        rfl
theorem less_same (x y : List Int) (hx : x.length ≤ 1048576) (hy : y.length ≤ 1048576) : ∃ r, Ev (fun k => spec_ClockLess.f k x y) r ∧ Ev (fun k => impl_ClockLess.f k x y) r := by
  by_cases h : (x.length : Int) = (y.length : Int)
  · obtain ⟨r, hs, hi⟩ := less_loops x y hx (by omega) x.length 0 (by omega)
    exact ⟨r, Ev.congr (fun k => by simp only [spec_ClockLess.f]; rw [if_pos h]; rfl) hs, Ev.congr (fun k => by simp only [impl_ClockLess.f]; rw [if_pos h]; rfl) hi⟩
  · exact ⟨(false, false), Ev.congr (fun k => by simp only [spec_ClockLess.f]; rw [if_neg h]) (Ev.now _), Ev.congr (fun k => by simp only [impl_ClockLess.f]; rw [if_neg h]) (Ev.now _)⟩
theorem FnExactClockLess : laws_FnExactClockLess.Pure := by
  intro l0 l1 hm hb hw hm1 hb1 hw1
  apply Ev.rounds
  simp only [laws_FnExactClockLess.f]
  by_cases h : (l0.length : Int) > 1048576
  · exact Ev.ite_pos h (Ev.now _)
  refine Ev.ite_neg h ?_
  by_cases h1 : (l1.length : Int) > 1048576
  · exact Ev.ite_pos h1 (Ev.now _)
  refine Ev.ite_neg h1 ?_
  have hx : l0.length ≤ 1048576 := by omega
  have hy : l1.length ≤ 1048576 := by omega
  obtain ⟨r, hs, hi⟩ := less_same l0 l1 hx hy
  refine Ev.bind (toIntS_ev l0 hx) (Ev.bind (toIntS_ev l1 hy) (Ev.bind hs (Ev.bind (toIntS_ev l0 hx) (Ev.bind (toIntS_ev l1 hy) (Ev.bind hi ?_)))))
  refine Ev.ite_neg (by simp) ?_
  rw [show (r.2 != r.2) = false from by simp]
  refine Ev.step (fun k => by simp only [laws_FnExactClockLess.j0]; rw [if_neg (by simp)]) ?_
  exact Ev.bind (toIntS_ev l0 hx) (Ev.bind (eqIntS_ev l0 hx) (Ev.ite_pos rfl (Ev.bind (toIntS_ev l1 hy) (Ev.bind (eqIntS_ev l1 hy) (Ev.ite_pos rfl (Ev.now _))))))

end Go.Proofs.Ytbgocnhhpbpilaa.Pure

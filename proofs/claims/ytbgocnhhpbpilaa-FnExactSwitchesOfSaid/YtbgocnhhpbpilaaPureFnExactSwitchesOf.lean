/- The pure statement of FnExactSwitchesOf: both loops count the same switches, for every list of at most 200 numbers. -/
import Derived.Test.YtbgocnhhpbpilaaPFnExactSwitchesOfx1
import Derived.Test.YtbgocnhhpbpilaaMBase
import Derived.KernelRfl
set_option linter.unusedVariables false
set_option linter.unusedSimpArgs false
namespace Go.Proofs.Ytbgocnhhpbpilaa.Pure
open Go.RowKit Go.Proofs.Ytbgocnhhpbpilaa.PFnExactSwitchesOf Go.Proofs.YtbgocnhhpbpilaaW.PrintWords Go.Proofs.YtbgocnhhpbpilaaW.PrintLast Go.Proofs.YtbgocnhhpbpilaaW.PrintMore Go.Proofs.Ytbgocnhhpbpilaa.MBase
theorem toIntS_l0 (xs : List Int) (hx : xs.length ≤ 1048576) : ∀ (d i : Nat) (acc : List Int), i + d = xs.length → acc.length = xs.length →
    Ev (fun k => laws_toIntS.l0 k xs acc (i : Int)) (acc.take i ++ xs.drop i)
  | 0, i, acc, h, ha => by
    have e : acc.take i ++ xs.drop i = acc := by rw [List.take_of_length_le (by omega), List.drop_eq_nil_of_le (by omega), List.append_nil]
    rw [e]
    refine Ev.step (f := fun _ => some acc) (fun k => ?_) (Ev.now _)
    simp only [laws_toIntS.l0]
    rw [if_neg (by omega)]
  | d + 1, i, acc, h, ha => by
    have ih := toIntS_l0 xs hx d (i + 1) (acc.set i (xs.getD i 0)) (by omega) (by simpa using ha)
    rw [set_take_drop xs acc 0 i (by omega) ha] at ih
    refine Ev.step (fun k => ?_) ih
    simp only [laws_toIntS.l0]
    rw [if_pos (by omega), if_pos (by omega), if_pos (by omega), wrap_id (by omega) (by omega), rd_nat]
    rfl
theorem toIntS_ev (xs : List Int) (hx : xs.length ≤ 1048576) : Ev (fun k => laws_toIntS.f k xs) xs := by
  have h := toIntS_l0 xs hx xs.length 0 (List.replicate xs.length 0) (by omega) (by simp)
  simp only [List.take_zero, List.drop_zero, List.nil_append] at h
  refine Ev.congr (fun k => ?_) h
  simp only [laws_toIntS.f]
  rw [if_pos (by omega), if_pos (by simp only [Int.toNat_natCast]; omega)]
  simp only [Int.toNat_natCast]
  rfl
theorem eqIntS_l0 (xs : List Int) (hx : xs.length ≤ 1048576) : ∀ (d i : Nat), i + d = xs.length → Ev (fun k => laws_eqIntS.l0 k xs xs (i : Int)) true
  | 0, i, h => by
    refine Ev.step (f := fun _ => some true) (fun k => ?_) (Ev.now _)
    simp only [laws_eqIntS.l0]
    rw [if_neg (by omega)]
  | d + 1, i, h => by
    refine Ev.step (fun k => ?_) (eqIntS_l0 xs hx d (i + 1) (by omega))
    simp only [laws_eqIntS.l0]
    rw [if_pos (by omega), if_pos (by omega), if_pos (by omega), if_pos trivial, wrap_id (by omega) (by omega)]
    rfl
theorem eqIntS_ev (xs : List Int) (hx : xs.length ≤ 1048576) : Ev (fun k => laws_eqIntS.f k xs xs) true := by
  refine Ev.congr (fun k => ?_) (eqIntS_l0 xs hx xs.length 0 (by omega))
  simp only [laws_eqIntS.f]
  rw [if_pos trivial]
  rfl
theorem sw_loops (x : List Int) (hx : x.length ≤ 1048576) : ∀ (d i : Nat) (c : Int), i + d = x.length → 1 ≤ i → 0 ≤ c → c ≤ i →
    ∃ r, Ev (fun k => spec_SwitchesOf.l0 k x c (i : Int)) r ∧ Ev (fun k => impl_SwitchesOf.l0 k x c (i : Int)) r
  | 0, i, c, h, h1, hc, hc2 => by
    refine ⟨(c, true), Ev.step (f := fun _ => some (c, true)) (fun k => ?_) (Ev.now _), Ev.step (f := fun _ => some (c, true)) (fun k => ?_) (Ev.now _)⟩
    · simp only [spec_SwitchesOf.l0]; rw [if_neg (by omega)]
    · simp only [impl_SwitchesOf.l0]; rw [if_neg (by omega)]
  | d + 1, i, c, h, h1, hc, hc2 => by
    by_cases e : rd x (i : Int) = rd x ((i : Int) - 1)
    · obtain ⟨r, hs, hi⟩ := sw_loops x hx d (i + 1) c (by omega) (by omega) hc (by omega)
      refine ⟨r, Ev.step (fun k => ?_) hs, Ev.step (fun k => ?_) hi⟩
      · simp only [spec_SwitchesOf.l0]
        rw [wrap_id (n := (i : Int) - 1) (by omega) (by omega), if_pos (by omega), if_pos (by omega), if_pos (by omega), if_pos (by omega), if_pos e, wrap_id (by omega) (by omega)]
        rfl
      · simp only [impl_SwitchesOf.l0, impl_boolInt.f]
        rw [wrap_id (n := (i : Int) - 1) (by omega) (by omega), if_pos (by omega), if_pos (by omega), if_pos (by omega), if_pos (by omega), if_neg (by simp [e])]
        simp only [Option.bind_some]
        rw [wrap_id (by omega) (by omega), wrap_id (by omega) (by omega), Int.add_zero]
        rfl
    · obtain ⟨r, hs, hi⟩ := sw_loops x hx d (i + 1) (c + 1) (by omega) (by omega) (by omega) (by omega)
      refine ⟨r, Ev.step (fun k => ?_) hs, Ev.step (fun k => ?_) hi⟩
      · simp only [spec_SwitchesOf.l0]
        rw [wrap_id (n := (i : Int) - 1) (by omega) (by omega), if_pos (by omega), if_pos (by omega), if_pos (by omega), if_pos (by omega), if_neg e, wrap_id (n := c + 1) (by omega) (by omega), wrap_id (by omega) (by omega)]
        rfl
      · simp only [impl_SwitchesOf.l0, impl_boolInt.f]
        rw [wrap_id (n := (i : Int) - 1) (by omega) (by omega), if_pos (by omega), if_pos (by omega), if_pos (by omega), if_pos (by omega), if_pos (by simp [e])]
        simp only [Option.bind_some]
        rw [wrap_id (n := c + 1) (by omega) (by omega), wrap_id (by omega) (by omega)]
        rfl
theorem sw_same (x : List Int) (hx : x.length ≤ 1048576) : ∃ r, Ev (fun k => spec_SwitchesOf.f k x) r ∧ Ev (fun k => impl_SwitchesOf.f k x) r := by
  by_cases h : (x.length : Int) > 200
  · exact ⟨(0, false), Ev.congr (fun k => by simp only [spec_SwitchesOf.f]; rw [if_pos h]) (Ev.now _), Ev.congr (fun k => by simp only [impl_SwitchesOf.f]; rw [if_pos h]) (Ev.now _)⟩
  · rcases Nat.eq_zero_or_pos x.length with h0 | h0
    · refine ⟨(0, true), Ev.congr (fun k => by simp only [spec_SwitchesOf.f]; rw [if_neg h]) (Ev.step (f := fun _ => some (0, true)) (fun k => ?_) (Ev.now _)), Ev.congr (fun k => by simp only [impl_SwitchesOf.f]; rw [if_neg h]) (Ev.step (f := fun _ => some (0, true)) (fun k => ?_) (Ev.now _))⟩
      · simp only [spec_SwitchesOf.l0]; rw [if_neg (by omega)]
      · simp only [impl_SwitchesOf.l0]; rw [if_neg (by omega)]
    · obtain ⟨r, hs, hi⟩ := sw_loops x hx (x.length - 1) 1 0 (by omega) (by omega) (by omega) (by omega)
      exact ⟨r, Ev.congr (fun k => by simp only [spec_SwitchesOf.f]; rw [if_neg h]; rfl) hs, Ev.congr (fun k => by simp only [impl_SwitchesOf.f]; rw [if_neg h]; rfl) hi⟩
theorem FnExactSwitchesOf : laws_FnExactSwitchesOf.Pure := by
  intro l0 hm hb hw
  apply Ev.rounds
  simp only [laws_FnExactSwitchesOf.f]
  by_cases h : (l0.length : Int) > 1048576
  · exact Ev.ite_pos h (Ev.now _)
  have hx : l0.length ≤ 1048576 := by omega
  obtain ⟨r, hs, hi⟩ := sw_same l0 hx
  refine Ev.ite_neg h ?_
  refine Ev.bind (toIntS_ev l0 hx) (Ev.bind hs (Ev.bind (toIntS_ev l0 hx) (Ev.bind hi ?_)))
  refine Ev.ite_pos rfl ?_
  rw [show (r.2 != r.2) = false from by simp]
  refine Ev.step (fun k => by simp only [laws_FnExactSwitchesOf.j0]; rw [if_neg (by simp)]) ?_
  exact Ev.bind (toIntS_ev l0 hx) (Ev.bind (eqIntS_ev l0 hx) (Ev.ite_pos rfl (Ev.now _)))

end Go.Proofs.Ytbgocnhhpbpilaa.Pure

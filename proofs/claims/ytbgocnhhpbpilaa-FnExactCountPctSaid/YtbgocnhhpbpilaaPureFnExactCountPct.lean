/- The pure statement of FnExactCountPct: both counts agree, for all numbers; the few that are let in are reckoned out by the kernel. -/
import Derived.Test.YtbgocnhhpbpilaaGCountPctx2
import Derived.Test.YtbgocnhhpbpilaaMBase
import Derived.KernelRfl
set_option linter.unusedVariables false
set_option linter.unusedSimpArgs false
namespace Go.Proofs.Ytbgocnhhpbpilaa.Pure
open Go.RowKit Go.Proofs.Ytbgocnhhpbpilaa.GCountPct Go.Proofs.YtbgocnhhpbpilaaW.PrintWords Go.Proofs.YtbgocnhhpbpilaaW.PrintLast Go.Proofs.YtbgocnhhpbpilaaW.PrintMore Go.Proofs.Ytbgocnhhpbpilaa.MBase
def permsOk (t : Nat) : Bool := match spec_l5Perms.f 40 ((t : Int) + 1) [], impl_factorial.f 40 ((t : Int) + 1) with
  | some l, some n => (l.length : Int) == n && decide (l.length ≤ 1000)
  | _, _ => false
def choicesOk (s c : Nat) : Bool := match spec_l5Choices.f 300 (s : Int) (c : Int) 0, impl_choose.f 40 (s : Int) (c : Int) with
  | some l, some n => (l.length : Int) == n && decide (l.length ≤ 1000)
  | _, _ => false
theorem perms_all : (List.range 5).all permsOk = true := by kernel_rfl
theorem choices_all : ((List.range 21).all fun s => (List.range 3).all fun c => choicesOk s c) = true := by kernel_rfl
theorem perms_at (t : Int) (h1 : 1 ≤ t) (h2 : t ≤ 5) : ∃ l n, spec_l5Perms.f 40 t [] = some l ∧ impl_factorial.f 40 t = some n ∧ (l.length : Int) = n := by
  obtain ⟨m, rfl⟩ : ∃ m : Nat, t = (m : Int) + 1 := ⟨(t - 1).toNat, by omega⟩
  have h := List.all_eq_true.mp perms_all m (by simp; omega)
  unfold permsOk at h
  split at h
  · rename_i l n hl hn
    simp only [Bool.and_eq_true, beq_iff_eq] at h
    exact ⟨l, n, hl, hn, h.1⟩
  · cases h
theorem choices_at (s c : Int) (h1 : 0 ≤ s) (h2 : s ≤ 20) (h3 : 0 ≤ c) (h4 : c ≤ 2) : ∃ l n, spec_l5Choices.f 300 s c 0 = some l ∧ impl_choose.f 40 s c = some n ∧ (l.length : Int) = n := by
  obtain ⟨m, rfl⟩ : ∃ m : Nat, s = (m : Int) := ⟨s.toNat, by omega⟩
  obtain ⟨q, rfl⟩ : ∃ q : Nat, c = (q : Int) := ⟨c.toNat, by omega⟩
  have h := List.all_eq_true.mp (List.all_eq_true.mp choices_all m (by simp; omega)) q (by simp; omega)
  unfold choicesOk at h
  split at h
  · rename_i l n hl hn
    simp only [Bool.and_eq_true, beq_iff_eq] at h
    exact ⟨l, n, hl, hn, h.1⟩
  · cases h
theorem in_eq (a b c : Int) : impl_in.f a b c = spec_l1In.f a b c := rfl
theorem l1In_dec (a b c : Int) : spec_l1In.f a b c = some (decide (b ≤ a ∧ a ≤ c)) := by
  unfold spec_l1In.f
  by_cases h : b ≤ a
  · rw [if_pos h]; simp [h]
  · rw [if_neg h]; simp [h]
theorem count_same (t s c : Int) : ∃ r, Ev (fun k => spec_CountPct.f k t s c) r ∧ Ev (fun k => impl_CountPct.f k t s c) r := by
  by_cases h1 : 1 ≤ t ∧ t ≤ 5
  · by_cases h2 : 0 ≤ s ∧ s ≤ 20
    · by_cases h3 : 0 ≤ c ∧ c ≤ 2
      · obtain ⟨l, n, hl, hn, e⟩ := perms_at t h1.1 h1.2
        obtain ⟨l', n', hl', hn', e'⟩ := choices_at s c h2.1 h2.2 h3.1 h3.2
        refine ⟨(wrap64 (n * n'), true), Ev.congr (fun k => ?_) (Ev.bind (f := fun k (x : List (List Int)) => (spec_l5Choices.f k s c 0).bind fun y => some (wrap64 ((x.length : Int) * (y.length : Int)), true)) (Ev.of (spec_l5Perms.mono t []) hl) (Ev.bind (f := fun _ (y : List (List Int)) => some (wrap64 ((l.length : Int) * (y.length : Int)), true)) (Ev.of (spec_l5Choices.mono s c 0) hl') (Ev.const (by rw [e, e'])))), Ev.congr (fun k => ?_) (Ev.step (f := fun k => (impl_factorial.f k t).bind fun x => (impl_choose.f k s c).bind fun y => some (wrap64 (x * y), true)) (g := fun k => impl_CountPct.j0 k t s c false) (fun k => ?_) (Ev.bind (f := fun k x => (impl_choose.f k s c).bind fun y => some (wrap64 (x * y), true)) (Ev.of (impl_factorial.mono t) hn) (Ev.bind (f := fun _ y => some (wrap64 (n * y), true)) (Ev.of (impl_choose.mono s c) hn') (Ev.now _))))⟩
        · simp only [spec_CountPct.f, spec_l5Asked.f, l1In_dec, Option.bind_some, decide_eq_true h1, decide_eq_true h2, decide_eq_true h3, if_true]
        · simp only [impl_CountPct.f, in_eq, l1In_dec, Option.bind_some, decide_eq_true h1, decide_eq_true h2, decide_eq_true h3, if_true, Bool.not_true]
        · simp only [impl_CountPct.j0]; rw [if_neg (by simp)]
      · refine ⟨(0, false), Ev.congr (fun k => ?_) (Ev.now _), Ev.congr (fun k => ?_) (Ev.step (g := fun k => impl_CountPct.j0 k t s c true) (f := fun _ => some (0, false)) (fun k => ?_) (Ev.now _))⟩
        · simp [spec_CountPct.f, spec_l5Asked.f, l1In_dec, h1, h2, h3]
        · simp [impl_CountPct.f, in_eq, l1In_dec, h1, h2, h3]
        · simp only [impl_CountPct.j0]; rw [if_pos trivial]
    · refine ⟨(0, false), Ev.congr (fun k => ?_) (Ev.now _), Ev.congr (fun k => ?_) (Ev.step (g := fun k => impl_CountPct.j0 k t s c true) (f := fun _ => some (0, false)) (fun k => ?_) (Ev.now _))⟩
      · simp [spec_CountPct.f, spec_l5Asked.f, l1In_dec, h1, h2]
      · simp [impl_CountPct.f, in_eq, l1In_dec, h1, h2]
      · simp only [impl_CountPct.j0]; rw [if_pos trivial]
  · refine ⟨(0, false), Ev.congr (fun k => ?_) (Ev.now _), Ev.congr (fun k => ?_) (Ev.step (g := fun k => impl_CountPct.j0 k t s c true) (f := fun _ => some (0, false)) (fun k => ?_) (Ev.now _))⟩
    · simp [spec_CountPct.f, spec_l5Asked.f, l1In_dec, h1]
    · simp [impl_CountPct.f, in_eq, l1In_dec, h1]
    · simp only [impl_CountPct.j0]; rw [if_pos trivial]
theorem FnExactCountPct : laws_FnExactCountPct.Pure := by
  intro t s c _ _ _
  apply Ev.rounds
  obtain ⟨r, hs, hi⟩ := count_same t s c
  simp only [laws_FnExactCountPct.f]
  refine Ev.bind hs (Ev.bind hi ?_)
  exact Ev.ite_pos rfl (Ev.ite_neg (by simp) (Ev.now _))

end Go.Proofs.Ytbgocnhhpbpilaa.Pure

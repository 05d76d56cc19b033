/- The pure statement of FnExactHang: both sides are one boolean of the two events. -/
import Derived.Test.YtomckmlhidhodaaQFnExactHang
import Derived.Test.YtomckmlhidhodaaMBase
import Derived.KernelRfl
set_option linter.unusedVariables false
set_option linter.unusedSimpArgs false
namespace Go.Proofs.Ytomckmlhidhodaa.Pure
open Go.RowKit Go.Proofs.Ytomckmlhidhodaa.GHang Go.Proofs.YtomckmlhidhodaaW.PrintWords Go.Proofs.YtomckmlhidhodaaW.PrintLast Go.Proofs.YtomckmlhidhodaaW.PrintMore Go.Proofs.Ytomckmlhidhodaa.MBase
theorem dec_of {b : Bool} {P : Prop} [Decidable P] (h : b = true ↔ P) : some b = some (decide P) := by
  congr 1
  cases hb : b
  · rw [hb] at h; simp at h; simp [h]
  · rw [hb] at h; simp at h; simp [h]
theorem l1In_dec (a b c : Int) : spec_l1In.f a b c = some (decide (b ≤ a ∧ a ≤ c)) := by
  unfold spec_l1In.f
  by_cases h : b ≤ a
  · rw [if_pos h]; simp [h]
  · rw [if_neg h]; simp [h]
theorem in_dec (a b c : Int) : impl_in.f a b c = some (decide (b ≤ a ∧ a ≤ c)) := l1In_dec a b c
def EvOk (a b c d e : Int) : Prop := (0 ≤ a ∧ a ≤ 4) ∧ (1 ≤ b ∧ b ≤ 12) ∧ (-1 ≤ c ∧ c ≤ 99) ∧ (-1 ≤ d ∧ d ≤ 99) ∧ (0 ≤ e ∧ e ≤ 99) ∧ ¬((2 ≤ b ∧ b ≤ 10) ∧ c < 0) ∧ ¬((b = 8 ∨ b = 9) ∧ d < 0)
instance (a b c d e : Int) : Decidable (EvOk a b c d e) := by unfold EvOk; infer_instance
theorem spec_ev (k : Nat) (a b c d e : Int) : spec_l6Event.f (k+1) a b c d e = some (decide (EvOk a b c d e)) := by
  unfold spec_l6Event.f spec_l6Event.j0
  simp only [l1In_dec, Option.bind_some, decide_eq_true_eq]
  repeat' split
  all_goals refine dec_of ?_
  all_goals simp only [EvOk, decide_eq_true_eq, beq_iff_eq, bne_iff_ne, Bool.false_eq_true, true_iff, false_iff, ne_eq, reduceCtorEq, not_true_eq_false, not_false_eq_true] at *
  all_goals omega
theorem good_ev (a b c d e : Int) : impl_Event_isGood.f a b c d e = some (decide (EvOk a b c d e)) := by
  unfold impl_Event_isGood.f
  simp only [in_dec, Option.bind_some, decide_eq_true_eq]
  repeat' split
  all_goals refine dec_of ?_
  all_goals simp only [EvOk, decide_eq_true_eq, beq_iff_eq, bne_iff_ne, Bool.false_eq_true, true_iff, false_iff, ne_eq, reduceCtorEq, not_true_eq_false, not_false_eq_true] at *
  all_goals omega
theorem touch_same (a b c d e : Int) : impl_Event_touches.f a b c d e = spec_l7Touch.f a b c d e := rfl
theorem cond_same (a b c d e : Int) : impl_Event_isCond.f a b c d e = spec_l9Cond.f a b c d e := rfl
def TouchP (b : Int) : Prop := b = 2 ∨ b = 3
instance (b : Int) : Decidable (TouchP b) := by unfold TouchP; infer_instance
def CondP (b : Int) : Prop := b = 8 ∨ b = 9 ∨ b = 10
instance (b : Int) : Decidable (CondP b) := by unfold CondP; infer_instance
theorem touch_dec (a b c d e : Int) : spec_l7Touch.f a b c d e = some (decide (TouchP b)) := by
  unfold spec_l7Touch.f
  repeat' split
  all_goals refine dec_of ?_
  all_goals simp only [TouchP, beq_iff_eq, true_iff]
  all_goals omega
theorem cond_dec (a b c d e : Int) : spec_l9Cond.f a b c d e = some (decide (CondP b)) := by
  unfold spec_l9Cond.f
  repeat' split
  all_goals refine dec_of ?_
  all_goals simp only [CondP, beq_iff_eq, true_iff]
  all_goals omega
def OneP (a b c d a' b' c' : Int) : Prop := (b = 3 ∧ TouchP b' ∧ c = c') ∨ (b = 6 ∧ (b' = 6 ∨ a' = c)) ∨ (b = 7 ∧ b' = 11 ∧ a' = c) ∨ (b = 10 ∧ ((CondP b' ∧ c = c') ∨ a' = d)) ∨ (b = 8 ∧ CondP b' ∧ c = c') ∨ b = 12
instance (a b c d a' b' c' : Int) : Decidable (OneP a b c d a' b' c') := by unfold OneP; infer_instance
theorem one_dec (a b c d e a' b' c' d' e' : Int) : spec_l9One.f a b c d e a' b' c' d' e' = some (decide (OneP a b c d a' b' c')) := by
  unfold spec_l9One.f
  simp only [touch_dec, cond_dec, Option.bind_some, decide_eq_true_eq]
  repeat' split
  all_goals refine dec_of ?_
  all_goals simp only [OneP, TouchP, CondP, decide_eq_true_eq, beq_iff_eq, bne_iff_ne, Bool.false_eq_true, true_iff, false_iff, ne_eq, reduceCtorEq, not_true_eq_false, not_false_eq_true] at *
  all_goals omega
theorem binds_dec (a b c d e a' b' c' d' e' : Int) : impl_binds.f a b c d e a' b' c' d' e' = some (decide (OneP a b c d a' b' c')) := by
  unfold impl_binds.f
  simp only [touch_same, cond_same, touch_dec, cond_dec, Option.bind_some, decide_eq_true_eq]
  repeat' split
  all_goals refine dec_of ?_
  all_goals simp only [OneP, TouchP, CondP, decide_eq_true_eq, beq_iff_eq, bne_iff_ne, Bool.false_eq_true, true_iff, false_iff, ne_eq, reduceCtorEq, not_true_eq_false, not_false_eq_true] at *
  all_goals omega
def lockN (n b c d : Int) : Int := if b = 4 ∨ b = 5 then c else if b = 8 ∨ b = 9 then d else n
theorem lock_spec (k : Nat) (a b c d e : Int) : spec_l9Lock.f (k+1) a b c d e = some (lockN (-2) b c d) := by
  unfold spec_l9Lock.f spec_l9Lock.j0 lockN
  simp only [beq_iff_eq]
  repeat' split
  all_goals first | rfl | (exfalso; omega)
theorem lock_impl (a b c d e : Int) (h : EvOk a b c d e) : impl_Event_lockOf.f a b c d e = some (lockN (-1) b c d) := by
  unfold impl_Event_lockOf.f impl_Event_gives.f impl_Event_takes.f lockN
  unfold EvOk at h
  repeat' split
  all_goals simp only [Option.bind_some]
  all_goals refine congrArg some ?_
  all_goals simp only [mx]
  all_goals (try split) <;> omega
theorem hang_same (k : Nat) (a b c d e a' b' c' d' e' : Int) (h : EvOk a b c d e) (h' : EvOk a' b' c' d' e') :
    spec_l9Hang.f (k+1) a b c d e a' b' c' d' e' = impl_hang.f a b c d e a' b' c' d' e' := by
  unfold spec_l9Hang.f spec_l9Hang.j0 impl_hang.f
  simp only [one_dec, binds_dec, lock_spec, lock_impl _ _ _ _ _ h, lock_impl _ _ _ _ _ h', Option.bind_some, decide_eq_true_eq]
  have e1 : (lockN (-2) b c d = lockN (-2) b' c' d' ∧ lockN (-2) b c d ≠ -2) ↔ (0 ≤ lockN (-1) b c d ∧ lockN (-1) b c d = lockN (-1) b' c' d') := by
    unfold lockN; unfold EvOk at h h'
    repeat' split
    all_goals omega
  simp only [ge_iff_le]
  generalize lockN (-2) b c d = x at *
  generalize lockN (-2) b' c' d' = x' at *
  generalize lockN (-1) b c d = y at *
  generalize lockN (-1) b' c' d' = y' at *
  by_cases ha : a = a'
  · simp [ha]
  · by_cases ho : OneP a b c d a' b' c'
    · simp [ha, ho]
    · by_cases ho' : OneP a' b' c' d' a b c
      · simp [ha, ho, ho']
      · simp only [ha, ho, ho', if_false, if_true, decide_false, decide_true, Bool.false_eq_true, bne_iff_ne, ne_eq]
        by_cases hx : x = x' ∧ x ≠ -2
        · have hy := e1.mp hx
          rw [if_pos hx.1, if_pos hx.2, if_pos hy.1, hy.2]
          simp
        · have hy : ¬ (0 ≤ y ∧ y = y') := fun q => hx (e1.mpr q)
          by_cases hx1 : x = x'
          · have : x = -2 := by omega
            simp [hx1]
            rw [← hx1, this]; simp
            omega
          · simp [hx1]
            omega
theorem FnExactHang : laws_FnExactHang.Pure2 := by
  rintro ⟨a, b, c, d, e⟩ ⟨a', b', c', d', e'⟩ _ _
  refine ⟨1, ?_⟩
  simp only [laws_FnExactHang.f, laws_toEvent.f, Option.bind_some, spec_Hang.f, impl_Hang.f, spec_ev, good_ev, decide_eq_true_eq]
  by_cases h : EvOk a b c d e
  · by_cases h' : EvOk a' b' c' d' e'
    · simp only [h, h', if_true, hang_same 0 a b c d e a' b' c' d' e' h h']
      have : ∃ r, impl_hang.f a b c d e a' b' c' d' e' = some r := by
        unfold impl_hang.f
        simp only [binds_dec, lock_impl _ _ _ _ _ h, lock_impl _ _ _ _ _ h', Option.bind_some]
        repeat' split
        all_goals exact ⟨_, rfl⟩
      obtain ⟨r, hr⟩ := this
      simp [hr]
    · simp [h, h']
  · simp [h]

end Go.Proofs.Ytomckmlhidhodaa.Pure

/- The pure statement of FnExactToIndex: a number that is a place, or none. -/
import Derived.Test.YtahnllomlgillaaQFnExactToIndex
import Derived.Test.YtahnllomlgillaaMBase
import Derived.KernelRfl
import Derived.Test.YtahnllomlgillaaMReal
set_option linter.unusedVariables false
set_option linter.unusedSimpArgs false
namespace Go.Proofs.Ytahnllomlgillaa.Pure
open Go.RowKit Go.Proofs.Ytahnllomlgillaa.GToIndex Go.Proofs.YtahnllomlgillaaW.PrintWords Go.Proofs.YtahnllomlgillaaW.PrintLast Go.Proofs.YtahnllomlgillaaW.PrintMore Go.Proofs.Ytahnllomlgillaa.MBase
open Go.Proofs.Ytahnllomlgillaa.MNum Go.Proofs.Ytahnllomlgillaa.MIeee Go.Proofs.Ytahnllomlgillaa.MReal
/-- The kind of a number. -/
def kindN (x : Nat) : Int := if isNan x = true then 0 else if rg x = INF then 1 else if rg x = 0 then 2 else if 2 ^ E74 ∣ val (rg x) then 3 else 4
theorem impl_kind {x : Nat} (hx : x < 18446744073709551616) : impl_KindOf.f x = some (kindN x) := by
  simp only [impl_KindOf.f, math_IsNaN.f, math_IsInf.f, math_Abs.f, math_Trunc.f, Option.bind_some, feq_self, ftruncOk_eq, andNot_sign hx]
  unfold kindN
  have hI := inf_small
  cases hn : isNan x with
  | true => rfl
  | false =>
    have hle : ¬ INF < rg x := of_decide_eq_false hn
    have hr := key_rg x
    have hnr : isNan (rg x) = false := by unfold isNan; rw [hr.2]; exact decide_eq_false hle
    have hmx : isNan 9218868437227405311 = false := by decide
    have hkm : key 9218868437227405311 = 9218868437227405311 := by decide
    simp only [Bool.not_false, Bool.not_true, Bool.false_eq_true, if_false, if_true, fgt_eq hnr hmx, hkm, hr.1, feq_eq hn nan_zero, key_zero, key_rg_zero, decide_eq_true_eq, Option.bind_some]
    by_cases hi : rg x = INF
    · have : (9218868437227405311 : Int) < (rg x : Int) := by unfold INF at hi; omega
      rw [if_pos this, if_pos hi]
    · have h1 : ¬ (9218868437227405311 : Int) < (rg x : Int) := by unfold INF at hi hle; omega
      rw [if_neg h1, if_neg hi]
      by_cases hz : rg x = 0
      · rw [if_pos hz, if_pos hz]
      · rw [if_neg hz, if_neg hz, feq_trunc (show rg x < INF by omega)]
        simp only [decide_eq_true_eq]
        by_cases hd : 2 ^ E74 ∣ val (rg x)
        · rw [if_pos hd, if_pos hd]
        · rw [if_neg hd, if_neg hd]
theorem l1In_dec (a b c : Int) : spec_l1In.f a b c = some (decide (b ≤ a ∧ a ≤ c)) := by
  unfold spec_l1In.f
  by_cases h : b ≤ a
  · rw [if_pos h]; simp [h]
  · rw [if_neg h]; simp [h]
theorem in_dec (a b c : Int) : impl_in.f a b c = some (decide (b ≤ a ∧ a ≤ c)) := l1In_dec a b c
theorem key_val (x y : Nat) : (key x < key y) ↔ sval x < sval y := (sval_lt_iff x y).symm
theorem sval_fofi (n : Nat) (h : n < 9007199254740992) : sval (fofi (n : Int)) = (n : Int) * (2 ^ E74 : Nat) := by
  rcases Nat.eq_zero_or_pos n with e | e
  · subst e
    rw [show fofi ((0 : Nat) : Int) = 0 from fofi_zero]
    rw [show sval 0 = 0 from by decide]
    simp
  · obtain ⟨r, hr0, hr, hv, he⟩ := fofi_eq (n : Int) (by omega) (by omega)
    have hI := inf_small
    have hng : decide ((n : Int) < 0) = false := decide_eq_false (by omega)
    rw [he, hng]
    unfold sval
    rw [sg_word _ (by omega), rg_word _ (by omega), hv]
    simp
theorem whole_lt {x n : Nat} (hn : n < 9007199254740992) (hs : sg x = false ∨ rg x = 0) (h : sval x < (n : Int) * (2 ^ E74 : Nat)) : whole x < n ∧ swhole x = (whole x : Int) := by
  have hv : sval x = (val (rg x) : Int) := by
    unfold sval
    rcases hs with e | e
    · rw [e]; rfl
    · rw [e]; simp [val_zero]
  rw [hv] at h
  have h' : val (rg x) < n * 2 ^ E74 := by
    rw [← Int.natCast_mul] at h
    exact Int.ofNat_lt.mp h
  refine ⟨(Nat.div_lt_iff_lt_mul (Nat.two_pow_pos _)).mpr h', ?_⟩
  unfold swhole
  rcases hs with e | e
  · rw [e]; rfl
  · have : whole x = 0 := by unfold whole; rw [e, val_zero, Nat.zero_div]
    rw [this]; simp
theorem index_same {x : Nat} (hx : x < 18446744073709551616) (n : Int) : ∃ r, spec_ToIndex.f x n = some r ∧ impl_ToIndex.f x n = some r := by
  simp only [spec_ToIndex.f, impl_ToIndex.f, impl_kind hx, l1In_dec, in_dec, Option.bind_some, decide_eq_true_eq]
  by_cases hm : 1 ≤ n ∧ n ≤ 1000
  · rw [if_pos hm, if_pos hm]
    obtain ⟨m, rfl⟩ : ∃ m : Nat, n = (m : Int) := ⟨n.toNat, by omega⟩
    have hf := fofi_nan (m : Int)
    have hsv := sval_fofi m (by omega)
    cases hn : isNan x with
    | true =>
      rw [flt_nan (.inl hn), flt_nan (.inl hn)]
      unfold kindN
      simp only [hn, if_true, Bool.false_eq_true, if_false]
      exact ⟨_, rfl, rfl⟩
    | false =>
      have hle : ¬ INF < rg x := of_decide_eq_false hn
      rw [flt_eq hn nan_zero, flt_eq hn hf.1, fge_eq hn hf.1, key_zero]
      simp only [decide_eq_true_eq]
      by_cases h0 : key x < 0
      · rw [if_pos h0]
        refine ⟨_, rfl, ?_⟩
        simp only [if_pos h0]
        repeat' split
        all_goals rfl
      · rw [if_neg h0]
        have hs : sg x = false ∨ rg x = 0 := by
          unfold key at h0
          cases hsx : sg x with
          | false => exact .inl rfl
          | true => rw [hsx] at h0; right; simp at h0; exact h0
        by_cases h1 : key x < key (fofi (m : Int))
        · have hlt : sval x < (m : Int) * (2 ^ E74 : Nat) := by rw [← hsv]; exact (key_val _ _).mp h1
          have hw := whole_lt (by omega) hs hlt
          have hfin : rg x < INF := by
            apply Classical.byContradiction
            intro hc
            have hi : rg x = INF := by omega
            have hrm : rg (fofi (m : Int)) ≤ INF := by
              have := hf.1
              have : ¬ INF < rg (fofi (m : Int)) := of_decide_eq_false this
              omega
            unfold key at h1
            rcases hs with e | e
            · rw [e] at h1
              simp only [Bool.false_eq_true, if_false] at h1
              split at h1 <;> omega
            · rw [e] at hi; exact absurd hi (by decide)
          have hfi := fint_eq hfin (by omega)
          have hnge : ¬ key (fofi (m : Int)) ≤ key x := by omega
          rw [if_pos h1, if_pos hfi.1, feq_fint hfin (by omega)]
          simp only [decide_eq_true_eq, if_neg h0, if_neg hnge, if_pos hfi.1]
          unfold kindN
          simp only [hn, Bool.false_eq_true, if_false]
          rw [if_neg (show ¬ rg x = INF by omega)]
          by_cases hz : rg x = 0
          · rw [if_pos hz, if_pos rfl, if_pos (show 2 ^ E74 ∣ val (rg x) by rw [hz, val_zero]; exact Nat.dvd_zero _)]
            exact ⟨_, rfl, rfl⟩
          · rw [if_neg hz]
            by_cases hd : 2 ^ E74 ∣ val (rg x)
            · rw [if_pos hd, if_pos hd]
              exact ⟨_, rfl, rfl⟩
            · rw [if_neg hd, if_neg hd]
              exact ⟨_, rfl, rfl⟩
        · rw [if_neg h1]
          refine ⟨_, rfl, ?_⟩
          have hge : key (fofi (m : Int)) ≤ key x := by omega
          simp only [if_neg h0, if_pos hge]
          repeat' split
          all_goals rfl
  · rw [if_neg hm, if_neg hm]
    exact ⟨_, rfl, rfl⟩
theorem FnExactToIndex : laws_FnExactToIndex.Pure2 := by
  intro x n hx _
  refine ⟨0, ?_⟩
  obtain ⟨⟨a, b⟩, hs, hi⟩ := index_same hx n
  simp only [laws_FnExactToIndex.f]
  rw [hs, Option.bind_some, hi, Option.bind_some, if_pos rfl, if_neg (by simp)]

end Go.Proofs.Ytahnllomlgillaa.Pure

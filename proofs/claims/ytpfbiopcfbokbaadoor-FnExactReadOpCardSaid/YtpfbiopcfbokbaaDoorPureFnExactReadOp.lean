/- The pure statement of FnExactReadOp: an op is read back from its words. -/
import Derived.Test.YtpfbiopcfbokbaaDoorQFnExactReadOp
import Derived.Test.YtpfbiopcfbokbaaDoorMBase
import Derived.KernelRfl
import Derived.Test.YtpfbiopcfbokbaaDoorMReal
import Derived.Lib.ItoaLen
import Derived.Lib.ItoaMem
import Derived.Lib.AtoiAll
import Derived.Lib.Split
set_option linter.unusedVariables false
set_option linter.unusedSimpArgs false
namespace Go.Proofs.YtpfbiopcfbokbaaDoor.Pure
open Go.RowKit Go.Proofs.YtpfbiopcfbokbaaDoor.GReadOp Go.Proofs.YtpfbiopcfbokbaaDoorW.PrintWords Go.Proofs.YtpfbiopcfbokbaaDoorW.PrintLast Go.Proofs.YtpfbiopcfbokbaaDoorW.PrintMore Go.Proofs.YtpfbiopcfbokbaaDoor.MBase
open Go.Proofs.YtpfbiopcfbokbaaDoor Go.Proofs.YtpfbiopcfbokbaaDoor.MNum Go.Proofs.YtpfbiopcfbokbaaDoor.MIeee Go.Proofs.YtpfbiopcfbokbaaDoor.MReal
/-- The kind of a number. -/
def kindN (x : Nat) : Int := if isNan x = true then 0 else if rg x = INF then 1 else if rg x = 0 then 2 else if 2 ^ E74 ∣ val (rg x) then 3 else 4
theorem impl_kind {x : Nat} (hx : x < 18446744073709551616) : impl_KindOf.f x = some (kindN x) := by
  simp only [impl_KindOf.f, math_IsNaN.f, math_IsInf.f, math_Abs.f, math_Trunc.f, Option.bind_some, feq_self, ftruncOk_eq, andNot_sign hx]
  unfold kindN
  have hI := inf_small
  cases hn : isNan x with
  | true => rfl
  | false =>
    have hle : ¬ INF < rg x := of_decide_eq_false hn
    have hr := key_rg x
    have hnr : isNan (rg x) = false := by unfold isNan; rw [hr.2]; exact decide_eq_false hle
    have hmx : isNan 9218868437227405311 = false := by decide
    have hkm : key 9218868437227405311 = 9218868437227405311 := by decide
    simp only [Bool.not_false, Bool.not_true, Bool.false_eq_true, if_false, if_true, fgt_eq hnr hmx, hkm, hr.1, feq_eq hn nan_zero, key_zero, key_rg_zero, decide_eq_true_eq, Option.bind_some]
    by_cases hi : rg x = INF
    · have : (9218868437227405311 : Int) < (rg x : Int) := by unfold INF at hi; omega
      rw [if_pos this, if_pos hi]
    · have h1 : ¬ (9218868437227405311 : Int) < (rg x : Int) := by unfold INF at hi hle; omega
      rw [if_neg h1, if_neg hi]
      by_cases hz : rg x = 0
      · rw [if_pos hz, if_pos hz]
      · rw [if_neg hz, if_neg hz, feq_trunc (show rg x < INF by omega)]
        simp only [decide_eq_true_eq]
        by_cases hd : 2 ^ E74 ∣ val (rg x)
        · rw [if_pos hd, if_pos hd]
        · rw [if_neg hd, if_neg hd]
def sgn (s : Bool) (n : Nat) : Int := if s = true then -(n : Int) else (n : Int)
theorem sgn_tmod (s : Bool) (n : Nat) : Int.tmod (sgn s n) 2 = 0 ↔ n % 2 = 0 := by
  unfold sgn
  have e : Int.tmod (n : Int) 2 = ((n % 2 : Nat) : Int) := by rw [Int.tmod_eq_emod_of_nonneg (by omega)]; omega
  cases s
  · simp only [Bool.false_eq_true, if_false]; rw [e]; omega
  · simp only [if_true]; rw [Int.neg_tmod, e]; omega
theorem sgn_tdiv (s : Bool) (n : Nat) : Int.tdiv (sgn s (2 * n)) 2 = sgn s n := by
  unfold sgn
  have e : Int.tdiv ((2 * n : Nat) : Int) 2 = (n : Int) := by rw [Int.tdiv_eq_ediv_of_nonneg (by omega)]; omega
  cases s
  · simp only [Bool.false_eq_true, if_false]; exact e
  · simp only [if_true]; rw [Int.neg_tdiv, e]
/-- A finite number, not nought: its sign, and u * 2^t in units of the least place. -/
structure St (x : Nat) (s : Bool) (u t : Nat) : Prop where
  lt : x < 18446744073709551616
  sg : sg x = s
  pos : 0 < rg x
  fin : rg x < INF
  val : val (rg x) = u * 2 ^ t
theorem st_word (s : Bool) {u t r : Nat} (h0 : 0 < r) (h : r < INF) (hv : val r = u * 2 ^ t) : St (Ieee.double.word s r) s u t := by
  have hI := inf_small
  exact ⟨word_lt s (by omega), sg_word s (by omega), by rw [rg_word s (by omega)]; exact h0, by rw [rg_word s (by omega)]; exact h, by rw [rg_word s (by omega)]; exact hv⟩
theorem St.nan {x u t : Nat} {s : Bool} (h : St x s u t) : isNan x = false := fin_nan h.fin
theorem St.top {x u t : Nat} {s : Bool} (h : St x s u t) : u * 2 ^ t < 2 ^ T98 := by rw [← h.val]; exact val_lt h.fin
theorem St.half {x u t : Nat} {s : Bool} (h : St x s u (t + 1)) (hu0 : 0 < u) (hu : u < 9007199254740992) : fdivOk x 4611686018427387904 = true ∧ St (fdiv x 4611686018427387904) s u t := by
  have e : u * 2 ^ (t + 1) = u * 2 ^ t * 2 := by rw [Nat.pow_succ, Nat.mul_assoc]
  have ht := h.top
  obtain ⟨r, hr0, hr, hv⟩ := rung_of (q := t) hu0 hu (by omega)
  refine ⟨(half_ok h.nan).1, ?_⟩
  rw [half_eq h.fin h.pos hr0 hr (by rw [hv, h.val, e]), h.sg]
  exact st_word s hr0 hr hv
theorem St.double {x u t : Nat} {s : Bool} (h : St x s u t) (hu0 : 0 < u) (hu : u < 9007199254740992) (ht : u * 2 ^ (t + 1) < 2 ^ T98) : fmulOk x 4611686018427387904 = true ∧ St (fmul x 4611686018427387904) s u (t + 1) := by
  have e : u * 2 ^ (t + 1) = u * 2 ^ t * 2 := by rw [Nat.pow_succ, Nat.mul_assoc]
  obtain ⟨r, hr0, hr, hv⟩ := rung_of (q := t + 1) hu0 hu ht
  refine ⟨(mul_pow_ok pow_two h.nan).1, ?_⟩
  rw [mul_up (j := 1) pow_two h.fin h.pos hr0 hr (by rw [hv, h.val, e, Nat.pow_one]), h.sg]
  exact st_word s hr0 hr hv
/-- The bound of the loops. -/
def B52 : Nat := E74 + 52
def B53 : Nat := E74 + 53
def P52 : Nat := 2 ^ B52
def P53 : Nat := 2 ^ B53
theorem B52_eq : B52 = E74 + 52 := rfl
theorem B53_eq : B53 = E74 + 53 := rfl
theorem P52_eq : P52 = 2 ^ B52 := rfl
theorem P53_eq : P53 = 2 ^ B53 := rfl
theorem P52_pos : 0 < P52 := Nat.two_pow_pos _
theorem P53_two : P53 = P52 * 2 := by
  rw [P53_eq, P52_eq, show B53 = B52 + 1 from by rw [B53_eq, B52_eq], Nat.pow_succ]
theorem P53_top : P53 ≤ 2 ^ T98 := by
  rw [P53_eq]
  exact Nat.pow_le_pow_right (by omega) (by rw [B53_eq, E74_eq, T98_eq]; omega)
theorem pow_P52 {t : Nat} (h : E74 + 52 ≤ t) : P52 ≤ 2 ^ t := by
  rw [P52_eq]; exact Nat.pow_le_pow_right (by omega) (by rw [B52_eq]; omega)
theorem pow_P53 {t : Nat} (h : E74 + 53 ≤ t) : P53 ≤ 2 ^ t := by
  rw [P53_eq]; exact Nat.pow_le_pow_right (by omega) (by rw [B53_eq]; omega)
theorem le_P52 {t : Nat} (h : t ≤ E74 + 52) : 2 ^ t ≤ P52 := by
  rw [P52_eq]; exact Nat.pow_le_pow_right (by omega) (by rw [B52_eq]; omega)
theorem edge : sval 4841369599423283200 = (P52 : Int) ∧ isNan 4841369599423283200 = false := by refine ⟨?_, ?_⟩ <;> kernel_rfl
theorem edge_neg : sval 14064741636278059008 = -(P52 : Int) ∧ isNan 14064741636278059008 = false := by refine ⟨?_, ?_⟩ <;> kernel_rfl
theorem St.sval {x u t : Nat} {s : Bool} (h : St x s u t) : sval x = sgn s (u * 2 ^ t) := by
  unfold MIeee.sval sgn
  rw [h.sg, h.val]
theorem St.gt {x u t : Nat} {s : Bool} (h : St x s u t) : fgt x 4841369599423283200 = decide (s = false ∧ P52 < u * 2 ^ t) := by
  rw [fgt_eq h.nan edge.2, decide_eq_decide, ← sval_lt_iff, edge.1, h.sval]
  unfold sgn
  cases s
  · simp only [Bool.false_eq_true, if_false, true_and]; omega
  · simp only [if_true, reduceCtorEq, false_and, iff_false]; omega
theorem St.lt_neg {x u t : Nat} {s : Bool} (h : St x s u t) : flt x 14064741636278059008 = decide (s = true ∧ P52 < u * 2 ^ t) := by
  rw [flt_eq h.nan edge_neg.2, decide_eq_decide, ← sval_lt_iff, edge_neg.1, h.sval]
  unfold sgn
  have hp := P52_pos
  cases s
  · simp only [Bool.false_eq_true, if_false, false_and, iff_false]; omega
  · simp only [if_true, true_and]; omega
theorem St.lt_pos {x u t : Nat} {s : Bool} (h : St x s u t) (hu0 : 0 < u) : flt x 4841369599423283200 = decide (s = true ∨ u * 2 ^ t < P52) := by
  rw [flt_eq h.nan edge.2, decide_eq_decide, ← sval_lt_iff, edge.1, h.sval]
  have hq : 0 < u * 2 ^ t := Nat.mul_pos hu0 (Nat.two_pow_pos _)
  unfold sgn
  cases s
  · simp only [Bool.false_eq_true, if_false, false_or]; omega
  · simp only [if_true, true_or, iff_true]; omega
theorem St.gt_neg {x u t : Nat} {s : Bool} (h : St x s u t) (hu0 : 0 < u) : fgt x 14064741636278059008 = decide (s = false ∨ u * 2 ^ t < P52) := by
  rw [fgt_eq h.nan edge_neg.2, decide_eq_decide, ← sval_lt_iff, edge_neg.1, h.sval]
  have hp := P52_pos
  unfold sgn
  cases s
  · simp only [Bool.false_eq_true, if_false, true_or, iff_true]; omega
  · simp only [if_true, reduceCtorEq, false_or]; omega
theorem odd_dvd {u t : Nat} (hu : u % 2 = 1) : 2 ^ E74 ∣ u * 2 ^ t ↔ E74 ≤ t := by
  constructor
  · intro h
    apply Classical.byContradiction
    intro hc
    obtain ⟨d, hd⟩ : ∃ d, E74 = t + (d + 1) := ⟨E74 - t - 1, by omega⟩
    rw [hd, Nat.pow_add, Nat.mul_comm u] at h
    have h2 : 2 ^ (d + 1) ∣ u := Nat.dvd_of_mul_dvd_mul_left (Nat.two_pow_pos _) h
    have h3 : 2 ∣ u := Nat.dvd_trans ⟨2 ^ d, by rw [Nat.pow_succ, Nat.mul_comm]⟩ h2
    omega
  · intro h
    exact Nat.dvd_trans (Nat.pow_dvd_pow 2 h) (Nat.dvd_mul_left _ _)
theorem whole_at {x u t : Nat} {s : Bool} (h : St x s u t) (hE : E74 ≤ t) : whole x = u * 2 ^ (t - E74) := by
  unfold whole
  rw [h.val, show u * 2 ^ t = u * 2 ^ (t - E74) * 2 ^ E74 from by rw [Nat.mul_assoc, ← Nat.pow_add]; congr 2; omega, Nat.mul_div_cancel _ (Nat.two_pow_pos _)]
theorem whole_le {x u t b : Nat} {s : Bool} (h : St x s u t) (hb : u * 2 ^ t < 2 ^ (E74 + b)) : whole x < 2 ^ b := by
  unfold whole
  rw [h.val, Nat.div_lt_iff_lt_mul (Nat.two_pow_pos _), ← Nat.pow_add, Nat.add_comm b]
  exact hb
theorem whole_le52 {x u t : Nat} {s : Bool} (h : St x s u t) (hb : u * 2 ^ t < P52) : whole x < 4503599627370496 := by
  rw [P52_eq, B52_eq] at hb
  exact Nat.lt_of_lt_of_eq (whole_le h hb) (by decide)
theorem whole_le53 {x u t : Nat} {s : Bool} (h : St x s u t) (hb : u * 2 ^ t < P53) : whole x < 9007199254740992 := by
  rw [P53_eq, B53_eq] at hb
  exact Nat.lt_of_lt_of_eq (whole_le h hb) (by decide)
theorem swhole_sgn {x u t : Nat} {s : Bool} (h : St x s u t) : swhole x = sgn s (whole x) := by
  unfold swhole sgn; rw [h.sg]
theorem l2_ev (s : Bool) (u : Nat) (hu : u % 2 = 1) : ∀ (b : Nat) (e : Int), u * 2 ^ b < 2 ^ 62 → -10000 ≤ e → e + b ≤ 10000 → Ev (fun k => spec_l1Parts.l2 k e (sgn s (u * 2 ^ b))) (sgn s u, e + b)
  | 0, e, hb, h1, h2 => by
    refine Ev.step (f := fun _ => some (sgn s u, e + (0 : Nat))) (fun k => ?_) (Ev.now _)
    simp only [spec_l1Parts.l2]
    rw [Nat.pow_zero, Nat.mul_one, if_neg (by rw [sgn_tmod]; omega)]
    simp
  | b + 1, e, hb, h1, h2 => by
    have e1 : u * 2 ^ (b + 1) = 2 * (u * 2 ^ b) := by rw [Nat.pow_succ]; simp only [Nat.mul_comm, Nat.mul_left_comm]
    have h62 : (2 : Nat) ^ 62 = 4611686018427387904 := by decide
    have ih := l2_ev s u hu b (e + 1) (by omega) (by omega) (by omega)
    rw [show e + 1 + (b : Int) = e + ((b + 1 : Nat) : Int) from by omega] at ih
    refine Ev.step (fun k => ?_) ih
    simp only [spec_l1Parts.l2]
    rw [e1, if_pos (by rw [sgn_tmod]; omega), sgn_tdiv, wrap_id (n := e + 1) (by omega) (by omega), wrap_id]
    · unfold sgn; split <;> omega
    · unfold sgn; split <;> omega
/-- The last part: a whole number that is not less than 2^52. -/
theorem j2_end {x u t : Nat} {s : Bool} (h : St x s u t) (hu : u % 2 = 1) (hu1 : u < 9007199254740992) (e : Int) (he : -5000 ≤ e ∧ e ≤ 4000) (hlo : P52 ≤ u * 2 ^ t) (hhi : u * 2 ^ t < P53) (htb : t < T98) :
    Ev (fun k => spec_l1Parts.j2 k x e false) (sgn s u, e + t - E74) := by
  have h53 : (2 : Nat) ^ 53 = 9007199254740992 := by decide
  have h62 : (2 : Nat) ^ 62 = 4611686018427387904 := by decide
  have hE : E74 ≤ t := by
    apply Classical.byContradiction
    intro hc
    have q1 : u * 2 ^ t < 2 ^ 53 * 2 ^ t := Nat.mul_lt_mul_of_pos_right (by omega) (Nat.two_pow_pos _)
    rw [← Nat.pow_add] at q1
    have q2 : (2 : Nat) ^ (53 + t) ≤ P52 := le_P52 (by omega)
    omega
  have hw := whole_at h hE
  have hwl := whole_le53 h hhi
  have hf := fint_eq h.fin (by omega)
  have hT := T98_eq
  have hL := l2_ev s u hu (t - E74) e (by omega) (by omega) (by omega)
  rw [show e + ((t - E74 : Nat) : Int) = e + (t : Int) - (E74 : Int) from by omega] at hL
  refine Ev.step (fun k => ?_) hL
  simp only [spec_l1Parts.j2]
  rw [if_neg (by simp), if_pos hf.1, hf.2, swhole_sgn h, hw]
theorem l1_step (s : Bool) (u q : Nat) (hu : u % 2 = 1) (hu1 : u < 9007199254740992) (hq : q < T98) (t x : Nat) (htb : t ≤ E74 + 53) (h : St x s u t) (hhi : u * 2 ^ t < P53)
    (ih : t < E74 + 52 → ∀ x', St x' s u (t + 1) → u * 2 ^ (t + 1) < P53 → Ev (fun k => spec_l1Parts.l1 k x' ((q : Int) - ((t + 1 : Nat) : Int))) (sgn s u, (q : Int) - E74)) :
    Ev (fun k => spec_l1Parts.l1 k x ((q : Int) - t)) (sgn s u, (q : Int) - E74) := by
    have hEq := E74_eq
    have hT := T98_eq
    have hu0 : 0 < u := by omega
    have hstep : ∀ k, spec_l1Parts.l1 (k+1) x ((q : Int) - t) = spec_l1Parts.j2 k x ((q : Int) - t) (decide (u * 2 ^ t < P52)) := by
      intro k
      simp only [spec_l1Parts.l1, h.lt_pos hu0, h.gt_neg hu0, decide_eq_true_eq]
      cases s
      · simp only [Bool.false_eq_true, false_or, true_or, decide_true]
        by_cases c : u * 2 ^ t < P52
        · rw [if_pos c, decide_eq_true c]
        · rw [if_neg c, decide_eq_false c]
      · simp only [true_or, if_true, reduceCtorEq, false_or]
    refine Ev.step hstep ?_
    by_cases c : u * 2 ^ t < P52
    · rw [decide_eq_true c]
      have h52 : (2 : Nat) ^ 52 = 4503599627370496 := by decide
      have hwl := whole_le52 h c
      have hf := fint_eq h.fin (by omega)
      have hfe := feq_fint h.fin (by omega)
      rw [h.val] at hfe
      by_cases ht : t = E74
      · subst ht
        have hw := whole_at h (Nat.le_refl _)
        rw [Nat.sub_self, Nat.pow_zero, Nat.mul_one] at hw
        refine Ev.step (f := fun _ => some (sgn s u, (q : Int) - E74)) (fun k => ?_) (Ev.now _)
        simp only [spec_l1Parts.j2]
        rw [if_pos trivial, if_pos hf.1, hfe, if_pos (decide_eq_true ((odd_dvd hu).mpr (Nat.le_refl _))), hf.2, swhole_sgn h, hw, if_neg (by rw [sgn_tmod]; omega)]
      · have ht53 : t < E74 + 52 := by
          apply Classical.byContradiction
          intro hc
          have q2 : P52 ≤ 2 ^ t := pow_P52 (by omega)
          have q3 : 2 ^ t ≤ u * 2 ^ t := Nat.le_mul_of_pos_left _ hu0
          omega
        have e2 : u * 2 ^ (t + 1) = u * 2 ^ t * 2 := by rw [Nat.pow_succ, Nat.mul_assoc]
        have e3 := P53_two
        have hhi2 : u * 2 ^ (t + 1) < P53 := by omega
        have htop : u * 2 ^ (t + 1) < 2 ^ T98 := Nat.lt_of_lt_of_le hhi2 P53_top
        have hm := h.double hu0 hu1 htop
        have hgo := ih ht53 _ hm.2 hhi2
        refine Ev.step (fun k => ?_) hgo
        simp only [spec_l1Parts.j2]
        have hw1 : wrap64 ((q : Int) - (t : Int) - 1) = (q : Int) - ((t + 1 : Nat) : Int) := by rw [wrap_id] <;> omega
        rw [if_pos trivial, if_pos hf.1, hfe, if_pos hm.1, hw1]
        by_cases hE : E74 ≤ t
        · have hw := whole_at h hE
          rw [if_pos (decide_eq_true ((odd_dvd hu).mpr hE)), hf.2, swhole_sgn h, hw, if_pos]
          rw [sgn_tmod, show t - E74 = (t - E74 - 1) + 1 from by omega, Nat.pow_succ, ← Nat.mul_assoc, Nat.mul_mod_left]
        · rw [if_neg (by simp only [decide_eq_true_eq]; rw [odd_dvd hu]; exact hE)]
    · rw [decide_eq_false c]
      have r := j2_end h hu hu1 ((q : Int) - t) ⟨by omega, by omega⟩ (by omega) hhi (by omega)
      rw [show (q : Int) - (t : Int) + (t : Int) - (E74 : Int) = (q : Int) - E74 from by omega] at r
      exact r
theorem l1_ev (s : Bool) (u q : Nat) (hu : u % 2 = 1) (hu1 : u < 9007199254740992) (hq : q < T98) : ∀ (d t x : Nat), t + d = E74 + 53 → St x s u t → u * 2 ^ t < P53 →
    Ev (fun k => spec_l1Parts.l1 k x ((q : Int) - t)) (sgn s u, (q : Int) - E74) := by
  intro d
  induction d with
  | zero => intro t x hd h hhi; exact l1_step s u q hu hu1 hq t x (by omega) h hhi (fun c => by omega)
  | succ d ih => intro t x hd h hhi; exact l1_step s u q hu hu1 hq t x (by omega) h hhi (fun _ x' h' hh' => ih (t + 1) x' (by omega) h' hh')
theorem l0_step (s : Bool) (u q : Nat) (hu : u % 2 = 1) (hu1 : u < 9007199254740992) (hq : q < T98) (t x : Nat) (htq : t ≤ q) (h : St x s u t)
    (ih : ∀ t', t = t' + 1 → ∀ x', St x' s u t' → Ev (fun k => spec_l1Parts.l0 k x' ((q : Int) - t')) (sgn s u, (q : Int) - E74)) :
    Ev (fun k => spec_l1Parts.l0 k x ((q : Int) - t)) (sgn s u, (q : Int) - E74) := by
    have hEq := E74_eq
    have hT := T98_eq
    have hu0 : 0 < u := by omega
    have h53 : (2 : Nat) ^ 53 = 9007199254740992 := by decide
    by_cases c : P52 < u * 2 ^ t
    · cases t with
      | zero =>
        exfalso
        rw [Nat.pow_zero, Nat.mul_one] at c
        have q2 : (2 : Nat) ^ 53 ≤ P52 := le_P52 (by omega)
        omega
      | succ t =>
        have hh := h.half hu0 hu1
        have hgo := ih t rfl _ hh.2
        have hw1 : wrap64 ((q : Int) - ((t + 1 : Nat) : Int) + 1) = (q : Int) - (t : Int) := by rw [wrap_id] <;> omega
        refine Ev.step (fun k => ?_) hgo
        simp only [spec_l1Parts.l0, h.gt, h.lt_neg, decide_eq_true_eq]
        rw [hw1, if_pos hh.1]
        cases s
        · rw [if_pos ⟨rfl, c⟩]
        · rw [if_neg (by simp), if_pos ⟨rfl, c⟩]
    · have hhi : u * 2 ^ t < P53 := by
        have e3 := P53_two
        have := P52_pos
        omega
      have ht53 : t ≤ E74 + 53 := by
        apply Classical.byContradiction
        intro hc
        have q2 : P53 ≤ 2 ^ t := pow_P53 (by omega)
        have q3 : 2 ^ t ≤ u * 2 ^ t := Nat.le_mul_of_pos_left _ hu0
        omega
      refine Ev.step (fun k => ?_) (l1_ev s u q hu hu1 hq (E74 + 53 - t) t x (by omega) h hhi)
      simp only [spec_l1Parts.l0, h.gt, h.lt_neg, decide_eq_true_eq]
      rw [if_neg (by omega), if_neg (by omega)]
theorem l0_ev (s : Bool) (u q : Nat) (hu : u % 2 = 1) (hu1 : u < 9007199254740992) (hq : q < T98) : ∀ (t x : Nat), t ≤ q → St x s u t →
    Ev (fun k => spec_l1Parts.l0 k x ((q : Int) - t)) (sgn s u, (q : Int) - E74) := by
  intro t
  induction t with
  | zero => intro x htq h; exact l0_step s u q hu hu1 hq 0 x htq h (fun t' e => by omega)
  | succ t ih => intro x htq h; exact l0_step s u q hu hu1 hq (t + 1) x htq h (fun t' e x' h' => by have : t' = t := by omega
                                                                                                    subst this; exact ih x' (by omega) h')
/-- Every number that is not nought is an odd one times a power of two. -/
theorem odd_part : ∀ n : Nat, 0 < n → ∃ u b : Nat, u % 2 = 1 ∧ n = u * 2 ^ b ∧ u ≤ n := by
  intro n
  induction n using Nat.strongRecOn with
  | _ n ih =>
    intro h
    by_cases h2 : n % 2 = 1
    · exact ⟨n, 0, h2, by simp, Nat.le_refl _⟩
    · obtain ⟨u, b, hu, he, hle⟩ := ih (n / 2) (by omega) (by omega)
      refine ⟨u, b + 1, hu, ?_, by omega⟩
      rw [Nat.pow_succ, ← Nat.mul_assoc, ← he]
      omega
theorem st_of {x : Nat} (hx : x < 18446744073709551616) (hf : rg x < INF) (h0 : 0 < rg x) : ∃ u q : Nat, u % 2 = 1 ∧ u < 9007199254740992 ∧ q < T98 ∧ St x (sg x) u q := by
  obtain ⟨m, a, hm0, hm, hv, _⟩ := val_parts hf h0
  obtain ⟨u, b, hu, he, hle⟩ := odd_part m hm0
  have hval : val (rg x) = u * 2 ^ (a + b) := by rw [← hv, he, Nat.mul_assoc, ← Nat.pow_add, Nat.add_comm b]
  refine ⟨u, a + b, hu, by omega, ?_, ⟨hx, rfl, h0, hf, hval⟩⟩
  have h1 := val_lt hf
  rw [hval] at h1
  have h2 : 2 ^ (a + b) ≤ u * 2 ^ (a + b) := Nat.le_mul_of_pos_left _ (by omega)
  exact (Nat.pow_lt_pow_iff_right (by omega)).mp (Nat.lt_of_le_of_lt h2 h1)
theorem parts_ev {x u q : Nat} {s : Bool} (h : St x s u q) (hu : u % 2 = 1) (hu1 : u < 9007199254740992) (hq : q < T98) : Ev (fun k => spec_l1Parts.f k x) (sgn s u, (q : Int) - E74) := by
  have r := l0_ev s u q hu hu1 hq q x (Nat.le_refl _) h
  rw [Int.sub_self] at r
  exact r
theorem sub_self_fin {x : Nat} (h : rg x < INF) : fsubOk x x = true ∧ fsub x x = 0 := by
  obtain ⟨m, a, hr, _⟩ := read_fin h
  have e : Ieee.double.sub x x = some 0 := by
    unfold Ieee.Format.sub
    rw [hr]
    unfold Ieee.Datum.opposite Ieee.Datum.sum
    simp only [Option.map_some]
    have hz : Ieee.signed (sg x) m ((-1074 + (a : Int)) - min (-1074 + (a : Int)) (-1074 + (a : Int))).toNat + Ieee.signed (!sg x) m ((-1074 + (a : Int)) - min (-1074 + (a : Int)) (-1074 + (a : Int))).toNat = 0 := by
      unfold Ieee.signed
      cases sg x <;> simp <;> omega
    rw [hz]
    simp only [if_true, Int.natAbs_zero]
    rw [write_num, nearest_zero]
    cases sg x <;> rfl
  unfold fsubOk fsub
  rw [e]
  exact ⟨rfl, rfl⟩
theorem sub_self_inf {x : Nat} (h : rg x = INF) : fsubOk x x = false := by
  unfold fsubOk Ieee.Format.sub
  rw [read_inf h]
  unfold Ieee.Datum.opposite Ieee.Datum.sum
  cases sg x <;> rfl
theorem inf_eq (x : Nat) : spec_l1Inf.f x = some (decide (rg x = INF)) := by
  unfold spec_l1Inf.f
  rw [feq_self]
  cases hn : isNan x with
  | true =>
    have : INF < rg x := of_decide_eq_true hn
    rw [decide_eq_false (show ¬ rg x = INF by omega)]; rfl
  | false =>
    have hle : ¬ INF < rg x := of_decide_eq_false hn
    simp only [Bool.not_false, if_true]
    by_cases hi : rg x = INF
    · rw [sub_self_inf hi, decide_eq_true hi]; rfl
    · have := sub_self_fin (x := x) (by omega)
      rw [this.1, this.2, decide_eq_false hi, feq_self]
      rfl
theorem math_nan' (x : Nat) : math_IsNaN.f x = some (isNan x) := by
  unfold math_IsNaN.f; rw [feq_self]; cases isNan x <;> rfl
theorem math_inf' {x : Nat} (hx : x < 18446744073709551616) (hn : isNan x = false) : math_IsInf.f x 0 = some (decide (rg x = INF)) := by
  have hle : ¬ INF < rg x := of_decide_eq_false hn
  have hr := key_rg x
  have hnr : isNan (rg x) = false := by unfold isNan; rw [hr.2]; exact decide_eq_false hle
  have hmx : isNan 9218868437227405311 = false := by decide
  have hkm : key 9218868437227405311 = 9218868437227405311 := by decide
  simp only [math_IsInf.f, math_Abs.f, andNot_sign hx, Option.bind_some, if_true]
  rw [fgt_eq hnr hmx, hkm, hr.1]
  congr 1
  rw [decide_eq_decide]
  unfold INF at *
  omega
/-- A normal number: nothing is done to it. -/
theorem norm_normal {x : Nat} (hx : x < 18446744073709551616) (hf : rg x < INF) (h : 4503599627370496 ≤ rg x) : math_normalize.f x = some (x, 0) := by
  have hr := key_rg x
  have hnr : isNan (rg x) = false := by unfold isNan; rw [hr.2]; exact decide_eq_false (by omega)
  have hn2 : isNan 4503599627370496 = false := by decide
  have hk2 : key 4503599627370496 = 4503599627370496 := by decide
  simp only [math_normalize.f, math_Abs.f, andNot_sign hx, Option.bind_some]
  rw [flt_eq hnr hn2, hk2, hr.1, if_neg (by simp; omega)]
/-- A subnormal one is put 52 places up. -/
theorem norm_sub {x u q : Nat} {s : Bool} (h : St x s u q) (hu0 : 0 < u) (hu : u < 9007199254740992) (hs : rg x < 4503599627370496) : ∃ y, math_normalize.f x = some (y, -52) ∧ St y s u (q + 52) ∧ 4503599627370496 ≤ rg y := by
  have hr := key_rg x
  have hnr : isNan (rg x) = false := by unfold isNan; rw [hr.2]; exact decide_eq_false (by have := h.fin; omega)
  have hn2 : isNan 4503599627370496 = false := by decide
  have hk2 : key 4503599627370496 = 4503599627370496 := by decide
  have h52 : (2 : Nat) ^ 52 = 4503599627370496 := by decide
  have hv : val (rg x) = rg x := by unfold MIeee.val; rw [if_pos hs]
  have e : u * 2 ^ (q + 52) = u * 2 ^ q * 2 ^ 52 := by rw [Nat.pow_add, Nat.mul_assoc]
  have hlt : u * 2 ^ (q + 52) < 2 ^ T98 := by
    rw [e, ← h.val, hv]
    have q1 : rg x * 2 ^ 52 < 2 ^ 52 * 2 ^ 52 := Nat.mul_lt_mul_of_pos_right (by omega) (Nat.two_pow_pos _)
    rw [← Nat.pow_add] at q1
    exact Nat.lt_of_lt_of_le q1 (Nat.pow_le_pow_right (by omega) (by rw [T98_eq]; omega))
  obtain ⟨r, hr0, hrI, hrv⟩ := rung_of (q := q + 52) hu0 hu hlt
  have hm := mul_up (j := 52) pow_52 h.fin h.pos hr0 hrI (by rw [hrv, h.val, e])
  have hok := (mul_pow_ok pow_52 h.nan).1
  rw [h.sg] at hm
  refine ⟨_, ?_, st_word s hr0 hrI hrv, ?_⟩
  · simp only [math_normalize.f, math_Abs.f, andNot_sign h.lt, Option.bind_some]
    rw [flt_eq hnr hn2, hk2, hr.1, if_pos (by simp; omega), if_pos hok, hm]
  · have hI := inf_small
    rw [rg_word s (by omega)]
    apply Classical.byContradiction
    intro hc
    have h1 : val r = r := by unfold MIeee.val; rw [if_pos (by omega)]
    have h2 : val r = rg x * 4503599627370496 := by rw [hrv, e, ← h.val, hv, h52]
    have h3 := h.pos
    have h4 : 1 * 4503599627370496 ≤ rg x * 4503599627370496 := Nat.mul_le_mul_right _ h3
    omega
/-- The fields of a normal number: its fraction is the odd part, shifted. -/
theorem fields {x u q : Nat} {s : Bool} (h : St x s u q) (hu : u % 2 = 1) (hn : 4503599627370496 ≤ rg x) : ∃ e f : Nat, 1 ≤ e ∧ e ≤ 2046 ∧ f < 4503599627370496 ∧ rg x = e * 4503599627370496 + f ∧ e - 1 ≤ q ∧ 4503599627370496 + f = u * 2 ^ (q - (e - 1)) := by
  have hf := h.fin
  unfold INF at hf
  have er : rg x = (rg x / 4503599627370496) * 4503599627370496 + rg x % 4503599627370496 := by omega
  have he1 : 1 ≤ rg x / 4503599627370496 := by omega
  have he2 : rg x / 4503599627370496 ≤ 2046 := by omega
  have hf2 : rg x % 4503599627370496 < 4503599627370496 := Nat.mod_lt _ (by decide)
  have hv := h.val
  rw [er, val_norm he1 hf2] at hv
  generalize rg x / 4503599627370496 = e at *
  generalize rg x % 4503599627370496 = f at *
  have hq : e - 1 ≤ q := by
    apply Classical.byContradiction
    intro hc
    obtain ⟨d, hd⟩ : ∃ d, e - 1 = q + (d + 1) := ⟨e - 1 - q - 1, by omega⟩
    rw [hd, Nat.pow_add, ← Nat.mul_assoc, Nat.mul_comm _ (2 ^ q), Nat.mul_assoc, Nat.mul_comm u] at hv
    have h2 := Nat.eq_of_mul_eq_mul_left (Nat.two_pow_pos _) hv
    rw [Nat.pow_succ, ← Nat.mul_assoc] at h2
    omega
  refine ⟨e, f, he1, he2, hf2, er, hq, ?_⟩
  obtain ⟨d, hd⟩ : ∃ d, q = (e - 1) + d := ⟨q - (e - 1), by omega⟩
  rw [hd, Nat.pow_add, ← Nat.mul_assoc, Nat.mul_comm u, Nat.mul_assoc, Nat.mul_comm] at hv
  have h2 := Nat.eq_of_mul_eq_mul_left (Nat.two_pow_pos _) hv
  rw [hd, Nat.add_sub_cancel_left]
  exact h2
theorem frexp_ev {x u q : Nat} {s : Bool} (h : St x s u q) (hu : u % 2 = 1) (hu1 : u < 9007199254740992) (hq : q < T98) :
    ∃ (f : Nat) (b : Nat) (e : Int), f < 4503599627370496 ∧ 4503599627370496 + f = u * 2 ^ b ∧ e + b = (q : Int) - 1021 ∧ -2000 ≤ e ∧ e ≤ 2000 ∧ b ≤ 53 ∧ Ev (fun k => math_Frexp.f k x) (Ieee.double.word s (1022 * 4503599627370496 + f), e) := by
  have hz : feq x 0 = false := by
    rw [feq_eq h.nan nan_zero, key_zero]
    exact decide_eq_false (fun w => by have := key_rg_zero.mp w; have := h.pos; omega)
  have hi : math_IsInf.f x 0 = some false := by
    rw [math_inf' h.lt h.nan, decide_eq_false (by have := h.fin; omega)]
  have hT := T98_eq
  -- the number made normal, and by how many places
  have key : ∃ (y : Nat) (n : Nat), math_normalize.f x = some (y, -(n : Int)) ∧ St y s u (q + n) ∧ 4503599627370496 ≤ rg y ∧ n ≤ 52 := by
    by_cases hs : rg x < 4503599627370496
    · obtain ⟨y, hy, hst, hr⟩ := norm_sub h (by omega) hu1 hs
      exact ⟨y, 52, hy, hst, hr, by omega⟩
    · exact ⟨x, 0, norm_normal h.lt h.fin (by omega), h, by omega, by omega⟩
  obtain ⟨y, n, hy, hst, hr, hn⟩ := key
  obtain ⟨e, f, he1, he2, hf, er, heq, hm⟩ := fields hst hu hr
  have hb : q + n - (e - 1) ≤ 53 := by
    apply Classical.byContradiction
    intro hc
    have h1 : (2 : Nat) ^ 54 ≤ 2 ^ (q + n - (e - 1)) := Nat.pow_le_pow_right (by omega) (by omega)
    have h2 : 2 ^ (q + n - (e - 1)) ≤ u * 2 ^ (q + n - (e - 1)) := Nat.le_mul_of_pos_left _ (by omega)
    have h3 : (2 : Nat) ^ 54 = 18014398509481984 := by decide
    omega
  have hgs := set_exp (e := 1022) hst.lt (by omega)
  rw [show ((1022 * 4503599627370496 : Nat) : Int) = 4602678819172646912 from rfl, hst.sg] at hgs
  have hmod : rg y % 4503599627370496 = f := by rw [er]; omega
  have hdiv : rg y / 4503599627370496 = e := by rw [er]; omega
  rw [hmod] at hgs
  have hge := get_exp hst.lt
  rw [hdiv] at hge
  refine ⟨f, q + n - (e - 1), -(n : Int) + ((e : Int) - 1023 + 1), hf, hm, by omega, by omega, by omega, hb, ?_⟩
  refine Ev.congr (f := fun k => math_frexp.f k x) (fun k => by simp only [math_Frexp.f]; cases math_frexp.f k x <;> rfl) ?_
  simp only [math_frexp.f, hi, math_nan', h.nan, Option.bind_some]
  refine Ev.ite_neg (by simp [hz]) (Ev.ite_neg (by simp) ?_)
  refine Ev.step (f := fun _ => some (Ieee.double.word s (1022 * 4503599627370496 + f), -(n : Int) + ((e : Int) - 1023 + 1))) (fun k => ?_) (Ev.now _)
  simp only [math_frexp.j0, hy, Option.bind_some]
  rw [if_neg (by simp), hgs, hge, wrap_id (n := (e : Int)) (by omega) (by omega), wrap_id (n := (e : Int) - 1023) (by omega) (by omega), wrap_id (n := (e : Int) - 1023 + 1) (by omega) (by omega), wrap_id (by omega) (by omega)]
/-- What ldexp makes of a normal number. -/
def ldN (s : Bool) (e f : Nat) (n : Int) : Nat :=
  if n + ((e : Int) - 1023) < -1075 then Ieee.double.word s 0
  else if n + ((e : Int) - 1023) > 1023 then Ieee.double.word s INF
  else if n + ((e : Int) - 1023) < -1022 then fmul 4368491638549381120 (Ieee.double.word s ((n + (e : Int) + 53).toNat * 4503599627370496 + f))
  else Ieee.double.word s ((n + (e : Int)).toNat * 4503599627370496 + f)
theorem copy_zero {x : Nat} (hx : x < 18446744073709551616) : math_Copysign.f 0 x = some (Ieee.double.word (sg x) 0) := by
  have h63 : (2 : Nat) ^ 63 = 9223372036854775808 := by decide
  unfold math_Copysign.f
  congr 1
  have e1 := bits_andNot 0 9223372036854775808 (by omega) (by omega)
  have e2 := bits_and x 9223372036854775808 hx (by omega)
  rw [show ((0 : Nat) : Int) = 0 from rfl, show ((9223372036854775808 : Nat) : Int) = 9223372036854775808 from rfl, Nat.zero_and] at e1
  rw [show ((9223372036854775808 : Nat) : Int) = 9223372036854775808 from rfl] at e2
  have e3 : x &&& 9223372036854775808 = 2 ^ 63 * (if sg x = true then 1 else 0) := by
    apply Nat.eq_of_testBit_eq
    intro j
    have hx3 := word3 hx
    have hr := rg_lt x
    have hsb : (if sg x = true then 1 else 0) < 2 := by split <;> omega
    rw [Nat.testBit_and, show (9223372036854775808 : Nat) = 2 ^ 63 * 1 + (2 ^ 52 * 0 + 0) from by decide, tb3 _ _ _ _ (by omega) (by omega)]
    have e5 : (2 : Nat) ^ 63 * (if sg x = true then 1 else 0) = 2 ^ 63 * (if sg x = true then 1 else 0) + (2 ^ 52 * 0 + 0) := by simp
    rw [e5, tb3 _ _ _ _ (by omega) (by omega)]
    conv => lhs; lhs; rw [hx3]
    rw [tb3 _ _ _ _ (by omega) (by omega)]
    by_cases h : j < 63
    · rw [if_pos h, if_pos h, if_pos h]; split <;> simp
    · rw [if_neg h, if_neg h, if_neg h]
      generalize (if sg x = true then 1 else 0) = a at hsb
      rcases (show a = 0 ∨ a = 1 by omega) with rfl | rfl <;> simp
  rw [e2, e3]
  have e4 := bits_or 0 (2 ^ 63 * (if sg x = true then 1 else 0)) (by omega) (by rw [h63]; split <;> omega)
  rw [show ((0 : Nat) : Int) = 0 from rfl, Nat.zero_or] at e4
  rw [show ((0 : Nat) : Int) = 0 from rfl, e1, show ((0 : Nat) : Int) = 0 from rfl, e4, Int.toNat_natCast]
  unfold Ieee.Format.word
  rw [double_sign, h63]
  cases sg x <;> rfl
theorem ldexp_norm {x e f : Nat} {s : Bool} (hx : x = Ieee.double.word s (e * 4503599627370496 + f)) (he1 : 1 ≤ e) (he2 : e ≤ 2046) (hf : f < 4503599627370496) (n : Int) (hn : -3000 ≤ n ∧ n ≤ 3000) : math_Ldexp.f x n = some (ldN s e f n) := by
  have hI : INF = 9218868437227405312 := rfl
  have hr : rg x = e * 4503599627370496 + f := by rw [hx, rg_word s (by omega)]
  have hs : sg x = s := by rw [hx, sg_word s (by omega)]
  have hlt : x < 18446744073709551616 := by rw [hx]; exact word_lt s (by omega)
  have hfin : rg x < INF := by rw [hr, hI]; omega
  have hnan := fin_nan hfin
  have hz : feq x 0 = false := by
    rw [feq_eq hnan nan_zero, key_zero]
    exact decide_eq_false (fun w => by have := key_rg_zero.mp w; omega)
  have hi : math_IsInf.f x 0 = some false := by
    rw [math_inf' hlt hnan, decide_eq_false (by omega)]
  have hno := norm_normal hlt hfin (by omega)
  have hw : wrap64 ((x : Int) / 4503599627370496) = (x : Int) / 4503599627370496 := wrap_id (by omega) (by omega)
  have hge := get_exp_i64 hlt
  have hdiv : rg x / 4503599627370496 = e := by rw [hr]; omega
  have hmod : rg x % 4503599627370496 = f := by rw [hr]; omega
  rw [hdiv] at hge
  have hE : wrap64 (wrap64 (n + 0) + wrap64 ((e : Int) - 1023)) = n + ((e : Int) - 1023) := by
    rw [wrap_id (n := n + 0) (by omega) (by omega), wrap_id (n := (e : Int) - 1023) (by omega) (by omega), wrap_id (by omega) (by omega)]
    omega
  have hneg : flt x 0 = s := by
    rw [flt_eq hnan nan_zero, key_zero]
    unfold key
    rw [hs]
    cases s <;> simp <;> omega
  simp only [math_Ldexp.f, math_ldexp.f, hi, math_nan', hnan, hno, Option.bind_some, hw, hge, hE]
  rw [if_neg (by simp [hz]), if_neg (by simp), if_neg (by simp), copy_zero hlt, hs, hneg]
  unfold ldN
  by_cases c1 : n + ((e : Int) - 1023) < -1075
  · rw [if_pos c1, if_pos c1]; rfl
  · rw [if_neg c1, if_neg c1]
    by_cases c2 : n + ((e : Int) - 1023) > 1023
    · rw [if_pos c2, if_pos c2]
      cases s
      · rfl
      · rfl
    · rw [if_neg c2, if_neg c2]
      by_cases c3 : n + ((e : Int) - 1023) < -1022
      · rw [if_pos c3, if_pos c3]
        obtain ⟨g, hg⟩ : ∃ g : Nat, n + (e : Int) + 53 = (g : Int) := ⟨(n + (e : Int) + 53).toNat, by omega⟩
        have hwr : wrap64 (wrap64 (n + ((e : Int) - 1023) + 53) + 1023) = (g : Int) := by
          rw [wrap_id (n := n + ((e : Int) - 1023) + 53) (by omega) (by omega), wrap_id (by omega) (by omega)]; omega
        have hu : IntKind.u64.wrap (IntKind.u64.wrap (g : Int) * 4503599627370496) = ((g * 4503599627370496 : Nat) : Int) := by
          simp [IntKind.wrap, IntKind.bits, IntKind.signed]; omega
        rw [hwr, hu, set_exp hlt (by omega), hs, hmod, hg, Int.toNat_natCast]
        have hok := (mul_pow_ok' pow_m53 (x := Ieee.double.word s (g * 4503599627370496 + f)) (nan_word s (by rw [hI]; omega))).1
        rw [if_pos hok]
        rfl
      · rw [if_neg c3, if_neg c3]
        obtain ⟨g, hg⟩ : ∃ g : Nat, n + (e : Int) = (g : Int) := ⟨(n + (e : Int)).toNat, by omega⟩
        have hwr : wrap64 (n + ((e : Int) - 1023) + 1023) = (g : Int) := by
          rw [wrap_id (by omega) (by omega)]; omega
        have hu : IntKind.u64.wrap (IntKind.u64.wrap (g : Int) * 4503599627370496) = ((g * 4503599627370496 : Nat) : Int) := by
          simp [IntKind.wrap, IntKind.bits, IntKind.signed]; omega
        rw [hwr, hu, set_exp hlt (by omega), hs, hmod, hg, Int.toNat_natCast]
        have hrg : rg (Ieee.double.word s (g * 4503599627370496 + f)) = g * 4503599627370496 + f := rg_word s (by omega)
        have hsg : sg (Ieee.double.word s (g * 4503599627370496 + f)) = s := sg_word s (by omega)
        have hok := (mul_pow_ok' pow_zero_one (x := Ieee.double.word s (g * 4503599627370496 + f)) (nan_word s (by rw [hI]; omega))).1
        have hmu := mul_up' (j := 0) pow_zero_one (x := Ieee.double.word s (g * 4503599627370496 + f)) (by rw [hrg, hI]; omega) (by rw [hrg]; omega) (r := g * 4503599627370496 + f) (by omega) (by rw [hI]; omega) (by rw [hrg]; simp)
        rw [if_pos hok, hmu, hsg]
        rfl
theorem impl_l0_ev (s : Bool) (u : Nat) (hu : u % 2 = 1) : ∀ (b : Nat) (e : Int), u * 2 ^ b < 2 ^ 62 → -10000 ≤ e → e + b ≤ 10000 → Ev (fun k => impl_PartsOf.l0 k e (sgn s (u * 2 ^ b))) (sgn s u, e + b, true)
  | 0, e, hb, h1, h2 => by
    refine Ev.step (f := fun _ => some (sgn s u, e + (0 : Nat), true)) (fun k => ?_) (Ev.now _)
    simp only [impl_PartsOf.l0]
    rw [Nat.pow_zero, Nat.mul_one, if_neg (by rw [sgn_tmod]; omega)]
    simp
  | b + 1, e, hb, h1, h2 => by
    have e1 : u * 2 ^ (b + 1) = 2 * (u * 2 ^ b) := by rw [Nat.pow_succ]; simp only [Nat.mul_comm, Nat.mul_left_comm]
    have h62 : (2 : Nat) ^ 62 = 4611686018427387904 := by decide
    have ih := impl_l0_ev s u hu b (e + 1) (by omega) (by omega) (by omega)
    rw [show e + 1 + (b : Int) = e + ((b + 1 : Nat) : Int) from by omega] at ih
    refine Ev.step (fun k => ?_) ih
    simp only [impl_PartsOf.l0]
    rw [e1, if_pos (by rw [sgn_tmod]; omega), sgn_tdiv, wrap_id (n := e + 1) (by omega) (by omega), wrap_id]
    · unfold sgn; split <;> omega
    · unfold sgn; split <;> omega
/-- The parts of a number that is finite and not nought. -/
theorem impl_parts_ev {x u q : Nat} {s : Bool} (h : St x s u q) (hu : u % 2 = 1) (hu1 : u < 9007199254740992) (hq : q < T98) : Ev (fun k => impl_PartsOf.f k x) (sgn s u, (q : Int) - E74, true) := by
  have hT := T98_eq
  have hE := E74_eq
  obtain ⟨f, b, e, hf, hm, heb, he1, he2, hb, hfr⟩ := frexp_ev h hu hu1 hq
  have hk : ∃ v, impl_KindOf.f x = some v ∧ (v = 3 ∨ v = 4) := by
    refine ⟨_, impl_kind h.lt, ?_⟩
    unfold kindN
    rw [h.nan, if_neg (by simp), if_neg (by have := h.fin; omega), if_neg (by have := h.pos; omega)]
    split <;> simp
  obtain ⟨v, hv, hv34⟩ := hk
  have hld : math_Ldexp.f (Ieee.double.word s (1022 * 4503599627370496 + f)) 53 = some (Ieee.double.word s (1075 * 4503599627370496 + f)) := by
    rw [ldexp_norm (e := 1022) rfl (by omega) (by omega) hf 53 (by omega)]
    unfold ldN
    rw [if_neg (by decide), if_neg (by decide), if_neg (by decide)]
    rfl
  have hI : INF = 9218868437227405312 := rfl
  have hrg : rg (Ieee.double.word s (1075 * 4503599627370496 + f)) = 1075 * 4503599627370496 + f := rg_word s (by omega)
  have hsg : sg (Ieee.double.word s (1075 * 4503599627370496 + f)) = s := sg_word s (by omega)
  have hfin : rg (Ieee.double.word s (1075 * 4503599627370496 + f)) < INF := by rw [hrg, hI]; omega
  have hwh : whole (Ieee.double.word s (1075 * 4503599627370496 + f)) = u * 2 ^ b := by
    unfold whole
    rw [hrg, val_norm (by omega) hf, show (1075 - 1 : Nat) = E74 from rfl, Nat.mul_div_cancel _ (Nat.two_pow_pos _), hm]
  have hfi := fint_eq hfin (by rw [hwh, ← hm]; omega)
  have hsw : swhole (Ieee.double.word s (1075 * 4503599627370496 + f)) = sgn s (u * 2 ^ b) := by
    unfold swhole sgn; rw [hsg, hwh]
  have hL := impl_l0_ev s u hu b (e - 53) (by rw [← hm, show (2 : Nat) ^ 62 = 4611686018427387904 from by decide]; omega) (by omega) (by omega)
  rw [show e - 53 + (b : Int) = (q : Int) - (E74 : Int) from by omega] at hL
  have hj : Ev (fun k => impl_PartsOf.j0 k x false) (sgn s u, (q : Int) - E74, true) := by
    refine Ev.step (f := fun k => (math_Frexp.f k x).bind fun w => (math_Ldexp.f w.1 53).bind fun y => if fintOk y = true then impl_PartsOf.l0 k (wrap64 (w.2 - 53)) (fint y) else none) (fun k => by simp only [impl_PartsOf.j0]; rw [if_neg (by simp)]) ?_
    refine Ev.bind hfr (Ev.bind (Ev.const hld) (Ev.ite_pos hfi.1 ?_))
    rw [wrap_id (n := e - 53) (by omega) (by omega), hfi.2, hsw]
    exact hL
  refine Ev.congr (fun k => by simp only [impl_PartsOf.f]; rw [hv, Option.bind_some]) ?_
  rcases hv34 with rfl | rfl
  · exact Ev.ite_pos rfl hj
  · exact Ev.ite_neg (by decide) hj
theorem up_any : ∀ (n x : Nat), n ≤ 2000 → isNan x = false → x < 18446744073709551616 → ∃ y, Ev (fun k => spec_l1Scaled.l0 k x (n : Int)) y ∧ isNan y = false ∧ y < 18446744073709551616
  | 0, x, hn, h1, h2 => by
    refine ⟨x, Ev.step (f := fun k => spec_l1Scaled.l1 k x ((0 : Nat) : Int)) (fun k => ?_) (Ev.step (f := fun _ => some x) (fun k => ?_) (Ev.now _)), h1, h2⟩
    · simp only [spec_l1Scaled.l0]; rw [if_neg (by omega)]
    · simp only [spec_l1Scaled.l1]; rw [if_neg (by omega)]
  | n + 1, x, hn, h1, h2 => by
    have hm := mul_pow_ok pow_two h1
    obtain ⟨y, hy, g1, g2⟩ := up_any n _ (by omega) hm.2.1 hm.2.2
    refine ⟨y, Ev.step (fun k => ?_) hy, g1, g2⟩
    simp only [spec_l1Scaled.l0]
    rw [if_pos (by omega), if_pos hm.1, show wrap64 (((n + 1 : Nat) : Int) - 1) = (n : Int) from by rw [wrap_id] <;> omega]
theorem down_any : ∀ (n x : Nat), n ≤ 2000 → isNan x = false → x < 18446744073709551616 → ∃ y, Ev (fun k => spec_l1Scaled.l1 k x (-(n : Int))) y ∧ isNan y = false ∧ y < 18446744073709551616
  | 0, x, hn, h1, h2 => by
    refine ⟨x, Ev.step (f := fun _ => some x) (fun k => ?_) (Ev.now _), h1, h2⟩
    simp only [spec_l1Scaled.l1]; rw [if_neg (by omega)]
  | n + 1, x, hn, h1, h2 => by
    have hm := half_ok h1
    obtain ⟨y, hy, g1, g2⟩ := down_any n _ (by omega) hm.2.1 hm.2.2
    refine ⟨y, Ev.step (fun k => ?_) hy, g1, g2⟩
    simp only [spec_l1Scaled.l1]
    rw [if_pos (by omega), if_pos hm.1, show wrap64 (-((n + 1 : Nat) : Int) + 1) = -(n : Int) from by rw [wrap_id] <;> omega]
theorem scaled_any (x : Nat) (n : Int) (hn : -2000 ≤ n ∧ n ≤ 2000) (h1 : isNan x = false) (h2 : x < 18446744073709551616) : ∃ y, Ev (fun k => spec_l1Scaled.f k x n) y ∧ isNan y = false ∧ y < 18446744073709551616 := by
  by_cases h : 0 ≤ n
  · obtain ⟨m, rfl⟩ : ∃ m : Nat, n = (m : Int) := ⟨n.toNat, by omega⟩
    exact up_any m x (by omega) h1 h2
  · obtain ⟨m, rfl⟩ : ∃ m : Nat, n = -(m : Int) := ⟨(-n).toNat, by omega⟩
    obtain ⟨y, hy, g⟩ := down_any m x (by omega) h1 h2
    refine ⟨y, Ev.step (fun k => ?_) hy, g⟩
    simp only [spec_l1Scaled.f, spec_l1Scaled.l0]; rw [if_neg (by omega)]
theorem up_st (s : Bool) (u : Nat) (hu0 : 0 < u) (hu : u < 9007199254740992) : ∀ (n t x : Nat), n ≤ 2000 → St x s u t → u * 2 ^ (t + n) < 2 ^ T98 → ∃ y, Ev (fun k => spec_l1Scaled.l0 k x (n : Int)) y ∧ St y s u (t + n)
  | 0, t, x, hn, h, ht => by
    refine ⟨x, Ev.step (f := fun k => spec_l1Scaled.l1 k x ((0 : Nat) : Int)) (fun k => ?_) (Ev.step (f := fun _ => some x) (fun k => ?_) (Ev.now _)), h⟩
    · simp only [spec_l1Scaled.l0]; rw [if_neg (by omega)]
    · simp only [spec_l1Scaled.l1]; rw [if_neg (by omega)]
  | n + 1, t, x, hn, h, ht => by
    have hle : u * 2 ^ (t + 1) ≤ u * 2 ^ (t + (n + 1)) := Nat.mul_le_mul_left _ (Nat.pow_le_pow_right (by omega) (by omega))
    have hm := h.double hu0 hu (Nat.lt_of_le_of_lt hle ht)
    obtain ⟨y, hy, g⟩ := up_st s u hu0 hu n (t + 1) _ (by omega) hm.2 (by rw [show t + 1 + n = t + (n + 1) from by omega]; exact ht)
    rw [show t + 1 + n = t + (n + 1) from by omega] at g
    refine ⟨y, Ev.step (fun k => ?_) hy, g⟩
    simp only [spec_l1Scaled.l0]
    rw [if_pos (by omega), if_pos hm.1, show wrap64 (((n + 1 : Nat) : Int) - 1) = (n : Int) from by rw [wrap_id] <;> omega]
theorem down_st (s : Bool) (u : Nat) (hu0 : 0 < u) (hu : u < 9007199254740992) : ∀ (n t x : Nat), n ≤ 2000 → St x s u (t + n) → ∃ y, Ev (fun k => spec_l1Scaled.l1 k x (-(n : Int))) y ∧ St y s u t
  | 0, t, x, hn, h => by
    refine ⟨x, Ev.step (f := fun _ => some x) (fun k => ?_) (Ev.now _), h⟩
    simp only [spec_l1Scaled.l1]; rw [if_neg (by omega)]
  | n + 1, t, x, hn, h => by
    have hm := St.half (t := t + n) h hu0 hu
    obtain ⟨y, hy, g⟩ := down_st s u hu0 hu n t _ (by omega) hm.2
    refine ⟨y, Ev.step (fun k => ?_) hy, g⟩
    simp only [spec_l1Scaled.l1]
    rw [if_pos (by omega), if_pos hm.1, show wrap64 (-((n + 1 : Nat) : Int) + 1) = -(n : Int) from by rw [wrap_id] <;> omega]
theorem scaled_st {x s u t} (hu0 : 0 < u) (hu : u < 9007199254740992) (h : St x s u t) (n : Int) (hn : -2000 ≤ n ∧ n ≤ 2000) (q : Nat) (hq : (q : Int) = t + n) (ht : u * 2 ^ q < 2 ^ T98) : ∃ y, Ev (fun k => spec_l1Scaled.f k x n) y ∧ St y s u q := by
  by_cases hc : 0 ≤ n
  · obtain ⟨m, rfl⟩ : ∃ m : Nat, n = (m : Int) := ⟨n.toNat, by omega⟩
    have e : q = t + m := by omega
    subst e
    exact up_st s u hu0 hu m t x (by omega) h ht
  · obtain ⟨m, rfl⟩ : ∃ m : Nat, n = -(m : Int) := ⟨(-n).toNat, by omega⟩
    have e : t = q + m := by omega
    subst e
    obtain ⟨y, hy, g⟩ := down_st s u hu0 hu m q x (by omega) h
    refine ⟨y, Ev.step (fun k => ?_) hy, g⟩
    simp only [spec_l1Scaled.f, spec_l1Scaled.l0]; rw [if_neg (by omega)]
theorem sgn_inj {s s' : Bool} {u u' : Nat} (hu : u % 2 = 1) (hu' : u' % 2 = 1) (h : sgn s u = sgn s' u') : s = s' ∧ u = u' := by
  unfold sgn at h
  cases s <;> cases s' <;> simp at h ⊢ <;> omega
theorem St.unique {x y u q : Nat} {s : Bool} (h : St x s u q) (g : St y s u q) : x = y := by
  have hr : rg x = rg y := val_inj.mp (h.val.trans g.val.symm)
  have ex := split_word h.lt
  have ey := split_word g.lt
  rw [h.sg] at ex
  rw [g.sg] at ey
  omega
theorem st_cases {x : Nat} (h : isNan x = false) (hx : x < 18446744073709551616) : rg x = INF ∨ rg x = 0 ∨ ∃ u q, u % 2 = 1 ∧ u < 9007199254740992 ∧ q < T98 ∧ St x (sg x) u q := by
  have hle : ¬ INF < rg x := of_decide_eq_false h
  by_cases hi : rg x = INF
  · exact .inl hi
  · by_cases hz : rg x = 0
    · exact .inr (.inl hz)
    · exact .inr (.inr (st_of hx (by omega) (by omega)))
/-- Whether an odd number times a power of two is a double. -/
def Rep (u : Nat) (n : Int) : Prop := ∃ q : Nat, (q : Int) = n + 1074 ∧ u * 2 ^ q < 2 ^ T98
theorem fofi_st (s : Bool) (u : Nat) (hu0 : 0 < u) (hu : u < 9007199254740992) : St (fofi (sgn s u)) s u E74 := by
  have hab : (sgn s u).natAbs = u := by unfold sgn; split <;> omega
  have hne : sgn s u ≠ 0 := by unfold sgn; split <;> omega
  obtain ⟨r, hr0, hr, hv, he⟩ := fofi_eq (sgn s u) hne (by omega)
  have hs : decide (sgn s u < 0) = s := by unfold sgn; cases s <;> simp <;> omega
  rw [he, hs]
  rw [hab] at hv
  exact st_word s hr0 hr hv
theorem zero_feq {x : Nat} (h : isNan x = false) : feq x 0 = decide (rg x = 0) := by
  rw [feq_eq h nan_zero, key_zero, decide_eq_decide]; exact key_rg_zero
/-- What the spec makes of a number of its kind. -/
theorem spec_end (s : Bool) (u : Nat) (hu : u % 2 = 1) (hu1 : u < 9007199254740992) (n : Int) (hn : -1200 ≤ n ∧ n ≤ 1200) (y : Nat) (h1 : isNan y = false) (h2 : y < 18446744073709551616)
    (hy : Ev (fun k => spec_l1Scaled.f k (fofi (sgn s u)) n) y) :
    (∀ q : Nat, (q : Int) = n + 1074 → St y s u q → Ev (fun k => spec_NumOf.j0 k (sgn s u) n false) (y, true)) ∧ (¬ Rep u n → Ev (fun k => spec_NumOf.j0 k (sgn s u) n false) (0, false)) := by
  have hE := E74_eq
  have hj0 : ∀ k, spec_NumOf.j0 (k+1) (sgn s u) n false = (spec_l1Scaled.f k (fofi (sgn s u)) n).bind fun t => if rg t = INF then spec_NumOf.j1 k (sgn s u) n t true else spec_NumOf.j1 k (sgn s u) n t (feq t 0) := by
    intro k
    simp only [spec_NumOf.j0]
    rw [if_neg (by simp)]
    congr 1
    funext t
    rw [inf_eq, Option.bind_some]
    simp only [decide_eq_true_eq]
  have htrue : ∀ t, Ev (fun k => spec_NumOf.j1 k (sgn s u) n t true) (0, false) := fun t => Ev.step (f := fun _ => some (0, false)) (fun k => by simp only [spec_NumOf.j1]; rw [if_pos trivial]) (Ev.now _)
  have hfin : ∀ (s' : Bool) (u' q' : Nat), u' % 2 = 1 → u' < 9007199254740992 → q' < T98 → St y s' u' q' → Ev (fun k => spec_NumOf.j0 k (sgn s u) n false) (if sgn s' u' = sgn s u ∧ (q' : Int) - E74 = n then (y, true) else (0, false)) := by
    intro s' u' q' hu' hu1' hq' hst
    refine Ev.step hj0 (Ev.bind hy (Ev.ite_neg (by have := hst.fin; omega) ?_))
    rw [zero_feq h1, decide_eq_false (by have := hst.pos; omega)]
    refine Ev.step (f := fun k => (spec_l1Parts.f k y).bind fun b => if b.1 = sgn s u then (if b.2 = n then some (y, true) else some (0, false)) else some (0, false)) (fun k => by simp only [spec_NumOf.j1]; rw [if_neg (by simp)]) ?_
    refine Ev.bind (parts_ev hst hu' hu1' hq') ?_
    simp only
    by_cases c1 : sgn s' u' = sgn s u
    · by_cases c2 : (q' : Int) - E74 = n
      · have e0 : (if sgn s' u' = sgn s u ∧ (q' : Int) - E74 = n then (y, true) else (0, false)) = (y, true) := if_pos ⟨c1, c2⟩
        rw [e0]; exact Ev.ite_pos c1 (Ev.ite_pos c2 (Ev.now _))
      · have e0 : (if sgn s' u' = sgn s u ∧ (q' : Int) - E74 = n then (y, true) else (0, false)) = (0, false) := if_neg (fun w => c2 w.2)
        rw [e0]; exact Ev.ite_pos c1 (Ev.ite_neg c2 (Ev.now _))
    · have e0 : (if sgn s' u' = sgn s u ∧ (q' : Int) - E74 = n then (y, true) else (0, false)) = (0, false) := if_neg (fun w => c1 w.1)
      rw [e0]; exact Ev.ite_neg c1 (Ev.now _)
  constructor
  · intro q hq hst
    have hqT : q < T98 := by
      have h3 := hst.top
      have h4 : 2 ^ q ≤ u * 2 ^ q := Nat.le_mul_of_pos_left _ (by omega)
      exact (Nat.pow_lt_pow_iff_right (by omega)).mp (Nat.lt_of_le_of_lt h4 h3)
    have r := hfin s u q hu hu1 hqT hst
    rw [if_pos ⟨rfl, by omega⟩] at r
    exact r
  · intro hR
    rcases st_cases h1 h2 with hi | hz | ⟨u', q', hu', hu1', hq', hst⟩
    · exact Ev.step hj0 (Ev.bind hy (Ev.ite_pos hi (htrue y)))
    · refine Ev.step hj0 (Ev.bind hy (Ev.ite_neg (by rw [hz]; decide) ?_))
      rw [zero_feq h1, decide_eq_true hz]
      exact htrue y
    · have r := hfin _ u' q' hu' hu1' hq' hst
      rw [if_neg] at r
      · exact r
      · rintro ⟨c1, c2⟩
        have := sgn_inj hu' hu c1
        exact hR ⟨q', by omega, by rw [← this.2]; exact hst.top⟩
theorem ldN_ok (s : Bool) (e f : Nat) (n : Int) (he : e ≤ 2046) (hf : f < 4503599627370496) : isNan (ldN s e f n) = false ∧ ldN s e f n < 18446744073709551616 := by
  have hI : INF = 9218868437227405312 := rfl
  unfold ldN
  split
  · exact ⟨nan_word s (by omega), word_lt s (by omega)⟩
  · split
    · exact ⟨nan_word s (by omega), word_lt s (by omega)⟩
    · split
      · have := mul_pow_ok' pow_m53 (x := Ieee.double.word s ((n + (e : Int) + 53).toNat * 4503599627370496 + f)) (nan_word s (by omega))
        exact this.2
      · exact ⟨nan_word s (by omega), word_lt s (by omega)⟩
/-- Where the number is a double, ldexp gives it. -/
theorem ldN_st (s : Bool) (u : Nat) (hu : u % 2 = 1) (hu1 : u < 9007199254740992) (n : Int) (q : Nat) (hq : (q : Int) = n + 1074) (ht : u * 2 ^ q < 2 ^ T98) (e f : Nat) (he1 : 1 ≤ e) (heE : e - 1 ≤ E74) (hf : f < 4503599627370496) (hm : 4503599627370496 + f = u * 2 ^ (E74 - (e - 1))) :
    St (ldN s e f n) s u q := by
  have hE := E74_eq
  have hT := T98_eq
  have hI : INF = 9218868437227405312 := rfl
  have hb : E74 - (e - 1) ≤ 52 := by
    apply Classical.byContradiction
    intro hc
    have h1 : (2 : Nat) ^ 53 ≤ 2 ^ (E74 - (e - 1)) := Nat.pow_le_pow_right (by omega) (by omega)
    have h2 : 2 ^ (E74 - (e - 1)) ≤ u * 2 ^ (E74 - (e - 1)) := Nat.le_mul_of_pos_left _ (by omega)
    have h3 : (2 : Nat) ^ 53 = 9007199254740992 := by decide
    omega
  have hup : n + (e : Int) ≤ 2046 := by
    apply Classical.byContradiction
    intro hc
    obtain ⟨d, hd⟩ : ∃ d, q = (E74 - (e - 1)) + d ∧ 2046 ≤ d := ⟨q - (E74 - (e - 1)), by omega, by omega⟩
    rw [hd.1, Nat.pow_add, ← Nat.mul_assoc, ← hm] at ht
    have h4 : 2 ^ 52 * 2 ^ d ≤ (4503599627370496 + f) * 2 ^ d := Nat.mul_le_mul_right _ (by rw [show (2 : Nat) ^ 52 = 4503599627370496 from by decide]; omega)
    rw [← Nat.pow_add] at h4
    have h5 : 52 + d < T98 := (Nat.pow_lt_pow_iff_right (by omega)).mp (Nat.lt_of_le_of_lt h4 ht)
    omega
  unfold ldN
  rw [if_neg (by omega), if_neg (by omega)]
  by_cases c : n + ((e : Int) - 1023) < -1022
  · rw [if_pos c]
    obtain ⟨g, hg⟩ : ∃ g : Nat, n + (e : Int) + 53 = (g : Int) := ⟨(n + (e : Int) + 53).toNat, by omega⟩
    rw [hg, Int.toNat_natCast]
    have hrg : rg (Ieee.double.word s (g * 4503599627370496 + f)) = g * 4503599627370496 + f := rg_word s (by omega)
    have hsg : sg (Ieee.double.word s (g * 4503599627370496 + f)) = s := sg_word s (by omega)
    obtain ⟨r, hr0, hr, hv⟩ := rung_of (q := q) (by omega) hu1 ht
    have hval : val (g * 4503599627370496 + f) = u * 2 ^ q * 2 ^ 53 := by
      rw [val_norm (by omega) hf, hm, Nat.mul_assoc, Nat.mul_assoc, ← Nat.pow_add, ← Nat.pow_add]
      congr 2
      omega
    have hmd := mul_down' (j := 53) pow_m53 (x := Ieee.double.word s (g * 4503599627370496 + f)) (by rw [hrg]; omega) (by rw [hrg]; omega) hr0 hr (by rw [hrg, hval, hv])
    rw [hmd, hsg]
    exact st_word s hr0 hr hv
  · rw [if_neg c]
    obtain ⟨g, hg⟩ : ∃ g : Nat, n + (e : Int) = (g : Int) := ⟨(n + (e : Int)).toNat, by omega⟩
    rw [hg, Int.toNat_natCast]
    refine st_word s (by omega) (by omega) ?_
    rw [val_norm (by omega) hf, hm, Nat.mul_assoc, ← Nat.pow_add]
    congr 2
    omega
theorem impl_end (s : Bool) (u : Nat) (hu : u % 2 = 1) (hu1 : u < 9007199254740992) (n : Int) (hn : -1200 ≤ n ∧ n ≤ 1200) :
    (∀ q : Nat, (q : Int) = n + 1074 → u * 2 ^ q < 2 ^ T98 → ∃ y, St y s u q ∧ Ev (fun k => impl_NumOf.j0 k (sgn s u) n false) (y, true)) ∧ (¬ Rep u n → Ev (fun k => impl_NumOf.j0 k (sgn s u) n false) (0, false)) := by
  have hE := E74_eq
  have hI : INF = 9218868437227405312 := rfl
  have hst0 := fofi_st s u (by omega) hu1
  have hnorm : 4503599627370496 ≤ rg (fofi (sgn s u)) := by
    apply Classical.byContradiction
    intro hc
    have h1 : val (rg (fofi (sgn s u))) = rg (fofi (sgn s u)) := by unfold MIeee.val; rw [if_pos (by omega)]
    have h2 := hst0.val
    rw [h1] at h2
    have h3 : (2 : Nat) ^ 52 ≤ 2 ^ E74 := Nat.pow_le_pow_right (by omega) (by omega)
    have h4 : 2 ^ E74 ≤ u * 2 ^ E74 := Nat.le_mul_of_pos_left _ (by omega)
    have h5 : (2 : Nat) ^ 52 = 4503599627370496 := by decide
    omega
  obtain ⟨e, f, he1, he2, hf, er, heE, hm⟩ := fields hst0 hu hnorm
  have hw : fofi (sgn s u) = Ieee.double.word s (e * 4503599627370496 + f) := by
    have := word_of hst0.lt
    rw [hst0.sg, er] at this
    exact this
  have hld := ldexp_norm hw he1 he2 hf n (by omega)
  have hok := ldN_ok s e f n he2 hf
  have hj0 : ∀ k, impl_NumOf.j0 (k+1) (sgn s u) n false = (impl_PartsOf.f k (ldN s e f n)).bind fun b => if b.2.2 = true then (if b.1 = sgn s u then (if b.2.1 = n then some (ldN s e f n, true) else some (0, false)) else some (0, false)) else some (0, false) := by
    intro k
    simp only [impl_NumOf.j0]
    rw [if_neg (by simp), hld, Option.bind_some]
  have hfin : ∀ (s' : Bool) (u' q' : Nat), u' % 2 = 1 → u' < 9007199254740992 → q' < T98 → St (ldN s e f n) s' u' q' → Ev (fun k => impl_NumOf.j0 k (sgn s u) n false) (if sgn s' u' = sgn s u ∧ (q' : Int) - E74 = n then (ldN s e f n, true) else (0, false)) := by
    intro s' u' q' hu' hu1' hq' hst
    refine Ev.step hj0 (Ev.bind (impl_parts_ev hst hu' hu1' hq') (Ev.ite_pos rfl ?_))
    simp only
    by_cases c1 : sgn s' u' = sgn s u
    · by_cases c2 : (q' : Int) - E74 = n
      · have e0 : (if sgn s' u' = sgn s u ∧ (q' : Int) - E74 = n then (ldN s e f n, true) else (0, false)) = (ldN s e f n, true) := if_pos ⟨c1, c2⟩
        rw [e0]; exact Ev.ite_pos c1 (Ev.ite_pos c2 (Ev.now _))
      · have e0 : (if sgn s' u' = sgn s u ∧ (q' : Int) - E74 = n then (ldN s e f n, true) else (0, false)) = (0, false) := if_neg (fun w => c2 w.2)
        rw [e0]; exact Ev.ite_pos c1 (Ev.ite_neg c2 (Ev.now _))
    · have e0 : (if sgn s' u' = sgn s u ∧ (q' : Int) - E74 = n then (ldN s e f n, true) else (0, false)) = (0, false) := if_neg (fun w => c1 w.1)
      rw [e0]; exact Ev.ite_neg c1 (Ev.now _)
  constructor
  · intro q hq ht
    have hst := ldN_st s u hu hu1 n q hq ht e f he1 heE hf hm
    have hqT : q < T98 := by
      have h4 : 2 ^ q ≤ u * 2 ^ q := Nat.le_mul_of_pos_left _ (by omega)
      exact (Nat.pow_lt_pow_iff_right (by omega)).mp (Nat.lt_of_le_of_lt h4 ht)
    have r := hfin s u q hu hu1 hqT hst
    rw [if_pos ⟨rfl, by omega⟩] at r
    exact ⟨_, hst, r⟩
  · intro hR
    have hno : (rg (ldN s e f n) = INF ∨ rg (ldN s e f n) = 0) → Ev (fun k => impl_PartsOf.f k (ldN s e f n)) (0, 0, false) := by
      intro hz
      have hk : kindN (ldN s e f n) < 3 := by
        unfold kindN
        rw [hok.1, if_neg (by simp)]
        rcases hz with hz | hz
        · rw [if_pos hz]; omega
        · rw [hz, if_neg (by decide), if_pos rfl]; omega
      refine Ev.congr (fun k => by simp only [impl_PartsOf.f]; rw [impl_kind hok.2, Option.bind_some]) ?_
      refine Ev.ite_neg (by omega) ?_
      have e4 : (kindN (ldN s e f n) != 4) = true := by simp; omega
      rw [e4]
      refine Ev.step (f := fun _ => some (0, 0, false)) (fun k => ?_) (Ev.now _)
      simp only [impl_PartsOf.j0]; rw [if_pos trivial]
    rcases st_cases hok.1 hok.2 with hi | hz | ⟨u', q', hu', hu1', hq', hst⟩
    · exact Ev.step hj0 (Ev.bind (hno (.inl hi)) (Ev.ite_neg (by simp) (Ev.now _)))
    · exact Ev.step hj0 (Ev.bind (hno (.inr hz)) (Ev.ite_neg (by simp) (Ev.now _)))
    · have r := hfin _ u' q' hu' hu1' hq' hst
      rw [if_neg] at r
      · exact r
      · rintro ⟨c1, c2⟩
        have := sgn_inj hu' hu c1
        exact hR ⟨q', by omega, by rw [← this.2]; exact hst.top⟩
theorem l1In_dec (a b c : Int) : spec_l1In.f a b c = some (decide (b ≤ a ∧ a ≤ c)) := by
  unfold spec_l1In.f
  by_cases h : b ≤ a
  · rw [if_pos h]; simp [h]
  · rw [if_neg h]; simp [h]
theorem in_dec (a b c : Int) : impl_in.f a b c = some (decide (b ≤ a ∧ a ≤ c)) := l1In_dec a b c
theorem num_same (man n : Int) : ∃ y b, y < 18446744073709551616 ∧ Ev (fun k => spec_NumOf.f k man n) (y, b) ∧ Ev (fun k => impl_NumOf.f k man n) (y, b) := by
  have hst : Ev (fun k => spec_NumOf.j0 k man n true) (0, false) := Ev.step (f := fun _ => some (0, false)) (fun k => by simp only [spec_NumOf.j0]; rw [if_pos trivial]) (Ev.now _)
  have hit : Ev (fun k => impl_NumOf.j0 k man n true) (0, false) := Ev.step (f := fun _ => some (0, false)) (fun k => by simp only [impl_NumOf.j0]; rw [if_pos trivial]) (Ev.now _)
  simp only [spec_NumOf.f, impl_NumOf.f, l1In_dec, in_dec, Option.bind_some, decide_eq_true_eq]
  by_cases h1 : Int.tmod man 2 = 0
  · exact ⟨0, false, by omega, Ev.ite_pos h1 hst, Ev.ite_pos h1 hit⟩
  · by_cases h2 : -9007199254740991 ≤ man ∧ man ≤ 9007199254740991
    · by_cases h3 : -1200 ≤ n ∧ n ≤ 1200
      · obtain ⟨s, u, hman, hu1⟩ : ∃ (s : Bool) (u : Nat), man = sgn s u ∧ u < 9007199254740992 := by
          by_cases hneg : man < 0
          · exact ⟨true, man.natAbs, by unfold sgn; simp; omega, by omega⟩
          · exact ⟨false, man.natAbs, by unfold sgn; simp; omega, by omega⟩
        subst hman
        have hu : u % 2 = 1 := by rw [sgn_tmod] at h1; omega
        have hx := fofi_st s u (by omega) hu1
        obtain ⟨y0, hy0, g1, g2⟩ := scaled_any (fofi (sgn s u)) n (by omega) hx.nan hx.lt
        have hS := spec_end s u hu hu1 n h3 y0 g1 g2 hy0
        have hI := impl_end s u hu hu1 n h3
        have e : (!decide (-1200 ≤ n ∧ n ≤ 1200)) = false := by simp [h3]
        by_cases hR : Rep u n
        · obtain ⟨q, hq, ht⟩ := hR
          obtain ⟨y, hyE, hySt⟩ := scaled_st (by omega) hu1 hx n (by omega) q (by have := E74_eq; omega) ht
          have hyy : y0 = y := Ev.unique hy0 hyE
          subst hyy
          obtain ⟨z, hz, hzE⟩ := hI.1 q hq ht
          have := hySt.unique hz
          subst this
          refine ⟨y0, true, g2, Ev.ite_neg h1 (Ev.ite_pos h2 ?_), Ev.ite_neg h1 (Ev.ite_pos h2 ?_)⟩
          · rw [e]; exact hS.1 q hq hySt
          · rw [e]; exact hzE
        · refine ⟨0, false, by omega, Ev.ite_neg h1 (Ev.ite_pos h2 ?_), Ev.ite_neg h1 (Ev.ite_pos h2 ?_)⟩
          · rw [e]; exact hS.2 hR
          · rw [e]; exact hI.2 hR
      · have e : (!decide (-1200 ≤ n ∧ n ≤ 1200)) = true := by simp; omega
        refine ⟨0, false, by omega, Ev.ite_neg h1 (Ev.ite_pos h2 ?_), Ev.ite_neg h1 (Ev.ite_pos h2 ?_)⟩
        · rw [e]; exact hst
        · rw [e]; exact hit
    · exact ⟨0, false, by omega, Ev.ite_neg h1 (Ev.ite_neg h2 hst), Ev.ite_neg h1 (Ev.ite_neg h2 hit)⟩
theorem sameFloat_ev {x y : Nat} (hx : x < 18446744073709551616) (hy : y < 18446744073709551616) : Ev (fun k => laws_sameFloat.f k x y) (if isNan x = true then isNan y else decide (isNan y = false ∧ x = y)) := by
  simp only [laws_sameFloat.f, feq_self]
  cases hn : isNan x with
  | true =>
    rw [if_pos rfl]
    refine Ev.ite_neg (by simp) (Ev.step (f := fun _ => some (isNan y)) (fun k => ?_) (Ev.now _))
    simp only [laws_sameFloat.j0, feq_self, hn]; rw [if_pos trivial, if_neg (by simp)]; cases isNan y <;> rfl
  | false =>
    rw [if_neg (by simp)]
    refine Ev.ite_pos rfl ?_
    refine Ev.step (f := fun _ => some (decide (isNan y = false ∧ x = y))) (fun k => ?_) (Ev.now _)
    simp only [laws_sameFloat.j0, feq_self, hn]
    cases hm : isNan y with
    | true => simp
    | false =>
      rw [if_neg (by simp), feq_eq hn nan_zero, feq_eq hm nan_zero, feq_eq hn hm, key_zero]
      simp only [decide_eq_true_eq, true_and]
      by_cases h0 : key x = 0
      · rw [if_pos h0]
        by_cases h1 : key y = 0
        · rw [if_pos h1]
          rcases zero_cases hx (key_rg_zero.mp h0) with rfl | rfl <;> rcases zero_cases hy (key_rg_zero.mp h1) with rfl | rfl
          · rw [if_pos inv_pz.1, if_pos inv_pz.1, inv_pz.2.2]; rfl
          · rw [if_pos inv_pz.1, if_pos inv_nz.1, inv_pz.2.2, inv_nz.2.2]; rfl
          · rw [if_pos inv_nz.1, if_pos inv_pz.1, inv_pz.2.2, inv_nz.2.2]; rfl
          · rw [if_pos inv_nz.1, if_pos inv_nz.1, inv_nz.2.2]; rfl
        · rw [if_neg h1]
          congr 1
          rw [decide_eq_decide]
          exact ⟨fun q => absurd (q ▸ h0) h1, fun q => by rw [q]⟩
      · rw [if_neg h0]
        congr 1
        rw [decide_eq_decide]
        exact ⟨fun q => key_inj hx hy (fun z => h0 (key_rg_zero.mpr z)) q, fun q => by rw [q]⟩
theorem sameFloat_refl (x : Nat) (hx : x < 18446744073709551616) : Ev (fun k => laws_sameFloat.f k x x) true := by
  have h := sameFloat_ev hx hx
  cases hn : isNan x <;> rw [hn] at h <;> simpa using h
/-! ### Texts -/
/-- A text out of its bytes. -/
def bs (l : List UInt8) : ByteArray := ⟨l.toArray⟩
theorem bs_size (l : List UInt8) : (bs l).size = l.length := by simp [bs, ByteArray.size]
theorem cat_bs (a b : List UInt8) : cat (bs a) (bs b) = bs (a ++ b) := by
  apply ByteArray.ext
  show (bs a ++ bs b).data = _
  rw [ByteArray.data_append]
  simp [bs]
theorem catOk_bs {a b : List UInt8} (h : a.length + b.length ≤ 9223372036854775807) : catOk (bs a) (bs b) = true := catOk_of (by rw [bs_size, bs_size]; exact h)
theorem bt_bs (w : List UInt8) (i : Nat) (h : i < w.length) : bt (bs w) (i : Int) = ((w[i]).toNat : Int) := by
  unfold bt
  rw [dif_pos (by rw [bs_size]; simpa using h)]
  rfl
theorem data_bs (w : List UInt8) : (bs w).data.toList = w := by simp [bs]
/-! ### Decimal digits -/
theorem u8_digit (c : UInt8) (h : 48 ≤ c.toNat ∧ c.toNat ≤ 57) : UInt8.ofNat (48 + (c.toNat - 48)) = c := by
  have : 48 + (c.toNat - 48) = c.toNat := by omega
  rw [this]
  exact UInt8.ofNat_toNat
theorem u8_48 {c : UInt8} (h : c.toNat = 48) : c = 48 := UInt8.toNat_inj.1 (by rw [h]; rfl)
theorem of_digit {d : Nat} (h : d < 10) : (UInt8.ofNat (48 + d)).toNat = 48 + d := by
  rw [UInt8.toNat_ofNat']
  omega
theorem dec_snoc (n d : Nat) (hn : 0 < n) (hd : d < 10) : Lib.decDigits (10 * n + d) = Lib.decDigits n ++ [UInt8.ofNat (48 + d)] := by
  have h1 : (10 * n + d) / 10 = n := by omega
  have h2 : (10 * n + d) % 10 = d := by omega
  rw [Lib.decDigits, dif_neg (by omega), h1, h2]
/-- The value of digits behind a value; none where one is no digit. -/
def dgo : Nat → List UInt8 → Option Nat
  | n, [] => some n
  | n, x :: r => if 48 ≤ x.toNat ∧ x.toNat ≤ 57 then dgo (10 * n + (x.toNat - 48)) r else none
theorem dgo_dec : ∀ (r : List UInt8) (n m : Nat), 0 < n → dgo n r = some m → Lib.decDigits m = Lib.decDigits n ++ r
  | [], n, m, _, h => by
    simp only [dgo, Option.some.injEq] at h
    subst h
    simp
  | x :: r, n, m, hn, h => by
    unfold dgo at h
    by_cases c : 48 ≤ x.toNat ∧ x.toNat ≤ 57
    · rw [if_pos c] at h
      rw [dgo_dec r _ m (by omega) h, dec_snoc n (x.toNat - 48) hn (by omega), u8_digit x c, List.append_assoc]
      rfl
    · rw [if_neg c] at h; cases h
theorem dgo_le : ∀ (r : List UInt8) (n m : Nat), dgo n r = some m → n ≤ m
  | [], n, m, h => by simp only [dgo, Option.some.injEq] at h; omega
  | x :: r, n, m, h => by
    unfold dgo at h
    by_cases c : 48 ≤ x.toNat ∧ x.toNat ≤ 57
    · rw [if_pos c] at h
      have := dgo_le r _ m h
      omega
    · rw [if_neg c] at h; cases h
theorem dgo_digits : ∀ (r : List UInt8) (n m : Nat), dgo n r = some m → ∀ x ∈ r, 48 ≤ x.toNat ∧ x.toNat ≤ 57
  | [], _, _, _, x, hx => by cases hx
  | y :: r, n, m, h, x, hx => by
    unfold dgo at h
    by_cases c : 48 ≤ y.toNat ∧ y.toNat ≤ 57
    · rw [if_pos c] at h
      rcases List.mem_cons.1 hx with rfl | hx
      · exact c
      · exact dgo_digits r _ m h x hx
    · rw [if_neg c] at h; cases h
theorem dgo_snoc : ∀ (l : List UInt8) (a m : Nat) (x : UInt8), dgo a l = some m → 48 ≤ x.toNat ∧ x.toNat ≤ 57 → dgo a (l ++ [x]) = some (10 * m + (x.toNat - 48))
  | [], a, m, x, h, hx => by
    simp only [dgo, Option.some.injEq] at h
    subst h
    simp only [List.nil_append, dgo]
    rw [if_pos hx]
  | y :: l, a, m, x, h, hx => by
    unfold dgo at h
    by_cases c : 48 ≤ y.toNat ∧ y.toNat ≤ 57
    · rw [if_pos c] at h
      rw [List.cons_append]
      unfold dgo
      rw [if_pos c]
      exact dgo_snoc l _ m x h hx
    · rw [if_neg c] at h; cases h
theorem dgo_of_dec (n : Nat) : dgo 0 (Lib.decDigits n) = some n := by
  induction n using Nat.strongRecOn with
  | ind n ih =>
    by_cases h : n < 10
    · rw [Lib.decDigits_one h]
      simp only [dgo]
      rw [of_digit h, if_pos (by omega)]
      congr 1
      omega
    · have hd : Lib.decDigits n = Lib.decDigits (n / 10) ++ [UInt8.ofNat (48 + n % 10)] := by rw [Lib.decDigits, dif_neg h]
      have hm : n % 10 < 10 := by omega
      rw [hd, dgo_snoc _ 0 (n / 10) _ (ih (n / 10) (by omega)) (by rw [of_digit hm]; omega), of_digit hm]
      congr 1
      omega
theorem dec_ne (n : Nat) : Lib.decDigits n ≠ [] := by
  rw [Lib.decDigits]
  split <;> simp
theorem dec_head (n : Nat) (h0 : 0 < n) : (Lib.decDigits n).head? ≠ some 48 := by
  induction n using Nat.strongRecOn with
  | ind n ih =>
    by_cases h : n < 10
    · rw [Lib.decDigits_one h]
      intro q
      simp only [List.head?_cons, Option.some.injEq] at q
      have := of_digit h
      rw [q] at this
      have e : (48 : UInt8).toNat = 48 := rfl
      omega
    · have hd : Lib.decDigits n = Lib.decDigits (n / 10) ++ [UInt8.ofNat (48 + n % 10)] := by rw [Lib.decDigits, dif_neg h]
      have ih' := ih (n / 10) (by omega) (by omega)
      rw [hd]
      cases hq : Lib.decDigits (n / 10) with
      | nil => exact absurd hq (dec_ne _)
      | cons y ys => rw [hq] at ih'; simpa using ih'
theorem dec_len3 {n : Nat} (h : n ≤ 999) : (Lib.decDigits n).length ≤ 3 := by
  by_cases h1 : n < 10
  · rw [Lib.decDigits_one h1]; simp
  · by_cases h2 : n < 100
    · rw [Lib.decDigits_two h1 h2]; simp
    · rw [Lib.decDigits, dif_neg h1]
      have h3 : n / 10 < 100 := by omega
      have h4 : ¬ n / 10 < 10 := by omega
      rw [Lib.decDigits_two h4 h3]
      simp
/-- A number in its one form. -/
def oneForm (w : List UInt8) : Option Nat := if w = [] ∨ 16 < w.length ∨ (w.head? = some 48 ∧ 1 < w.length) then none else dgo 0 w
theorem oneForm_dec {w : List UInt8} {m : Nat} (h : oneForm w = some m) : w = Lib.decDigits m := by
  unfold oneForm at h
  split at h
  · cases h
  · rename_i hc
    cases w with
    | nil => exact absurd (Or.inl rfl) hc
    | cons x r =>
      unfold dgo at h
      by_cases c : 48 ≤ x.toNat ∧ x.toNat ≤ 57
      · rw [if_pos c] at h
        by_cases z : x.toNat = 48
        · have hx := u8_48 z
          have hr : r = [] := by
            have : ¬ 1 < (x :: r).length := fun q => hc (Or.inr (Or.inr ⟨by rw [hx]; rfl, q⟩))
            simp only [List.length_cons] at this
            exact List.length_eq_zero_iff.mp (by omega)
          subst hr
          rw [z] at h
          simp only [dgo, Option.some.injEq] at h
          have : m = 0 := by omega
          subst this
          rw [Lib.decDigits_one (by omega), hx]
          rfl
        · have := dgo_dec r _ m (by omega) h
          rw [this, show 10 * 0 + (x.toNat - 48) = x.toNat - 48 by omega, Lib.decDigits_one (by omega), u8_digit x c]
          rfl
      · rw [if_neg c] at h; cases h
theorem oneForm_of {n : Nat} (h : n ≤ 999) : oneForm (Lib.decDigits n) = some n := by
  unfold oneForm
  have hl := dec_len3 h
  rw [if_neg, dgo_of_dec]
  rintro (q | q | ⟨q1, q2⟩)
  · exact dec_ne n q
  · omega
  · by_cases h0 : 0 < n
    · exact dec_head n h0 q1
    · obtain rfl : n = 0 := by omega
      rw [Lib.decDigits_one (by omega)] at q2
      simp at q2
theorem pow_bound {i n : Nat} (hi : i < 16) (h : n < 10 ^ i) : n < 1000000000000000 := by
  have : (10 : Nat) ^ i ≤ 10 ^ 15 := Nat.pow_le_pow_right (by omega) (by omega)
  have e : (10 : Nat) ^ 15 = 1000000000000000 := by decide
  omega
theorem digits_loop (w : List UInt8) (hw : w.length ≤ 16) : ∀ (d i n : Nat), i + d = w.length → n < 10 ^ i → Ev (fun k => spec_l1Digits.l0 k (bs w) (n : Int) (i : Int)) ((dgo n (w.drop i)).elim (-1) (fun m => (m : Int)))
  | 0, i, n, h, _ => by
    rw [List.drop_eq_nil_of_le (by omega)]
    refine Ev.step (f := fun _ => some (n : Int)) (fun k => ?_) (Ev.now _)
    simp only [spec_l1Digits.l0]
    rw [if_neg (by rw [bs_size]; omega)]
  | d + 1, i, n, h, hn => by
    have hi : i < w.length := by omega
    have hb := pow_bound (by omega) hn
    rw [List.drop_eq_getElem_cons hi]
    have hbt := bt_bs w i hi
    unfold dgo
    by_cases c : 48 ≤ (w[i]).toNat ∧ (w[i]).toNat ≤ 57
    · rw [if_pos c]
      refine Ev.step (fun k => ?_) (digits_loop w hw d (i + 1) (10 * n + ((w[i]).toNat - 48)) (by omega) (by rw [Nat.pow_succ]; omega))
      simp only [spec_l1Digits.l0]
      have e : wrap64 ((wrap64 (10 * (n : Int))) + (((((w[i]).toNat : Int)) - 48) % 256)) = ((10 * n + ((w[i]).toNat - 48) : Nat) : Int) := by
        rw [wrap_id (n := 10 * (n : Int)) (by omega) (by omega)]
        rw [wrap_id] <;> omega
      rw [if_pos (by rw [bs_size]; omega), if_pos (by omega), hbt, if_neg (by omega), if_neg (by omega), e, wrap_id (n := (i : Int) + 1) (by omega) (by omega)]
      rfl
    · rw [if_neg c]
      refine Ev.step (f := fun _ => some (-1)) (fun k => ?_) (Ev.now _)
      simp only [spec_l1Digits.l0]
      rw [if_pos (by rw [bs_size]; omega), if_pos (by omega), hbt]
      by_cases c1 : ((w[i]).toNat : Int) < 48
      · rw [if_pos c1]
      · rw [if_neg c1, if_pos (by omega)]
theorem digits_ev (w : List UInt8) : Ev (fun k => spec_l1Digits.f k (bs w)) ((oneForm w).elim (-1) (fun m => (m : Int))) := by
  have hT : Ev (fun k => spec_l1Digits.j0 k (bs w) true) (-1) := Ev.step (f := fun _ => some (-1)) (fun k => by simp only [spec_l1Digits.j0]; rw [if_pos trivial]) (Ev.now _)
  simp only [spec_l1Digits.f, bs_size]
  unfold oneForm
  by_cases h0 : w.length = 0
  · have : w = [] := List.length_eq_zero_iff.mp h0
    rw [if_pos (Or.inl this)]
    exact Ev.ite_pos (by omega) hT
  · refine Ev.ite_neg (by omega) ?_
    by_cases h1 : 16 < w.length
    · rw [if_pos (Or.inr (Or.inl h1))]
      exact Ev.ite_pos (by omega) hT
    · refine Ev.ite_neg (by omega) (Ev.ite_pos (by omega) ?_)
      have hl := digits_loop w (by omega) w.length 0 0 (by omega) (by simp)
      rw [List.drop_zero] at hl
      have hF : Ev (fun k => spec_l1Digits.j0 k (bs w) false) ((dgo 0 w).elim (-1) (fun m => (m : Int))) := Ev.step (fun k => by simp only [spec_l1Digits.j0]; rw [if_neg (by simp)]; rfl) hl
      have hne : w ≠ [] := fun q => h0 (by rw [q]; rfl)
      cases w with
      | nil => exact absurd rfl hne
      | cons x r =>
        have hb := bt_bs (x :: r) 0 (by simp)
        have hb' : bt (bs (x :: r)) 0 = (x.toNat : Int) := hb
        by_cases hx : x.toNat = 48
        · refine Ev.ite_pos (by rw [hb', hx]; rfl) ?_
          by_cases h2 : 1 < (x :: r).length
          · rw [if_pos (Or.inr (Or.inr ⟨by rw [u8_48 hx]; rfl, h2⟩)), decide_eq_true (by omega)]
            exact hT
          · rw [if_neg, decide_eq_false (by omega)]
            · exact hF
            · rintro (q | q | ⟨_, q⟩)
              · exact hne q
              · omega
              · omega
        · refine Ev.ite_neg (by rw [hb']; omega) ?_
          rw [if_neg]
          · exact hF
          · rintro (q | q | ⟨q, _⟩)
            · exact hne q
            · omega
            · simp only [List.head?_cons, Option.some.injEq] at q
              rw [q] at hx
              exact hx rfl
theorem parse_of_dgo : ∀ (l : List UInt8) (a m : Nat), dgo a l = some m → m ≤ 999 → Lib.parseUint10 a l = .ok m
  | [], a, m, h, _ => by
    simp only [dgo, Option.some.injEq] at h
    subst h
    rfl
  | x :: r, a, m, h, hm => by
    have hle := dgo_le _ _ _ h
    unfold dgo at h
    by_cases c : 48 ≤ x.toNat ∧ x.toNat ≤ 57
    · rw [if_pos c] at h
      have hle2 := dgo_le _ _ _ h
      unfold Lib.parseUint10
      rw [if_pos c, if_neg (by omega), if_neg (by omega), Nat.mul_comm a 10]
      exact parse_of_dgo r _ m h hm
    · rw [if_neg c] at h; cases h
theorem atoi_dec {n : Nat} (h : n ≤ 999) : Go.Proofs.YtpfbiopcfbokbaaDoor.MRead.atoiN (Lib.decDigits n) = ((n : Int), true) := by
  have hp := parse_of_dgo _ 0 n (dgo_of_dec n) h
  have hd := dgo_digits _ 0 n (dgo_of_dec n)
  have hne := dec_ne n
  unfold Go.Proofs.YtpfbiopcfbokbaaDoor.MRead.atoiN
  have e : Lib.atoiAll (Lib.decDigits n) = .ok (n : Int) := by
    generalize hw : Lib.decDigits n = w at hp hd hne
    cases w with
    | nil => exact absurd rfl hne
    | cons x r =>
      have hx := hd x List.mem_cons_self
      have hpm : Lib.parseMag (x :: r) = .ok n := by unfold Lib.parseMag; rw [if_neg (by simp)]; exact hp
      unfold Lib.atoiAll
      simp only
      rw [if_neg (by omega), hpm]
      simp only
      rw [if_neg (by omega), if_neg (by omega), if_neg (by omega)]
  rw [e]
theorem read_ok {n : Nat} (h : n ≤ 999) : Go.Proofs.YtpfbiopcfbokbaaDoor.MRead.readN (bs (Lib.decDigits n)) 999 = ((n : Int), true) := by
  unfold Go.Proofs.YtpfbiopcfbokbaaDoor.MRead.readN
  rw [data_bs, atoi_dec h]
  simp only [Lib.itoa_nonneg, decide_true, Bool.and_self, Bool.true_and]
  rw [decide_eq_true (by omega)]
theorem read_bad {w : List UInt8} (h : ∀ n, n ≤ 999 → w ≠ Lib.decDigits n) : (Go.Proofs.YtpfbiopcfbokbaaDoor.MRead.readN (bs w) 999).2 = false := by
  unfold Go.Proofs.YtpfbiopcfbokbaaDoor.MRead.readN
  rw [data_bs]
  generalize Go.Proofs.YtpfbiopcfbokbaaDoor.MRead.atoiN w = q
  cases hb : (q.2 && decide (Lib.itoa q.1 = w) && decide (0 ≤ q.1 ∧ q.1 ≤ 999)) with
  | false => rfl
  | true =>
    simp only [Bool.and_eq_true, decide_eq_true_eq] at hb
    obtain ⟨⟨_, h1⟩, h2⟩ := hb
    exfalso
    apply h q.1.toNat (by omega)
    have e : q.1 = ((q.1.toNat : Nat) : Int) := by omega
    have e2 : Lib.itoa q.1 = Lib.decDigits q.1.toNat := by
      conv => lhs; rw [e]
      rw [Lib.itoa_nonneg]
    rw [← h1, e2]
theorem cut_bs (l : List UInt8) (i j : Nat) : cutS (bs l) i j = bs ((l.take j).drop i) := by
  apply ByteArray.ext
  unfold cutS
  rw [ByteArray.data_extract]
  apply Array.toList_inj.1
  rw [Array.toList_extract]
  simp [bs, List.extract_eq_take_drop, List.drop_take]
/-! what the library's index says of one byte -/
theorem occ_iff (l : List UInt8) (b : UInt8) (i : Nat) : Lib.occAt l [b] i = true ↔ l[i]? = some b := by
  constructor
  · exact fun h => Lib.occAt_head rfl h
  · intro h
    have hi : i < l.length := (List.getElem?_eq_some_iff.1 h).1
    have e : l[i] = b := (List.getElem?_eq_some_iff.1 h).2
    unfold Lib.occAt
    rw [List.drop_eq_getElem_cons hi, e]
    simp [List.isPrefixOf]
theorem index_byte (l : List UInt8) (b : UInt8) : (Lib.index l [b] = -1 ∧ b ∉ l) ∨ ∃ a r, l = a ++ b :: r ∧ b ∉ a ∧ Lib.index l [b] = (a.length : Int) := by
  rcases Lib.index_spec l [b] with ⟨h1, h2⟩ | ⟨i, h1, h2, h3, h4⟩
  · refine Or.inl ⟨h1, fun hm => ?_⟩
    obtain ⟨j, hj, e⟩ := List.getElem_of_mem hm
    have := (occ_iff l b j).2 (by rw [List.getElem?_eq_getElem hj, e])
    rw [h2 j (by omega)] at this
    cases this
  · have hib := (occ_iff l b i).1 h3
    have hi : i < l.length := (List.getElem?_eq_some_iff.1 hib).1
    have e : l[i] = b := (List.getElem?_eq_some_iff.1 hib).2
    refine Or.inr ⟨l.take i, l.drop (i + 1), ?_, fun hm => ?_, by rw [h1, List.length_take]; omega⟩
    · rw [← e, ← List.drop_eq_getElem_cons hi, List.take_append_drop]
    · obtain ⟨j, hj, ej⟩ := List.mem_take_iff_getElem.1 hm
      have := (occ_iff l b j).2 (by rw [List.getElem?_eq_getElem (by omega), ej])
      have h5 := h4 j (by omega)
      rw [h5] at this
      cases this
/-! ### Parts at a byte -/
/-- The parts that a text falls into at a byte; p stands ahead of the first. -/
def gl (b : UInt8) : List UInt8 → List UInt8 → List (List UInt8)
  | p, [] => [p]
  | p, x :: r => if x = b then p :: gl b [] r else gl b (p ++ [x]) r
theorem gl_miss (b : UInt8) : ∀ (l p : List UInt8), b ∉ l → gl b p l = [p ++ l]
  | [], p, _ => by simp [gl]
  | x :: r, p, h => by
    have h1 : x ≠ b := fun e => h (e ▸ List.mem_cons_self)
    unfold gl
    rw [if_neg h1, gl_miss b r _ (fun q => h (List.mem_cons_of_mem _ q)), List.append_assoc]
    rfl
theorem gl_hit (b : UInt8) : ∀ (a p r : List UInt8), b ∉ a → gl b p (a ++ b :: r) = (p ++ a) :: gl b [] r
  | [], p, r, _ => by simp [gl]
  | x :: a, p, r, h => by
    have h1 : x ≠ b := fun e => h (e ▸ List.mem_cons_self)
    rw [List.cons_append]
    conv => lhs; unfold gl
    rw [if_neg h1, gl_hit b a _ r (fun q => h (List.mem_cons_of_mem _ q)), List.append_assoc]
    rfl
theorem gl_pos (b : UInt8) : ∀ (l p : List UInt8), 0 < (gl b p l).length
  | [], p => by simp [gl]
  | x :: r, p => by
    unfold gl
    split
    · simp
    · exact gl_pos b r _
theorem gl_lens (b : UInt8) : ∀ (l p : List UInt8), Lib.lens (gl b p l) + (gl b p l).length = p.length + l.length + 1
  | [], p => by simp [gl, Lib.lens]
  | x :: r, p => by
    unfold gl
    split
    · have := gl_lens b r []
      simp only [Lib.lens, List.map_cons, List.sum_cons, List.length_cons, List.length_nil] at this ⊢
      omega
    · have := gl_lens b r (p ++ [x])
      simp only [List.length_append, List.length_cons, List.length_nil] at this ⊢
      omega
theorem gl_mem (b : UInt8) : ∀ (l p : List UInt8) (x : UInt8), (x ∈ p ∨ x ∈ l) → x ≠ b → ∃ q ∈ gl b p l, x ∈ q
  | [], p, x, h, hx => ⟨p, by simp [gl], by simpa using h⟩
  | y :: r, p, x, h, hx => by
    unfold gl
    split
    · rename_i e
      rcases h with h | h
      · exact ⟨p, List.mem_cons_self, h⟩
      · rcases List.mem_cons.1 h with rfl | h
        · exact absurd e hx
        · obtain ⟨q, h1, h2⟩ := gl_mem b r [] x (Or.inr h) hx
          exact ⟨q, List.mem_cons_of_mem _ h1, h2⟩
    · refine gl_mem b r (p ++ [y]) x ?_ hx
      rcases h with h | h
      · exact Or.inl (List.mem_append_left _ h)
      · rcases List.mem_cons.1 h with rfl | h
        · exact Or.inl (by simp)
        · exact Or.inr h
theorem gl_le (b : UInt8) (l p : List UInt8) : (gl b p l).length ≤ p.length + l.length + 1 := by have := gl_lens b l p; omega
theorem spec_split (b : UInt8) (l : List UInt8) (hl : l.length ≤ 1048576) : ∀ (d i from_ : Nat) (acc : List ByteArray), i + d = l.length → from_ ≤ i → acc.length ≤ i →
    Ev (fun k => spec_l1Split.l0 k (bs l) (b.toNat : Int) acc (from_ : Int) (i : Int)) (acc ++ (gl b ((l.take i).drop from_) (l.drop i)).map bs)
  | 0, i, from_, acc, h, hf, ha => by
    rw [List.drop_eq_nil_of_le (show l.length ≤ i by omega)]
    refine Ev.step (f := fun _ => some (acc ++ (gl b ((l.take i).drop from_) []).map bs)) (fun k => ?_) (Ev.now _)
    simp only [spec_l1Split.l0, bs_size]
    have e : l.take i = l.take l.length := by rw [List.take_of_length_le (by omega), List.take_of_length_le (by omega)]
    rw [if_neg (by omega), if_pos (by omega), if_pos (by omega), if_pos (by omega), Int.toNat_natCast, cut_bs, e]
    rfl
  | d + 1, i, from_, acc, h, hf, ha => by
    have hi : i < l.length := by omega
    have hbt := bt_bs l i hi
    rw [List.drop_eq_getElem_cons hi]
    unfold gl
    by_cases c : l[i] = b
    · rw [if_pos c]
      have ih := spec_split b l hl d (i + 1) (i + 1) (acc ++ [bs ((l.take i).drop from_)]) (by omega) (by omega) (by simp; omega)
      have e0 : (l.take (i + 1)).drop (i + 1) = [] := List.drop_eq_nil_of_le (by simp; omega)
      rw [e0, List.append_assoc] at ih
      refine Ev.step (fun k => ?_) ih
      simp only [spec_l1Split.l0, bs_size]
      rw [if_pos (by omega), if_pos (by omega), hbt, if_pos (by rw [c]), if_pos (by omega), if_pos (by omega), if_pos (by omega), if_pos (by omega), wrap_id (n := (i : Int) + 1) (by omega) (by omega), Int.toNat_natCast, Int.toNat_natCast, cut_bs]
      rfl
    · rw [if_neg c]
      have ih := spec_split b l hl d (i + 1) from_ acc (by omega) (by omega) (by omega)
      have e : (l.take (i + 1)).drop from_ = (l.take i).drop from_ ++ [l[i]] := by
        have e1 : l.take (i + 1) = l.take i ++ [l[i]] := by rw [List.take_add_one, List.getElem?_eq_getElem hi]; rfl
        rw [e1, List.drop_append_of_le_length (by simp; omega)]
      rw [e] at ih
      refine Ev.step (fun k => ?_) ih
      simp only [spec_l1Split.l0, bs_size]
      rw [if_pos (by omega), if_pos (by omega), hbt, if_neg (fun q => c (UInt8.toNat_inj.1 (by omega))), wrap_id (n := (i : Int) + 1) (by omega) (by omega)]
      rfl
theorem split_ev (b : UInt8) (n : Int) (hn : n = (b.toNat : Int)) (l : List UInt8) (hl : l.length ≤ 1048576) : Ev (fun k => spec_l1Split.f k (bs l) n) ((gl b [] l).map bs) := by
  subst hn
  have h := spec_split b l hl l.length 0 0 [] (by omega) (by omega) (by simp)
  simpa [spec_l1Split.f] using h
theorem splitK_gl (b : UInt8) : ∀ (n : Nat) (l : List UInt8), l.length ≤ n → Lib.splitK [b] 0 (Lib.count l [b]) l = gl b [] l ∧ (gl b [] l).length = Lib.count l [b] + 1 := by
  intro n
  induction n with
  | zero =>
    intro l hl
    have : l = [] := List.length_eq_zero_iff.mp (by omega)
    subst this
    have : Lib.count [] [b] = 0 := Lib.count_miss (by rfl)
    rw [this]
    simp [Lib.splitK, gl]
  | succ n ih =>
    intro l hl
    rcases index_byte l b with ⟨h1, h2⟩ | ⟨a, r, rfl, h2, h3⟩
    · rw [Lib.count_miss h1, gl_miss b l [] h2]
      simp [Lib.splitK]
    · have hd : (a ++ b :: r).drop (a.length + [b].length) = r := by simp
      have hc := Lib.count_hit (sub := [b]) (by simp) h3
      rw [hd] at hc
      rw [hc, gl_hit b a [] r h2, Nat.add_comm 1]
      obtain ⟨i1, i2⟩ := ih r (by simp at hl; omega)
      unfold Lib.splitK
      have hne : ¬ (Lib.index (a ++ b :: r) [b] == -1) = true := fun e => by have := beq_iff_eq.1 e; omega
      have ht : (Lib.index (a ++ b :: r) [b]).toNat = a.length := by rw [h3]; rfl
      rw [if_neg hne, ht, hd, i1]
      refine ⟨by simp, by simp only [List.length_cons]; omega⟩
theorem splitL_bs (b : UInt8) (l : List UInt8) : Go.Proofs.YtpfbiopcfbokbaaDoor.MRead.splitL (bs l) (bs [b]) = (gl b [] l).map bs ∧ (gl b [] l).length = Lib.countB (bs l) (bs [b]) + 1 := by
  obtain ⟨h1, h2⟩ := splitK_gl b l.length l (Nat.le_refl _)
  have hd := Lib.splitB_data (bs [b]) 0 (Lib.countB (bs l) (bs [b])) (bs l)
  have e1 : (bs [b]).data.toList = [b] := by simp [bs]
  have e2 : (bs l).data.toList = l := by simp [bs]
  have hcb : Lib.countB (bs l) (bs [b]) = Lib.count l [b] := by unfold Lib.countB; rw [e1, e2]
  rw [e1, e2, hcb, h1] at hd
  refine ⟨?_, by rw [hcb]; exact h2⟩
  unfold Go.Proofs.YtpfbiopcfbokbaaDoor.MRead.splitL
  rw [hcb]
  rw [← hd, List.map_map]
  conv => lhs; rw [← List.map_id (Lib.splitB (bs [b]) 0 (Lib.count l [b]) (bs l))]
  apply List.map_congr_left
  intro x _
  apply ByteArray.ext
  simp [bs]
theorem split_now (b : UInt8) (l : List UInt8) (hl : l.length ≤ 1048576) : strings_Split.f (bs l) (bs [b]) = some ((gl b [] l).map bs) := by
  obtain ⟨h1, h2⟩ := splitL_bs b l
  have h3 := gl_le b l []
  unfold strings_Split.f
  rw [if_pos (by rw [bs_size]; omega), if_pos (by rw [bs_size]; simp), h1, if_pos (by rw [List.length_map]; exact h2), if_pos (by simp only [List.length_nil] at h3; omega)]
theorem itoa_now (n : Int) (h0 : -9223372036854775808 ≤ n) (h1 : n ≤ 9223372036854775807) : strconv_Itoa.f n = some (bs (Lib.itoa n)) := by
  unfold strconv_Itoa.f
  rw [if_pos h0, if_pos h1]
  rfl
/-! ### A number's text, read back -/
theorem tl_bs (l : List UInt8) : (bs l).toList = l := by rw [ByteArray.toList_eq]; simp [bs]
theorem num_same' (man n : Int) : ∃ y b, y < 18446744073709551616 ∧ Ev (fun k => spec_NumOf.f k man n) (y, b) ∧ Ev (fun k => impl_NumOf.f k man n) (y, b) ∧ (b = false → y = 0) ∧ (b = true → ∃ s u q, St y s u q ∧ u % 2 = 1 ∧ u < 9007199254740992 ∧ q < T98 ∧ man = sgn s u ∧ n = (q : Int) - E74 ∧ -1200 ≤ n ∧ n ≤ 1200) := by
  have hst : Ev (fun k => spec_NumOf.j0 k man n true) (0, false) := Ev.step (f := fun _ => some (0, false)) (fun k => by simp only [spec_NumOf.j0]; rw [if_pos trivial]) (Ev.now _)
  have hit : Ev (fun k => impl_NumOf.j0 k man n true) (0, false) := Ev.step (f := fun _ => some (0, false)) (fun k => by simp only [impl_NumOf.j0]; rw [if_pos trivial]) (Ev.now _)
  simp only [spec_NumOf.f, impl_NumOf.f, l1In_dec, in_dec, Option.bind_some, decide_eq_true_eq]
  by_cases h1 : Int.tmod man 2 = 0
  · exact ⟨0, false, by omega, Ev.ite_pos h1 hst, Ev.ite_pos h1 hit, fun _ => rfl, fun h => by cases h⟩
  · by_cases h2 : -9007199254740991 ≤ man ∧ man ≤ 9007199254740991
    · by_cases h3 : -1200 ≤ n ∧ n ≤ 1200
      · obtain ⟨s, u, hman, hu1⟩ : ∃ (s : Bool) (u : Nat), man = sgn s u ∧ u < 9007199254740992 := by
          by_cases hneg : man < 0
          · exact ⟨true, man.natAbs, by unfold sgn; simp; omega, by omega⟩
          · exact ⟨false, man.natAbs, by unfold sgn; simp; omega, by omega⟩
        subst hman
        have hu : u % 2 = 1 := by rw [sgn_tmod] at h1; omega
        have hx := fofi_st s u (by omega) hu1
        obtain ⟨y0, hy0, g1, g2⟩ := scaled_any (fofi (sgn s u)) n (by omega) hx.nan hx.lt
        have hS := spec_end s u hu hu1 n h3 y0 g1 g2 hy0
        have hI := impl_end s u hu hu1 n h3
        have e : (!decide (-1200 ≤ n ∧ n ≤ 1200)) = false := by simp [h3]
        by_cases hR : Rep u n
        · obtain ⟨q, hq, ht⟩ := hR
          obtain ⟨y, hyE, hySt⟩ := scaled_st (by omega) hu1 hx n (by omega) q (by have := E74_eq; omega) ht
          have hyy : y0 = y := Ev.unique hy0 hyE
          subst hyy
          obtain ⟨z, hz, hzE⟩ := hI.1 q hq ht
          have := hySt.unique hz
          subst this
          have hqT : q < T98 := by
            have h1 : 2 ^ q ≤ u * 2 ^ q := Nat.le_mul_of_pos_left _ (by omega)
            exact (Nat.pow_lt_pow_iff_right (by omega)).mp (Nat.lt_of_le_of_lt h1 ht)
          refine ⟨y0, true, g2, Ev.ite_neg h1 (Ev.ite_pos h2 ?_), Ev.ite_neg h1 (Ev.ite_pos h2 ?_), (fun h => by cases h), fun _ => ⟨s, u, q, hySt, hu, hu1, hqT, rfl, by have := E74_eq; omega, h3⟩⟩
          · rw [e]; exact hS.1 q hq hySt
          · rw [e]; exact hzE
        · refine ⟨0, false, by omega, Ev.ite_neg h1 (Ev.ite_pos h2 ?_), Ev.ite_neg h1 (Ev.ite_pos h2 ?_), fun _ => rfl, fun h => by cases h⟩
          · rw [e]; exact hS.2 hR
          · rw [e]; exact hI.2 hR
      · have e : (!decide (-1200 ≤ n ∧ n ≤ 1200)) = true := by simp; omega
        refine ⟨0, false, by omega, Ev.ite_neg h1 (Ev.ite_pos h2 ?_), Ev.ite_neg h1 (Ev.ite_pos h2 ?_), fun _ => rfl, fun h => by cases h⟩
        · rw [e]; exact hst
        · rw [e]; exact hit
    · exact ⟨0, false, by omega, Ev.ite_neg h1 (Ev.ite_neg h2 hst), Ev.ite_neg h1 (Ev.ite_neg h2 hit), fun _ => rfl, fun h => by cases h⟩
theorem E74_le' : (E74 : Int) ≤ 2000 ∧ (T98 : Int) ≤ 3000 := by decide
/-- The text of a number that is neither nought nor infinite. -/
theorem text_st {x u q : Nat} {s : Bool} (h : St x s u q) (hu : u % 2 = 1) (hu1 : u < 9007199254740992) (hq : q < T98) : Ev (fun k => impl_NumText.f k x) (bs (Lib.itoa (sgn s u) ++ [112] ++ Lib.itoa ((q : Int) - E74))) := by
  have hik := impl_kind h.lt
  have hI := inf_small
  have hfin := h.fin
  have hpos := h.pos
  have e : kindN x = 3 ∨ kindN x = 4 := by
    unfold kindN
    rw [h.nan, if_neg (by simp), if_neg (by omega), if_neg (by omega)]
    split
    · exact .inl rfl
    · exact .inr rfl
  simp only [impl_NumText.f, hik, Option.bind_some]
  have hE := E74_le'
  have hs1 : -9007199254740992 ≤ sgn s u ∧ sgn s u ≤ 9007199254740992 := by
    unfold sgn
    split <;> omega
  have e112 : (⟨#[112]⟩ : ByteArray) = bs [112] := rfl
  have hl1 := Lib.itoa_length_le (sgn s u) (by omega) (by omega)
  have hl2 := Lib.itoa_length_le ((q : Int) - E74) (by omega) (by omega)
  refine Ev.ite_neg (by omega) (Ev.ite_neg (by omega) (Ev.ite_neg (by omega) (Ev.bind (impl_parts_ev h hu hu1 hq) ?_)))
  rw [e112]
  refine Ev.congr (fun k => by rw [itoa_now (sgn s u) (by omega) (by omega), Option.bind_some]) (Ev.ite_pos (catOk_bs (by simp only [List.length_cons, List.length_nil]; omega)) ?_)
  refine Ev.congr (fun k => by rw [itoa_now ((q : Int) - E74) (by omega) (by omega), Option.bind_some, cat_bs]) (Ev.ite_pos (catOk_bs (by simp only [List.length_append, List.length_cons, List.length_nil]; omega)) ?_)
  rw [cat_bs]
  exact Ev.now _
/-! numbers with a sign -/
theorem dgo_lt : ∀ (r : List UInt8) (n m i : Nat), dgo n r = some m → n < 10 ^ i → m < 10 ^ (i + r.length)
  | [], n, m, i, h, hn => by
    simp only [dgo, Option.some.injEq] at h
    subst h
    simpa using hn
  | x :: r, n, m, i, h, hn => by
    unfold dgo at h
    by_cases c : 48 ≤ x.toNat ∧ x.toNat ≤ 57
    · rw [if_pos c] at h
      have := dgo_lt r _ m (i + 1) h (by rw [Nat.pow_succ]; omega)
      rw [List.length_cons, show i + (r.length + 1) = i + 1 + r.length by omega]
      exact this
    · rw [if_neg c] at h; cases h
theorem one_lt {w : List UInt8} {m : Nat} (h : oneForm w = some m) : m < 10000000000000000 := by
  unfold oneForm at h
  split at h
  · cases h
  · rename_i hc
    have h16 : w.length ≤ 16 := by
      rcases Nat.lt_or_ge 16 w.length with q | q
      · exact absurd (Or.inr (Or.inl q)) hc
      · exact q
    have h1 := dgo_lt w 0 m 0 h (by simp)
    have h2 : (10 : Nat) ^ (0 + w.length) ≤ 10 ^ 16 := Nat.pow_le_pow_right (by omega) (by omega)
    have e : (10 : Nat) ^ 16 = 10000000000000000 := by decide
    omega
theorem dec_len_pow : ∀ (k m : Nat), 0 < k → m < 10 ^ k → (Lib.decDigits m).length ≤ k
  | 0, _, h, _ => by omega
  | k + 1, m, _, h => by
    by_cases c : m < 10
    · rw [Lib.decDigits_one c]; simp
    · rw [Lib.decDigits, dif_neg c, List.length_append]
      have hk : 0 < k := by
        rcases Nat.eq_zero_or_pos k with rfl | q
        · simp at h; omega
        · exact q
      have := dec_len_pow k (m / 10) hk (by rw [Nat.pow_succ] at h; omega)
      simp only [List.length_cons, List.length_nil]
      omega
theorem one_dec {m : Nat} (h : m < 10000000000000000) : oneForm (Lib.decDigits m) = some m := by
  unfold oneForm
  have hl := dec_len_pow 16 m (by omega) (by have e : (10 : Nat) ^ 16 = 10000000000000000 := by decide
                                             omega)
  rw [if_neg, dgo_of_dec]
  rintro (q | q | ⟨q1, q2⟩)
  · exact dec_ne m q
  · omega
  · by_cases h0 : 0 < m
    · exact dec_head m h0 q1
    · obtain rfl : m = 0 := by omega
      rw [Lib.decDigits_one (by omega)] at q2
      simp at q2
def od (w : List UInt8) : Int := (oneForm w).elim (-1) (fun m => (m : Int))
theorem od_lt (w : List UInt8) : -1 ≤ od w ∧ od w < 10000000000000000 := by
  unfold od
  cases h : oneForm w with
  | none => simp
  | some m => have := one_lt h; simp; omega
def sgd : List UInt8 → Int × Bool
  | [] => (-1, false)
  | c :: r => if c.toNat = 45 then (-(od r), decide (od r > 0)) else (od (c :: r), decide (od (c :: r) ≥ 0))
theorem sgd_cons (c : UInt8) (r : List UInt8) : sgd (c :: r) = if c.toNat = 45 then (-(od r), decide (od r > 0)) else (od (c :: r), decide (od (c :: r) ≥ 0)) := rfl
theorem signed_ev (w : List UInt8) (hw : w.length ≤ 1048576) : Ev (fun k => spec_l1Signed.f k (bs w)) (sgd w) := by
  cases w with
  | nil =>
    have hd := digits_ev []
    simp only [spec_l1Signed.f, bs_size]
    refine Ev.ite_neg (by simp) (Ev.step (fun k => by simp only [spec_l1Signed.j0]; rw [if_neg (by simp)]) (Ev.bind hd ?_))
    exact Ev.now _
  | cons c r =>
    have hb : bt (bs (c :: r)) 0 = (c.toNat : Int) := bt_bs (c :: r) 0 (by simp)
    simp only [spec_l1Signed.f, bs_size]
    refine Ev.ite_pos (by simp) (Ev.ite_pos (by simp) ?_)
    rw [hb]
    rw [sgd_cons]
    by_cases h : c.toNat = 45
    · rw [if_pos h, h]
      have hd := digits_ev r
      have hl := od_lt r
      refine Ev.step (f := fun k => (spec_l1Digits.f k (bs r)).bind fun t => some (wrap64 (-t), decide (t > 0))) (fun k => ?_) (Ev.bind hd ?_)
      · simp only [spec_l1Signed.j0, bs_size]
        rw [if_pos (by rfl), if_pos (by simp only [List.length_cons]; omega), cut_bs]
        simp
      · show Ev (fun _ => some (wrap64 (-(od r)), decide (od r > 0))) _
        rw [wrap_id (by omega) (by omega)]
        exact Ev.now _
    · rw [if_neg h]
      have hd := digits_ev (c :: r)
      refine Ev.step (fun k => by simp only [spec_l1Signed.j0]; rw [if_neg (by simp; omega)]) (Ev.bind hd ?_)
      exact Ev.now _
theorem sgd_ok {w : List UInt8} (h : (sgd w).2 = true) : w = Lib.itoa (sgd w).1 ∧ -10000000000000000 < (sgd w).1 ∧ (sgd w).1 < 10000000000000000 := by
  cases w with
  | nil => cases h
  | cons c r =>
    rw [sgd_cons] at h ⊢
    by_cases hc : c.toNat = 45
    · rw [if_pos hc] at h ⊢
      have h0 := of_decide_eq_true h
      unfold od at h0 ⊢
      cases ho : oneForm r with
      | none => rw [ho] at h0; simp at h0
      | some m =>
        rw [ho] at h0
        simp only [Option.elim] at h0 ⊢
        have := one_lt ho
        have ed := oneForm_dec ho
        refine ⟨?_, by omega, by omega⟩
        unfold Lib.itoa
        rw [if_pos (by omega), show (-(m : Int)).natAbs = m by omega, ← ed]
        congr 1
        exact UInt8.toNat_inj.1 (by rw [hc]; rfl)
    · rw [if_neg hc] at h ⊢
      have h0 := of_decide_eq_true h
      unfold od at h0 ⊢
      cases ho : oneForm (c :: r) with
      | none => rw [ho] at h0; simp at h0
      | some m =>
        simp only [Option.elim]
        have := one_lt ho
        have ed := oneForm_dec ho
        refine ⟨?_, by omega, by omega⟩
        rw [Lib.itoa_nonneg]
        exact ed
theorem sgd_itoa {n : Int} (h : -10000000000000000 < n ∧ n < 10000000000000000) : sgd (Lib.itoa n) = (n, true) := by
  unfold Lib.itoa
  by_cases hn : n < 0
  · rw [if_pos hn]
    rw [sgd_cons, if_pos (by rfl)]
    have : od (Lib.decDigits n.natAbs) = (n.natAbs : Int) := by unfold od; rw [one_dec (by omega)]; rfl
    rw [this, decide_eq_true (by omega)]
    congr 1
    omega
  · rw [if_neg hn]
    have ho : od (Lib.decDigits n.toNat) = n := by unfold od; rw [one_dec (by omega)]; simp only [Option.elim]; omega
    have hd := dgo_digits _ 0 n.toNat (dgo_of_dec n.toNat)
    cases hw : Lib.decDigits n.toNat with
    | nil => exact absurd hw (dec_ne _)
    | cons c r =>
      have hc := hd c (by rw [hw]; exact List.mem_cons_self)
      rw [sgd_cons, if_neg (by omega), ← hw, ho, decide_eq_true (by omega)]
theorem parse_dgo : ∀ (l : List UInt8) (a m : Nat), dgo a l = some m → m ≤ 100000000000000000 → Lib.parseUint10 a l = .ok m
  | [], a, m, h, _ => by
    simp only [dgo, Option.some.injEq] at h
    subst h
    rfl
  | x :: r, a, m, h, hm => by
    have hle := dgo_le _ _ _ h
    unfold dgo at h
    by_cases c : 48 ≤ x.toNat ∧ x.toNat ≤ 57
    · rw [if_pos c] at h
      have hle2 := dgo_le _ _ _ h
      unfold Lib.parseUint10
      rw [if_pos c, if_neg (by omega), if_neg (by omega), Nat.mul_comm a 10]
      exact parse_dgo r _ m h hm
    · rw [if_neg c] at h; cases h
theorem atoi_itoa {n : Int} (h : -10000000000000000 < n ∧ n < 10000000000000000) : Go.Proofs.YtpfbiopcfbokbaaDoor.MRead.atoiN (Lib.itoa n) = (n, true) := by
  have key : ∀ m : Nat, m < 10000000000000000 → Lib.parseMag (Lib.decDigits m) = .ok m := by
    intro m hm
    have hp := parse_dgo _ 0 m (dgo_of_dec m) (by omega)
    have hne := dec_ne m
    generalize Lib.decDigits m = w at hp hne
    cases w with
    | nil => exact absurd rfl hne
    | cons x r => unfold Lib.parseMag; rw [if_neg (by simp)]; exact hp
  unfold Go.Proofs.YtpfbiopcfbokbaaDoor.MRead.atoiN
  have e : Lib.atoiAll (Lib.itoa n) = .ok n := by
    unfold Lib.itoa
    by_cases hn : n < 0
    · rw [if_pos hn]
      have hk := key n.natAbs (by omega)
      unfold Lib.atoiAll
      simp only
      rw [if_pos (Or.inr (by rfl)), hk]
      simp only
      rw [if_neg (by simp), if_neg (by omega), if_pos (by rfl)]
      congr 1
      omega
    · rw [if_neg hn]
      have hk := key n.toNat (by omega)
      have hd := dgo_digits _ 0 n.toNat (dgo_of_dec n.toNat)
      cases hw : Lib.decDigits n.toNat with
      | nil => exact absurd hw (dec_ne _)
      | cons x r =>
        have hx := hd x (by rw [hw]; exact List.mem_cons_self)
        rw [hw] at hk
        unfold Lib.atoiAll
        simp only
        rw [if_neg (by omega), hk]
        simp only
        rw [if_neg (by omega), if_neg (by omega), if_neg (by omega)]
        congr 1
        omega
  rw [e]
theorem no_p (n : Int) : (112 : UInt8) ∉ Lib.itoa n := by
  intro hm
  have hdig : ∀ m : Nat, (112 : UInt8) ∉ Lib.decDigits m := by
    intro m hm
    have := dgo_digits _ 0 m (dgo_of_dec m) 112 hm
    exact absurd this.2 (by decide)
  unfold Lib.itoa at hm
  split at hm
  · rcases List.mem_cons.1 hm with q | q
    · exact absurd q (by decide)
    · exact hdig _ q
  · exact hdig _ hm
/-! the two ways -/
theorem spec_miss (l : List UInt8) (hl : l.length ≤ 1048576) (hm : (112 : UInt8) ∉ l ∨ 40 < l.length) : ∀ d i : Nat, i + d = l.length → Ev (fun k => spec_ReadNum.l0 k (bs l) (i : Int)) (0, false)
  | 0, i, h => by
    refine Ev.step (fun k => by simp only [spec_ReadNum.l0, bs_size]; rw [if_neg (by omega)]) ?_
    exact Ev.step (f := fun _ => some (0, false)) (fun k => by simp only [spec_ReadNum.j1]; rw [if_neg (by simp)]) (Ev.now _)
  | d + 1, i, h => by
    have hi : i < l.length := by omega
    have hb := bt_bs l i hi
    refine Ev.step (fun k => by simp only [spec_ReadNum.l0, bs_size]; rw [if_pos (by omega)]) ?_
    by_cases c : (l.length : Int) ≤ 40
    · rw [decide_eq_true c]
      have hne : ¬ bt (bs l) (i : Int) = 112 := by
        rw [hb]
        intro q
        have q2 : l[i] = 112 := UInt8.toNat_inj.1 (by have : (l[i]).toNat = 112 := by omega
                                                      rw [this]; rfl)
        rcases hm with z | z
        · exact z (q2 ▸ List.getElem_mem hi)
        · omega
      refine Ev.step (fun k => ?_) (spec_miss l hl hm d (i + 1) (by omega))
      simp only [spec_ReadNum.j1, bs_size]
      rw [if_pos trivial, if_pos (by omega), if_pos (by omega), if_neg hne, wrap_id (n := (i : Int) + 1) (by omega) (by omega)]
      rfl
    · rw [decide_eq_false c]
      exact Ev.step (f := fun _ => some (0, false)) (fun k => by simp only [spec_ReadNum.j1]; rw [if_neg (by simp)]) (Ev.now _)
theorem spec_hit (a r : List UInt8) (h40 : (a ++ 112 :: r).length ≤ 40) (ha : (112 : UInt8) ∉ a) {R : Nat × Bool}
    (hR : Ev (fun k => if (sgd a).2 = true then (if (sgd r).2 = true then ((spec_NumOf.f k (sgd a).1 (sgd r).1).bind fun bt113 => (some (bt113.1, bt113.2))) else (some (0, false))) else (some (0, false))) R) :
    ∀ d i : Nat, i + d = a.length → Ev (fun k => spec_ReadNum.l0 k (bs (a ++ 112 :: r)) (i : Int)) R
  | 0, i, h => by
    obtain rfl : i = a.length := by omega
    have hi : a.length < (a ++ 112 :: r).length := by simp
    have hb := bt_bs (a ++ 112 :: r) a.length hi
    have hb2 : bt (bs (a ++ 112 :: r)) (a.length : Int) = 112 := by rw [hb]; simp
    have s1 := signed_ev a (by simp at h40; omega)
    have s2 := signed_ev r (by simp at h40; omega)
    have e1 : ((a ++ 112 :: r).take a.length).drop 0 = a := by simp
    have e2 : ((a ++ 112 :: r).take (a ++ 112 :: r).length).drop (a.length + 1) = r := by
      rw [List.take_length, List.drop_append]
      simp
    refine Ev.step (fun k => by simp only [spec_ReadNum.l0, bs_size]; rw [if_pos (by omega), decide_eq_true (by omega)]) ?_
    refine Ev.step (f := fun k => (spec_l1Signed.f k (bs a)).bind fun bt109 => ((spec_l1Signed.f k (bs r)).bind fun bt111 => (if bt109.2 = true then (if bt111.2 = true then ((spec_NumOf.f k bt109.1 bt111.1).bind fun bt113 => (some (bt113.1, bt113.2))) else (some (0, false))) else (some (0, false))))) (fun k => ?_) (Ev.bind s1 (Ev.bind s2 hR))
    have hw : wrap64 ((a.length : Int) + 1) = ((a.length + 1 : Nat) : Int) := by rw [wrap_id] <;> omega
    simp only [spec_ReadNum.j1, bs_size, hb2, hw, Int.toNat_natCast, cut_bs, e1, e2]
    rw [if_pos trivial, if_pos (by omega), if_pos (by omega), if_pos trivial, if_pos (by omega)]
    simp only [if_pos (show (0 : Int) ≤ ((a.length + 1 : Nat) : Int) by omega), if_pos (show ((a.length + 1 : Nat) : Int) ≤ ((a ++ 112 :: r).length : Int) by omega)]
  | d + 1, i, h => by
    have hi : i < (a ++ 112 :: r).length := by simp; omega
    have hb := bt_bs (a ++ 112 :: r) i hi
    have hne : ¬ bt (bs (a ++ 112 :: r)) (i : Int) = 112 := by
      rw [hb]
      intro q
      have e : (a ++ 112 :: r)[i] = a[i] := List.getElem_append_left (by omega)
      rw [e] at q
      have q2 : a[i] = 112 := UInt8.toNat_inj.1 (by have : (a[i]).toNat = 112 := by omega
                                                    rw [this]; rfl)
      exact ha (q2 ▸ List.getElem_mem (by omega))
    refine Ev.step (fun k => by simp only [spec_ReadNum.l0, bs_size]; rw [if_pos (by omega), decide_eq_true (by omega)]) ?_
    refine Ev.step (fun k => ?_) (spec_hit a r h40 ha hR d (i + 1) (by omega))
    simp only [spec_ReadNum.j1, bs_size]
    rw [if_pos trivial, if_pos (by omega), if_pos (by omega), if_neg hne, wrap_id (n := (i : Int) + 1) (by omega) (by omega)]
    rfl
theorem text_lit {x : Nat} {t : List UInt8} (h : ∀ k, impl_NumText.f k x = some (bs t)) (l : List UInt8) (hl : l = t) : Ev (fun k => impl_ReadNum.t k (bs l) x) (x, true) := by
  subst hl
  refine Ev.congr (fun k => ?_) (Ev.now _)
  unfold impl_ReadNum.t
  rw [h, Option.bind_some, if_pos rfl]
theorem nt_kind {x : Nat} (hx : x < 18446744073709551616) (k : Nat) {t : ByteArray} (h : (if kindN x = 0 then some (⟨#[110, 97, 110]⟩ : ByteArray) else if kindN x = 1 then (if flt x 0 = true then some (⟨#[45, 105, 110, 102]⟩ : ByteArray) else some (⟨#[105, 110, 102]⟩ : ByteArray)) else if kindN x = 2 then ((impl_IsMinus.f x).bind fun t148 => (if t148 = true then (some (⟨#[45, 48]⟩ : ByteArray)) else (some (⟨#[48]⟩ : ByteArray)))) else none) = some t) : impl_NumText.f k x = some t := by
  simp only [impl_NumText.f, impl_kind hx, Option.bind_some]
  split at h
  · rename_i c; rw [if_pos c]; exact h
  · rename_i c; rw [if_neg c]
    split at h
    · rename_i c; rw [if_pos c]; exact h
    · rename_i c; rw [if_neg c]
      split at h
      · rename_i c; rw [if_pos c]; exact h
      · cases h
theorem split_unique {b : UInt8} : ∀ {a a' r r' : List UInt8}, b ∉ a → b ∉ a' → a ++ b :: r = a' ++ b :: r' → a = a' ∧ r = r'
  | [], [], r, r', _, _, h => ⟨rfl, by simpa using h⟩
  | [], x :: a', r, r', _, h2, h => by
    simp only [List.nil_append, List.cons_append, List.cons.injEq] at h
    exact absurd (h.1 ▸ List.mem_cons_self) h2
  | x :: a, [], r, r', h1, _, h => by
    simp only [List.nil_append, List.cons_append, List.cons.injEq] at h
    exact absurd (h.1 ▸ List.mem_cons_self) h1
  | x :: a, y :: a', r, r', h1, h2, h => by
    simp only [List.cons_append, List.cons.injEq] at h
    obtain ⟨e1, e2⟩ := split_unique (fun q => h1 (List.mem_cons_of_mem _ q)) (fun q => h2 (List.mem_cons_of_mem _ q)) h.2
    exact ⟨by rw [h.1, e1], e2⟩
theorem t_ev (l : List UInt8) {x u q : Nat} {s : Bool} (h : St x s u q) (hu : u % 2 = 1) (hu1 : u < 9007199254740992) (hq : q < T98) : Ev (fun k => impl_ReadNum.t k (bs l) x) (if Lib.itoa (sgn s u) ++ [112] ++ Lib.itoa ((q : Int) - E74) = l then (x, true) else (0, false)) := by
  have ht := text_st h hu hu1 hq
  unfold impl_ReadNum.t
  refine Ev.bind ht ?_
  rw [tl_bs, tl_bs]
  by_cases c : Lib.itoa (sgn s u) ++ [112] ++ Lib.itoa ((q : Int) - E74) = l
  · simp only [if_pos c]; exact Ev.now _
  · simp only [if_neg c]; exact Ev.now _
/-- What both read, but for the NaN. -/
theorem readnum_same (l : List UInt8) (hl : l.length ≤ 1048576) (hn : l ≠ [110, 97, 110]) : ∃ x b, x < 18446744073709551616 ∧ Ev (fun k => spec_ReadNum.f k (bs l)) (x, b) ∧ Ev (fun k => impl_ReadNum.f k (bs l)) (x, b) := by
  simp only [spec_ReadNum.f, impl_ReadNum.f, tl_bs, bs_size]
  have lit : ∀ t : List UInt8, t.length ≤ 4 → l = t → ¬ (l.length : Int) > 40 := fun t ht e => by rw [e]; omega
  by_cases h1 : l = [105, 110, 102]
  · refine ⟨9218868437227405312, true, by omega, ?_, ?_⟩
    · exact Ev.ite_neg hn (Ev.ite_pos h1 (Ev.ite_pos (by decide +kernel) (Ev.const (by kernel_rfl))))
    · refine Ev.ite_neg (lit _ (by decide) h1) (Ev.ite_neg hn (Ev.ite_pos h1 ?_))
      exact Ev.bind (Ev.const (show math_Inf.f 1 = some 9218868437227405312 from by kernel_rfl)) (text_lit (fun k => nt_kind (by omega) k (by kernel_rfl)) l h1)
  · by_cases h2 : l = [45, 105, 110, 102]
    · refine ⟨18442240474082181120, true, by omega, ?_, ?_⟩
      · exact Ev.ite_neg hn (Ev.ite_neg h1 (Ev.ite_pos h2 (Ev.ite_pos (by decide +kernel) (Ev.const (by kernel_rfl)))))
      · refine Ev.ite_neg (lit _ (by decide) h2) (Ev.ite_neg hn (Ev.ite_neg h1 (Ev.ite_pos h2 ?_)))
        exact Ev.bind (Ev.const (show math_Inf.f (-1) = some 18442240474082181120 from by kernel_rfl)) (text_lit (fun k => nt_kind (by omega) k (by kernel_rfl)) l h2)
    · by_cases h3 : l = [48]
      · refine ⟨0, true, by omega, Ev.ite_neg hn (Ev.ite_neg h1 (Ev.ite_neg h2 (Ev.ite_pos h3 (Ev.now _)))), ?_⟩
        have h4 : ¬ l = [45, 48] := by rw [h3]; decide
        refine Ev.ite_neg (lit _ (by decide) h3) (Ev.ite_neg hn (Ev.ite_neg h1 (Ev.ite_neg h2 (Ev.ite_neg h4 (Ev.ite_pos h3 ?_)))))
        exact text_lit (fun k => nt_kind (by omega) k (by kernel_rfl)) l h3
      · by_cases h4 : l = [45, 48]
        · refine ⟨9223372036854775808, true, by omega, Ev.ite_neg hn (Ev.ite_neg h1 (Ev.ite_neg h2 (Ev.ite_neg h3 (Ev.ite_pos h4 (Ev.const (by kernel_rfl)))))), ?_⟩
          refine Ev.ite_neg (lit _ (by decide) h4) (Ev.ite_neg hn (Ev.ite_neg h1 (Ev.ite_neg h2 (Ev.ite_pos h4 ?_))))
          exact Ev.bind (Ev.const (show math_Copysign.f 0 13830554455654793216 = some 9223372036854775808 from by kernel_rfl)) (text_lit (fun k => nt_kind (by omega) k (by kernel_rfl)) l h4)
        · -- parts
          have hsp : ∀ {R}, Ev (fun k => spec_ReadNum.l0 k (bs l) 0) R → Ev (fun k => if l = [110, 97, 110] then (if fdivOk 0 0 = true then (some (fdiv 0 0, true)) else (none)) else (if l = [105, 110, 102] then (if fdivOk 4607182418800017408 0 = true then (some (fdiv 4607182418800017408 0, true)) else (none)) else (if l = [45, 105, 110, 102] then (if fdivOk 13830554455654793216 0 = true then (some (fdiv 13830554455654793216 0, true)) else (none)) else (if l = [48] then (some (0, true)) else (if l = [45, 48] then (some (fneg 0, true)) else (spec_ReadNum.l0 k (bs l) 0)))))) R := fun h => Ev.ite_neg hn (Ev.ite_neg h1 (Ev.ite_neg h2 (Ev.ite_neg h3 (Ev.ite_neg h4 h))))
          by_cases c40 : (l.length : Int) > 40
          · exact ⟨0, false, by omega, hsp (spec_miss l hl (Or.inr (by omega)) l.length 0 (by omega)), Ev.ite_pos c40 (Ev.now _)⟩
          · have hcut : strings_Cut.f (bs l) (⟨#[112]⟩ : ByteArray) = some (bs (Lib.cut l [112]).1, bs (Lib.cut l [112]).2.1, (Lib.cut l [112]).2.2) := by
              unfold strings_Cut.f
              rw [if_pos (by rw [bs_size]; omega), data_bs]
              rfl
            rw [hcut]
            simp only [Option.bind_some, data_bs]
            rcases index_byte l 112 with ⟨g1, g2⟩ | ⟨a, r, e, g2, g3⟩
            · have hc : Lib.cut l [112] = (l, [], false) := by unfold Lib.cut; rw [if_neg (by omega)]
              rw [hc]
              obtain ⟨y, b, hy, _, hi, _⟩ := num_same' (Go.Proofs.YtpfbiopcfbokbaaDoor.MRead.atoiN l).1 (Go.Proofs.YtpfbiopcfbokbaaDoor.MRead.atoiN []).1
              refine ⟨0, false, by omega, hsp (spec_miss l hl (Or.inl g2) l.length 0 (by omega)), ?_⟩
              refine Ev.ite_neg c40 (Ev.ite_neg hn (Ev.ite_neg h1 (Ev.ite_neg h2 (Ev.ite_neg h4 (Ev.ite_neg h3 (Ev.bind hi ?_))))))
              have e0 : (Go.Proofs.YtpfbiopcfbokbaaDoor.MRead.atoiN []).2 = false := rfl
              rw [e0]
              by_cases q : (Go.Proofs.YtpfbiopcfbokbaaDoor.MRead.atoiN l).2 = true
              · exact Ev.ite_pos q (Ev.ite_neg (by simp) (Ev.now _))
              · exact Ev.ite_neg q (Ev.now _)
            · have hc : Lib.cut l [112] = (a, r, true) := by
                rw [e]
                unfold Lib.cut
                rw [← e, if_pos (by omega), g3, e]
                simp
              rw [hc]
              simp only
              obtain ⟨y, b, hy, hs, hi, hb0, hb⟩ := num_same' (Go.Proofs.YtpfbiopcfbokbaaDoor.MRead.atoiN a).1 (Go.Proofs.YtpfbiopcfbokbaaDoor.MRead.atoiN r).1
              have hhit : ∀ {R}, Ev (fun k => if (sgd a).2 = true then (if (sgd r).2 = true then ((spec_NumOf.f k (sgd a).1 (sgd r).1).bind fun bt113 => (some (bt113.1, bt113.2))) else (some (0, false))) else (some (0, false))) R → Ev (fun k => spec_ReadNum.l0 k (bs l) 0) R := fun h => by
                rw [e]
                exact spec_hit a r (by rw [← e]; omega) g2 h a.length 0 (by omega)
              by_cases hok : (sgd a).2 = true ∧ (sgd r).2 = true
              · obtain ⟨k1, k2⟩ := hok
                obtain ⟨ea, ra⟩ := sgd_ok k1
                obtain ⟨er, rr⟩ := sgd_ok k2
                have ta := atoi_itoa ra
                have tr := atoi_itoa rr
                rw [← ea] at ta
                rw [← er] at tr
                rw [ta, tr] at hs hi hb
                rw [ta, tr]
                simp only at hs hi hb
                refine ⟨y, b, hy, hsp (hhit (Ev.ite_pos k1 (Ev.ite_pos k2 (Ev.bind hs (Ev.now _))))), ?_⟩
                refine Ev.ite_neg c40 (Ev.ite_neg hn (Ev.ite_neg h1 (Ev.ite_neg h2 (Ev.ite_neg h4 (Ev.ite_neg h3 (Ev.bind hi (Ev.ite_pos rfl (Ev.ite_pos rfl ?_))))))))
                cases b with
                | false => rw [hb0 rfl]; exact Ev.ite_neg (by simp) (Ev.now _)
                | true =>
                  obtain ⟨s, u, q, hst, hu, hu1, hq, em, en, _⟩ := hb rfl
                  have ht := t_ev l hst hu hu1 hq
                  rw [← em, ← en, ← ea, ← er, if_pos (by rw [e]; simp)] at ht
                  exact Ev.ite_pos rfl ht
              · have hR : Ev (fun k => if (sgd a).2 = true then (if (sgd r).2 = true then ((spec_NumOf.f k (sgd a).1 (sgd r).1).bind fun bt113 => (some (bt113.1, bt113.2))) else (some (0, false))) else (some (0, false))) ((0, false) : Nat × Bool) := by
                  by_cases k1 : (sgd a).2 = true
                  · exact Ev.ite_pos k1 (Ev.ite_neg (fun k2 => hok ⟨k1, k2⟩) (Ev.now _))
                  · exact Ev.ite_neg k1 (Ev.now _)
                refine ⟨0, false, by omega, hsp (hhit hR), ?_⟩
                refine Ev.ite_neg c40 (Ev.ite_neg hn (Ev.ite_neg h1 (Ev.ite_neg h2 (Ev.ite_neg h4 (Ev.ite_neg h3 (Ev.bind hi ?_))))))
                by_cases q1 : (Go.Proofs.YtpfbiopcfbokbaaDoor.MRead.atoiN a).2 = true
                · refine Ev.ite_pos q1 ?_
                  by_cases q2 : (Go.Proofs.YtpfbiopcfbokbaaDoor.MRead.atoiN r).2 = true
                  · refine Ev.ite_pos q2 ?_
                    cases b with
                    | false => exact Ev.ite_neg (by simp) (Ev.now _)
                    | true =>
                      obtain ⟨s, u, q, hst, hu, hu1, hq, em, en, hn1, hn2⟩ := hb rfl
                      have ht := t_ev l hst hu hu1 hq
                      rw [← em, ← en] at ht
                      have hne : ¬ Lib.itoa (Go.Proofs.YtpfbiopcfbokbaaDoor.MRead.atoiN a).1 ++ [112] ++ Lib.itoa (Go.Proofs.YtpfbiopcfbokbaaDoor.MRead.atoiN r).1 = l := by
                        intro z
                        rw [e, List.append_assoc, List.singleton_append] at z
                        obtain ⟨z1, z2⟩ := split_unique (no_p _) g2 z
                        have hm : -10000000000000000 < (Go.Proofs.YtpfbiopcfbokbaaDoor.MRead.atoiN a).1 ∧ (Go.Proofs.YtpfbiopcfbokbaaDoor.MRead.atoiN a).1 < 10000000000000000 := by
                          rw [em]; unfold sgn; split <;> omega
                        apply hok
                        refine ⟨?_, ?_⟩
                        · rw [← z1, sgd_itoa hm]
                        · rw [← z2, sgd_itoa (by omega)]
                      rw [if_neg hne] at ht
                      exact Ev.ite_pos rfl ht
                  · exact Ev.ite_neg q2 (Ev.now _)
                · exact Ev.ite_neg q1 (Ev.now _)
theorem bs_ex (s : ByteArray) : ∃ l : List UInt8, s = bs l := ⟨s.data.toList, by apply ByteArray.ext; simp [bs]⟩
/-- Two numbers are one: both no number, or the same bits. -/
def same (x y : Nat) : Bool := if isNan x = true then isNan y else decide (isNan y = false ∧ x = y)
theorem math_nan (x : Nat) : math_IsNaN.f x = some (isNan x) := by
  unfold math_IsNaN.f; rw [feq_self]; cases isNan x <;> rfl
theorem impl_same {x y : Nat} : impl_SameNum.f x y = some (same x y) := by
  simp only [impl_SameNum.f, math_nan, Option.bind_some]
  unfold same
  cases hn : isNan x with
  | true =>
    rw [if_pos rfl, if_pos rfl]
    cases hm : isNan y with
    | true => rfl
    | false =>
      rw [if_neg (by simp)]
      congr 1
      rw [beq_eq_false_iff_ne]
      intro q
      have : x = y := by omega
      rw [this, hm] at hn
      cases hn
  | false =>
    rw [if_neg (by simp), if_neg (by simp)]
    congr 1
    rw [Bool.eq_iff_iff, beq_iff_eq, decide_eq_true_eq]
    constructor
    · intro q
      have : x = y := by omega
      exact ⟨this ▸ hn, this⟩
    · rintro ⟨_, rfl⟩; rfl
def one1 (c : Int) : Prop := c = 2 ∨ c = 3 ∨ c = 10 ∨ c = 11 ∨ c = 12 ∨ c = 13 ∨ c = 14 ∨ c = 17
instance (c : Int) : Decidable (one1 c) := by unfold one1; infer_instance
def nm (c : Int) : Int := if one1 c then 1 else if c = 16 then 2 else 0
def us (c : Int) : List UInt8 := if c = 1 then [118] else if one1 c then [97] else if c = 16 then [97, 98] else []
theorem names_ev (c a b : Int) (v : Nat) : Ev (fun k => impl_Op_names.f k c a b v) (nm c) := by
  have hT : ∀ c, Ev (fun k => impl_Op_names.j0 k c true) 1 := fun c => Ev.step (f := fun _ => some 1) (fun k => by simp only [impl_Op_names.j0]; rw [if_pos trivial]) (Ev.now _)
  have hF : Ev (fun k => impl_Op_names.j0 k c false) (if c = 16 then 2 else 0) := Ev.step (f := fun _ => some (if c = 16 then 2 else 0)) (fun k => by simp only [impl_Op_names.j0]; rw [if_neg (by simp)]; split <;> rfl) (Ev.now _)
  unfold nm
  simp only [impl_Op_names.f]
  by_cases h2 : c = 2
  · rw [if_pos (show one1 c from Or.inl h2)]; subst h2; exact Ev.ite_pos rfl (hT _)
  refine Ev.ite_neg h2 ?_
  by_cases h3 : c = 3
  · rw [if_pos (by unfold one1; omega)]; subst h3; exact Ev.ite_pos rfl (hT _)
  refine Ev.ite_neg h3 ?_
  by_cases h10 : c = 10
  · rw [if_pos (by unfold one1; omega)]; subst h10; exact Ev.ite_pos rfl (hT _)
  refine Ev.ite_neg h10 ?_
  by_cases h11 : c = 11
  · rw [if_pos (by unfold one1; omega)]; subst h11; exact Ev.ite_pos rfl (hT _)
  refine Ev.ite_neg h11 ?_
  by_cases h12 : c = 12
  · rw [if_pos (by unfold one1; omega)]; subst h12; exact Ev.ite_pos rfl (hT _)
  refine Ev.ite_neg h12 ?_
  by_cases h13 : c = 13
  · rw [if_pos (by unfold one1; omega)]; subst h13; exact Ev.ite_pos rfl (hT _)
  refine Ev.ite_neg h13 ?_
  by_cases h14 : c = 14
  · rw [if_pos (by unfold one1; omega)]; subst h14; exact Ev.ite_pos rfl (hT _)
  refine Ev.ite_neg h14 ?_
  by_cases h17 : c = 17
  · rw [if_pos (by unfold one1; omega)]; subst h17; exact hT _
  · rw [if_neg (by unfold one1; omega)]
    have e : (c == 17) = false := by simp [h17]
    rw [e]; exact hF
theorem uses_ev (c : Int) : Ev (fun k => spec_l2Uses.f k c) (bs (us c)) := by
  have hT : ∀ c, Ev (fun k => spec_l2Uses.j0 k c true) (bs [97]) := fun c => Ev.step (f := fun _ => some (bs [97])) (fun k => by simp only [spec_l2Uses.j0]; rw [if_pos trivial]; rfl) (Ev.now _)
  have hF : Ev (fun k => spec_l2Uses.j0 k c false) (bs (if c = 16 then [97, 98] else [])) := Ev.step (f := fun _ => some (bs (if c = 16 then [97, 98] else []))) (fun k => by simp only [spec_l2Uses.j0]; rw [if_neg (by simp)]; split <;> rfl) (Ev.now _)
  unfold us
  simp only [spec_l2Uses.f]
  by_cases h1 : c = 1
  · rw [if_pos h1]; exact Ev.ite_pos h1 (Ev.now _)
  rw [if_neg h1]
  refine Ev.ite_neg h1 ?_
  by_cases h2 : c = 2
  · rw [if_pos (show one1 c from Or.inl h2)]; subst h2; exact Ev.ite_pos rfl (hT _)
  refine Ev.ite_neg h2 ?_
  by_cases h3 : c = 3
  · rw [if_pos (by unfold one1; omega)]; subst h3; exact Ev.ite_pos rfl (hT _)
  refine Ev.ite_neg h3 ?_
  by_cases h10 : c = 10
  · rw [if_pos (by unfold one1; omega)]; subst h10; exact Ev.ite_pos rfl (hT _)
  refine Ev.ite_neg h10 ?_
  by_cases h11 : c = 11
  · rw [if_pos (by unfold one1; omega)]; subst h11; exact Ev.ite_pos rfl (hT _)
  refine Ev.ite_neg h11 ?_
  by_cases h12 : c = 12
  · rw [if_pos (by unfold one1; omega)]; subst h12; exact Ev.ite_pos rfl (hT _)
  refine Ev.ite_neg h12 ?_
  by_cases h13 : c = 13
  · rw [if_pos (by unfold one1; omega)]; subst h13; exact Ev.ite_pos rfl (hT _)
  refine Ev.ite_neg h13 ?_
  by_cases h14 : c = 14
  · rw [if_pos (by unfold one1; omega)]; subst h14; exact Ev.ite_pos rfl (hT _)
  refine Ev.ite_neg h14 ?_
  by_cases h17 : c = 17
  · rw [if_pos (by unfold one1; omega)]; subst h17; exact hT _
  · rw [if_neg (by unfold one1; omega)]
    have e : (c == 17) = false := by simp [h17]
    rw [e]; exact hF
theorem cls (c : Int) : (c = 1 ∧ nm c = 0 ∧ us c = [118]) ∨ (c ≠ 1 ∧ nm c = 1 ∧ us c = [97]) ∨ (c ≠ 1 ∧ nm c = 2 ∧ us c = [97, 98]) ∨ (c ≠ 1 ∧ nm c = 0 ∧ us c = []) := by
  unfold nm us
  by_cases h1 : c = 1
  · subst h1; exact Or.inl ⟨rfl, by decide, by decide⟩
  · by_cases h2 : one1 c
    · refine Or.inr (Or.inl ⟨h1, by rw [if_pos h2], by rw [if_neg h1, if_pos h2]⟩)
    · by_cases h3 : c = 16
      · refine Or.inr (Or.inr (Or.inl ⟨h1, by rw [if_neg h2, if_pos h3], by rw [if_neg h1, if_neg h2, if_pos h3]⟩))
      · refine Or.inr (Or.inr (Or.inr ⟨h1, by rw [if_neg h2, if_neg h3], by rw [if_neg h1, if_neg h2, if_neg h3]⟩))
/-- Whether an op is one that is told. -/
def okO (c a b : Int) (v : Nat) : Bool := decide (1 ≤ c ∧ c ≤ 17) && (decide (nm c > 0) || decide (a = 0)) && (decide (nm c > 1) || decide (b = 0)) && (decide (c = 1) || same v 0)
theorem fits_ev (c a b : Int) (v : Nat) (hv : v < 18446744073709551616) : Ev (fun k => impl_Op_fits.f k c a b v) (okO c a b v) := by
  simp only [impl_Op_fits.f, in_dec, impl_same, Option.bind_some]
  refine Ev.bind (names_ev c a b v) ?_
  unfold okO
  by_cases h : 1 ≤ c ∧ c ≤ 17
  · refine Ev.ite_pos (decide_eq_true h) ?_
    rw [decide_eq_true h, Bool.true_and]
    rcases cls c with ⟨h1, h2, _⟩ | ⟨h1, h2, _⟩ | ⟨h1, h2, _⟩ | ⟨h1, h2, _⟩ <;> rw [h2]
    · refine Ev.ite_neg (by omega) ?_
      by_cases ha : a = 0
      · refine Ev.ite_pos ha (Ev.ite_neg (by omega) ?_)
        by_cases hb : b = 0
        · refine Ev.ite_pos hb (Ev.ite_pos h1 ?_)
          simpa [ha, hb, h1] using Ev.now true
        · refine Ev.ite_neg hb ?_
          simpa [ha, hb] using Ev.now false
      · refine Ev.ite_neg ha ?_
        simpa [ha] using Ev.now false
    · refine Ev.ite_pos (by omega) (Ev.ite_neg (by omega) ?_)
      by_cases hb : b = 0
      · refine Ev.ite_pos hb (Ev.ite_neg h1 ?_)
        simpa [hb, h1] using Ev.now (same v 0)
      · refine Ev.ite_neg hb ?_
        simpa [hb] using Ev.now false
    · refine Ev.ite_pos (by omega) (Ev.ite_pos (by omega) (Ev.ite_neg h1 ?_))
      simpa [h1] using Ev.now (same v 0)
    · refine Ev.ite_neg (by omega) ?_
      by_cases ha : a = 0
      · refine Ev.ite_pos ha (Ev.ite_neg (by omega) ?_)
        by_cases hb : b = 0
        · refine Ev.ite_pos hb (Ev.ite_neg h1 ?_)
          simpa [ha, hb, h1] using Ev.now (same v 0)
        · refine Ev.ite_neg hb ?_
          simpa [ha, hb] using Ev.now false
      · refine Ev.ite_neg ha ?_
        simpa [ha] using Ev.now false
  · refine Ev.ite_neg (by simpa using h) ?_
    rw [decide_eq_false h]
    simpa using Ev.now false
def okA (c a b : Int) (v : Nat) : Bool := okO c a b v && decide (0 ≤ a ∧ a ≤ 999) && decide (0 ≤ b ∧ b ≤ 999)
theorem data_bs2 (w : List UInt8) : (bs w).data.toList = w := by simp [bs]
theorem l0_end (s : ByteArray) (xs : List Int) (i : Int) (h : i = (xs.length : Int)) : Ev (fun k => impl_OpText.l0 k s xs (xs.length : Int) i) (s, true) :=
  Ev.step (f := fun _ => some (s, true)) (fun k => by simp only [impl_OpText.l0]; rw [if_neg (by omega)]) (Ev.now _)
theorem ol0_step {s t : List UInt8} {xs : List Int} {i : Nat} {out : ByteArray × Bool} (hi : i < xs.length) (hl : xs.length ≤ 2) (hx : 0 ≤ rd xs (i : Int) ∧ rd xs (i : Int) ≤ 999) (ht : t = Lib.itoa (rd xs (i : Int))) (hs : s.length + t.length ≤ 1000000) (hr : Ev (fun k => impl_OpText.l0 k (bs (s ++ (32 :: t))) xs (xs.length : Int) ((i : Int) + 1)) out) : Ev (fun k => impl_OpText.l0 k (bs s) xs (xs.length : Int) (i : Int)) out := by
  have e : cat (⟨#[32]⟩ : ByteArray) (bs t) = bs (32 :: t) := cat_bs [32] t
  refine Ev.step (fun k => ?_) hr
  simp only [impl_OpText.l0]
  rw [if_pos (by omega), if_pos (by omega), if_pos (by omega), itoa_now _ (by omega) (by omega), Option.bind_some, ← ht, if_pos (show catOk (⟨#[32]⟩ : ByteArray) (bs t) = true from catOk_bs (a := [32]) (b := t) (by simp; omega)), e, if_pos (catOk_bs (by simp; omega)), cat_bs, wrap_id (by omega) (by omega)]
theorem itoa_len {n : Int} (h0 : 0 ≤ n) (h1 : n ≤ 999) : (Lib.itoa n).length ≤ 30 := by
  have e : Lib.itoa n = Lib.decDigits n.toNat := by unfold Lib.itoa; rw [if_neg (by omega)]
  rw [e]
  have := dec_len3 (n := n.toNat) (by omega)
  omega
theorem okA_of {c a b : Int} {v : Nat} (h : okA c a b v = true) : (1 ≤ c ∧ c ≤ 17) ∧ (0 ≤ a ∧ a ≤ 999) ∧ (0 ≤ b ∧ b ≤ 999) := by
  unfold okA okO at h
  simp only [Bool.and_eq_true, decide_eq_true_eq] at h
  exact ⟨h.1.1.1.1.1, h.1.2, h.2⟩
/-! ### Reading a number -/
theorem zf {x : Nat} {b : Bool} {P : Prop} (h : some ((0 : Nat), false) = some (x, b)) : (b = true → P) ∧ (b = false → x = 0) := by
  simp only [Option.some.injEq, Prod.mk.injEq] at h
  obtain ⟨rfl, rfl⟩ := h
  exact ⟨by simp, fun _ => rfl⟩
theorem t_inv {k : Nat} {a0 : ByteArray} {x y : Nat} {b : Bool} (h : impl_ReadNum.t k a0 x = some (y, b)) : (b = true → ∃ t, impl_NumText.f k y = some t ∧ t.toList = a0.toList) ∧ (b = false → y = 0) := by
  unfold impl_ReadNum.t at h
  obtain ⟨t, ht, h⟩ := Option.bind_eq_some_iff.mp h
  by_cases c : t.toList = a0.toList
  · rw [if_pos c] at h
    simp only [Option.some.injEq, Prod.mk.injEq] at h
    obtain ⟨rfl, rfl⟩ := h
    exact ⟨fun _ => ⟨t, ht, c⟩, by simp⟩
  · rw [if_neg c] at h
    exact zf h
theorem rn_inv {k : Nat} {a0 : ByteArray} {y : Nat} {b : Bool} (h : impl_ReadNum.f k a0 = some (y, b)) : (b = true → ∃ t, impl_NumText.f k y = some t ∧ t.toList = a0.toList) ∧ (b = false → y = 0) := by
  unfold impl_ReadNum.f at h
  split at h
  · exact zf h
  split at h
  · obtain ⟨x, _, h⟩ := Option.bind_eq_some_iff.mp h; exact t_inv h
  split at h
  · obtain ⟨x, _, h⟩ := Option.bind_eq_some_iff.mp h; exact t_inv h
  split at h
  · obtain ⟨x, _, h⟩ := Option.bind_eq_some_iff.mp h; exact t_inv h
  split at h
  · obtain ⟨x, _, h⟩ := Option.bind_eq_some_iff.mp h; exact t_inv h
  split at h
  · exact t_inv h
  obtain ⟨c, _, h⟩ := Option.bind_eq_some_iff.mp h
  obtain ⟨q, _, h⟩ := Option.bind_eq_some_iff.mp h
  split at h
  · split at h
    · split at h
      · exact t_inv h
      · exact zf h
    · exact zf h
  · exact zf h
theorem zero_text : ∀ k, impl_NumText.f k 0 = some (bs [48]) := fun k => nt_kind (by omega) k (by kernel_rfl)
theorem rn_same (l : List UInt8) (hl : l.length ≤ 1048576) : ∃ x b, x < 18446744073709551616 ∧ Ev (fun k => spec_ReadNum.g k (bs l)) (x, b) ∧ Ev (fun k => impl_ReadNum.f k (bs l)) (x, b) ∧ (b = true → Ev (fun k => impl_NumText.f k x) (bs l)) ∧ (b = false → x = 0) := by
  by_cases hn : l = [110, 97, 110]
  · have hx : Ev (fun k => impl_ReadNum.f k (bs l)) (9221120237041090561, true) := by
      simp only [impl_ReadNum.f, tl_bs, bs_size]
      refine Ev.ite_neg (by rw [hn]; decide) (Ev.ite_pos hn (Ev.bind (Ev.const (show math_NaN.f = some 9221120237041090561 from by kernel_rfl)) ?_))
      exact text_lit (fun k => nt_kind (by omega) k (by kernel_rfl)) l hn
    refine ⟨9221120237041090561, true, by omega, ?_, hx, fun _ => ?_, by simp⟩
    · simp only [spec_ReadNum.g, tl_bs]; exact Ev.ite_pos hn (Ev.now _)
    · rw [hn]; exact Ev.congr (fun k => nt_kind (by omega) k (by kernel_rfl)) (Ev.now _)
  · obtain ⟨x, b, hx, hs, hi⟩ := readnum_same l hl hn
    refine ⟨x, b, hx, ?_, hi, fun hb => ?_, fun hb => ?_⟩
    · simp only [spec_ReadNum.g, tl_bs]; exact Ev.ite_neg hn hs
    · obtain ⟨K, hK⟩ := hi
      refine ⟨K, fun k hk => ?_⟩
      obtain ⟨t, h1, h2⟩ := (rn_inv (hK k hk)).1 hb
      rw [tl_bs] at h2
      obtain ⟨l', rfl⟩ := bs_ex t
      rw [tl_bs] at h2
      show impl_NumText.f k x = _
      rw [h1, h2]
    · obtain ⟨K, hK⟩ := hi
      exact (rn_inv (hK K (Nat.le_refl _))).2 hb
/-! ### Words joined at a blank -/
def tj : List (List UInt8) → List UInt8
  | [] => []
  | q :: r => 32 :: (q ++ tj r)
theorem gl_jn : ∀ (r : List (List UInt8)) (p0 p : List UInt8), (32 : UInt8) ∉ p → (∀ q ∈ r, (32 : UInt8) ∉ q) → gl 32 p0 (p ++ tj r) = (p0 ++ p) :: r
  | [], p0, p, hp, _ => by rw [tj, List.append_nil]; exact gl_miss 32 p p0 hp
  | q :: r, p0, p, hp, hr => by
    rw [tj, gl_hit 32 p p0 _ hp, gl_jn r [] q (hr q List.mem_cons_self) (fun x hx => hr x (List.mem_cons_of_mem _ hx))]
    rfl
theorem jn_gl : ∀ (l p0 : List UInt8), ∃ p r, gl 32 p0 l = p :: r ∧ p ++ tj r = p0 ++ l
  | [], p0 => ⟨p0, [], by simp [gl], by simp [tj]⟩
  | x :: l, p0 => by
    by_cases h : x = 32
    · obtain ⟨p, r, h1, h2⟩ := jn_gl l []
      refine ⟨p0, p :: r, by rw [gl, if_pos h, h1], ?_⟩
      rw [tj, h2, h]; rfl
    · obtain ⟨p, r, h1, h2⟩ := jn_gl l (p0 ++ [x])
      refine ⟨p, r, by rw [gl, if_neg h, h1], ?_⟩
      rw [h2]; simp
theorem jn_eq {w : List UInt8} {a r : List (List UInt8)} (hw : (32 : UInt8) ∉ w) (ha : ∀ q ∈ a, (32 : UInt8) ∉ q) (hr : ∀ q ∈ r, (32 : UInt8) ∉ q) (h : w ++ tj a = w ++ tj r) : a = r := by
  have h1 := gl_jn a [] w hw ha
  have h2 := gl_jn r [] w hw hr
  rw [h, h2] at h1
  exact (List.cons.inj h1).2.symm
theorem gl_no : ∀ (l p0 : List UInt8), (32 : UInt8) ∉ p0 → ∀ q ∈ gl 32 p0 l, (32 : UInt8) ∉ q
  | [], p0, h => by intro q hq; simp [gl] at hq; rw [hq]; exact h
  | x :: l, p0, h => by
    intro q hq
    unfold gl at hq
    split at hq
    · rcases List.mem_cons.1 hq with rfl | hq
      · exact h
      · exact gl_no l [] (by simp) q hq
    · rename_i hx
      refine gl_no l (p0 ++ [x]) ?_ q hq
      intro hm
      rcases List.mem_append.1 hm with hm | hm
      · exact h hm
      · exact hx (List.mem_singleton.1 hm).symm
theorem no_32 (n : Int) : (32 : UInt8) ∉ Lib.itoa n := by
  intro hm
  have hdig : ∀ m : Nat, (32 : UInt8) ∉ Lib.decDigits m := by
    intro m hm
    have := dgo_digits _ 0 m (dgo_of_dec m) 32 hm
    exact absurd this.1 (by decide)
  unfold Lib.itoa at hm
  split at hm
  · rcases List.mem_cons.1 hm with q | q
    · exact absurd q (by decide)
    · exact hdig _ q
  · exact hdig _ hm
/-! ### The word of an op -/
def wl : List (List UInt8) := [[], [112, 117, 115, 104], [108, 111, 97, 100], [115, 116, 111, 114, 101], [97, 100, 100], [115, 117, 98], [109, 117, 108], [100, 105, 118], [108, 101, 115, 115], [115, 97, 109, 101], [106, 117, 109, 112], [117, 110, 108, 101, 115, 115], [108, 111, 99, 107], [117, 110, 108, 111, 99, 107], [115, 112, 97, 119, 110], [106, 111, 105, 110], [119, 97, 105, 116], [115, 105, 103, 110, 97, 108]]
theorem words_eq : spec_l2Words.f = some (wl.map bs) := rfl
theorem words_eqI : impl_opWords.f = some (wl.map bs) := rfl
def cdS (w : List UInt8) : List (List UInt8) → Nat → Int → Int
  | [], _, acc => acc
  | x :: r, i, acc => cdS w r (i + 1) (if 0 < i ∧ x = w then (i : Int) else acc)
def ixI (w : List UInt8) : List (List UInt8) → Nat → Int
  | [], _ => -1
  | x :: r, i => if w = x then (i : Int) else ixI w r (i + 1)
theorem code_ex (w : List UInt8) : ∃ c : Nat, c ≤ 17 ∧ cdS w wl 0 0 = (c : Int) ∧ ixI w (wl.drop 1) 0 = (c : Int) - 1 ∧ (1 ≤ c → wl.getD c [] = w) := by
  by_cases h1 : w = [112, 117, 115, 104]
  · subst h1; exact ⟨1, by omega, by decide, by decide, fun _ => rfl⟩
  by_cases h2 : w = [108, 111, 97, 100]
  · subst h2; exact ⟨2, by omega, by decide, by decide, fun _ => rfl⟩
  by_cases h3 : w = [115, 116, 111, 114, 101]
  · subst h3; exact ⟨3, by omega, by decide, by decide, fun _ => rfl⟩
  by_cases h4 : w = [97, 100, 100]
  · subst h4; exact ⟨4, by omega, by decide, by decide, fun _ => rfl⟩
  by_cases h5 : w = [115, 117, 98]
  · subst h5; exact ⟨5, by omega, by decide, by decide, fun _ => rfl⟩
  by_cases h6 : w = [109, 117, 108]
  · subst h6; exact ⟨6, by omega, by decide, by decide, fun _ => rfl⟩
  by_cases h7 : w = [100, 105, 118]
  · subst h7; exact ⟨7, by omega, by decide, by decide, fun _ => rfl⟩
  by_cases h8 : w = [108, 101, 115, 115]
  · subst h8; exact ⟨8, by omega, by decide, by decide, fun _ => rfl⟩
  by_cases h9 : w = [115, 97, 109, 101]
  · subst h9; exact ⟨9, by omega, by decide, by decide, fun _ => rfl⟩
  by_cases h10 : w = [106, 117, 109, 112]
  · subst h10; exact ⟨10, by omega, by decide, by decide, fun _ => rfl⟩
  by_cases h11 : w = [117, 110, 108, 101, 115, 115]
  · subst h11; exact ⟨11, by omega, by decide, by decide, fun _ => rfl⟩
  by_cases h12 : w = [108, 111, 99, 107]
  · subst h12; exact ⟨12, by omega, by decide, by decide, fun _ => rfl⟩
  by_cases h13 : w = [117, 110, 108, 111, 99, 107]
  · subst h13; exact ⟨13, by omega, by decide, by decide, fun _ => rfl⟩
  by_cases h14 : w = [115, 112, 97, 119, 110]
  · subst h14; exact ⟨14, by omega, by decide, by decide, fun _ => rfl⟩
  by_cases h15 : w = [106, 111, 105, 110]
  · subst h15; exact ⟨15, by omega, by decide, by decide, fun _ => rfl⟩
  by_cases h16 : w = [119, 97, 105, 116]
  · subst h16; exact ⟨16, by omega, by decide, by decide, fun _ => rfl⟩
  by_cases h17 : w = [115, 105, 103, 110, 97, 108]
  · subst h17; exact ⟨17, by omega, by decide, by decide, fun _ => rfl⟩
  refine ⟨0, by omega, ?_, ?_, by omega⟩
  · simp [cdS, wl, Ne.symm h1, Ne.symm h2, Ne.symm h3, Ne.symm h4, Ne.symm h5, Ne.symm h6, Ne.symm h7, Ne.symm h8, Ne.symm h9, Ne.symm h10, Ne.symm h11, Ne.symm h12, Ne.symm h13, Ne.symm h14, Ne.symm h15, Ne.symm h16, Ne.symm h17]
  · simp [ixI, wl, h1, h2, h3, h4, h5, h6, h7, h8, h9, h10, h11, h12, h13, h14, h15, h16, h17]
theorem rd_w (ws : List (List UInt8)) (i : Nat) : rdOf ByteArray.empty (ws.map bs) (i : Int) = bs (ws.getD i []) := by
  have e : (ByteArray.empty : ByteArray) = bs [] := rfl
  simp only [rdOf, Int.toNat_natCast, List.getD_eq_getElem?_getD, List.getElem?_map]
  cases ws[i]? <;> simp [e]
theorem sl0 (ws : List ByteArray) (w : List UInt8) (hw : rdOf ByteArray.empty ws 0 = bs w) (hp : 0 < ws.length) {R} : ∀ (r : List (List UInt8)) (i : Nat) (acc : Int), i + r.length = wl.length → wl.drop i = r →
    (∀ c, c = cdS w r i acc → Ev (fun k => (spec_l2Uses.f k c).bind fun t134 => (if c = 0 then (spec_ReadOp.j1 k ws t134 true c 0 0 0) else (spec_ReadOp.j1 k ws t134 ((ws.length : Int) != (wrap64 ((t134.size : Int) + 1))) c 0 0 0))) R) →
    Ev (fun k => spec_ReadOp.l0 k ws (wl.map bs) ((wl.map bs).length : Int) (i : Int) acc 0 0 0) R
  | [], i, acc, hi, _, h => by
    refine Ev.step (fun k => ?_) (h acc rfl)
    simp only [spec_ReadOp.l0]
    rw [if_neg (by rw [List.length_map]; simp at hi; omega)]
  | x :: r, i, acc, hi, hd, h => by
    have hl : (wl.map bs).length = 18 := rfl
    have hl2 : wl.length = 18 := rfl
    have hi2 : i < wl.length := by simp at hi; omega
    have hx : wl.getD i [] = x := by
      have := congrArg (fun q => q.getD 0 []) hd
      simpa [List.getD_eq_getElem?_getD] using this
    have hd2 : wl.drop (i + 1) = r := by
      have := congrArg List.tail hd
      simpa [List.tail_drop] using this
    have ih := fun acc' hh => sl0 ws w hw hp (R := R) r (i + 1) acc' (by simp at hi; omega) hd2 hh
    have hwr : wrap64 ((i : Int) + 1) = ((i + 1 : Nat) : Int) := by rw [wrap_id (by omega) (by omega)]; rfl
    by_cases c : 0 < i ∧ x = w
    · refine Ev.step (fun k => ?_) (ih (i : Int) (fun c' hc' => h c' (by rw [hc', cdS, if_pos c])))
      simp only [spec_ReadOp.l0]
      rw [if_pos (by omega), if_pos (by omega), if_pos (by omega), if_pos (by omega), if_pos (by omega), rd_w, hw, tl_bs, tl_bs, hx, if_pos c.2, hwr]
    · refine Ev.step (fun k => ?_) (ih acc (fun c' hc' => h c' (by rw [hc', cdS, if_neg c])))
      simp only [spec_ReadOp.l0]
      rw [if_pos (by omega), if_pos (by omega), if_pos (by omega)]
      by_cases c1 : 0 < i
      · rw [if_pos (by omega), if_pos (by omega), rd_w, hw, tl_bs, tl_bs, hx, if_neg (fun q => c ⟨c1, q⟩), hwr]
      · rw [if_neg (by omega), hwr]
theorem ix_ev (w : List UInt8) (xs : List (List UInt8)) (hx : xs.length ≤ 100) : ∀ (r : List (List UInt8)) (i : Nat), i + r.length = xs.length → xs.drop i = r → Ev (fun k => slices_Index_string_string.l0 k (xs.map bs) (bs w) ((xs.map bs).length : Int) (i : Int)) (ixI w r i)
  | [], i, hi, _ => by
    refine Ev.step (f := fun _ => some (-1)) (fun k => ?_) (Ev.now _)
    simp only [slices_Index_string_string.l0]
    rw [if_neg (by rw [List.length_map]; simp at hi; omega)]
  | x :: r, i, hi, hd => by
    have hl : (xs.map bs).length = xs.length := List.length_map ..
    have hi2 : i < xs.length := by simp at hi; omega
    have hxx : xs.getD i [] = x := by
      have := congrArg (fun q => q.getD 0 []) hd
      simpa [List.getD_eq_getElem?_getD] using this
    have hd2 : xs.drop (i + 1) = r := by
      have := congrArg List.tail hd
      simpa [List.tail_drop] using this
    have ih := ix_ev w xs hx r (i + 1) (by simp at hi; omega) hd2
    have hwr : wrap64 ((i : Int) + 1) = ((i + 1 : Nat) : Int) := by rw [wrap_id (by omega) (by omega)]; rfl
    unfold ixI
    by_cases c : w = x
    · rw [if_pos c]
      refine Ev.step (f := fun _ => some (i : Int)) (fun k => ?_) (Ev.now _)
      simp only [slices_Index_string_string.l0]
      rw [if_pos (by omega), if_pos (by omega), if_pos (by omega), rd_w, tl_bs, tl_bs, hxx, if_pos c]
    · rw [if_neg c]
      refine Ev.step (fun k => ?_) ih
      simp only [slices_Index_string_string.l0]
      rw [if_pos (by omega), if_pos (by omega), if_pos (by omega), rd_w, tl_bs, tl_bs, hxx, if_neg c, hwr]
/-! ### The op's text -/
theorem word_len {c : Nat} (h : c ≤ 17) : (wl.getD c []).length ≤ 10 := by
  have : c = 0 ∨ c = 1 ∨ c = 2 ∨ c = 3 ∨ c = 4 ∨ c = 5 ∨ c = 6 ∨ c = 7 ∨ c = 8 ∨ c = 9 ∨ c = 10 ∨ c = 11 ∨ c = 12 ∨ c = 13 ∨ c = 14 ∨ c = 15 ∨ c = 16 ∨ c = 17 := by omega
  rcases this with h | h | h | h | h | h | h | h | h | h | h | h | h | h | h | h | h | h <;> subst h <;> decide
/-- What stands behind the word. -/
def argsOf (c a b : Int) (t : List UInt8) : List (List UInt8) := if c = 1 then [t] else if nm c = 1 then [Lib.itoa a] else if nm c = 2 then [Lib.itoa a, Lib.itoa b] else []
theorem op_text {c : Nat} {a b : Int} {v : Nat} {w t : List UInt8} (hc : 1 ≤ c ∧ c ≤ 17) (hw : wl.getD c [] = w) (ha : 0 ≤ a ∧ a ≤ 999) (hb : 0 ≤ b ∧ b ≤ 999) (ht : c = 1 → t.length ≤ 999000 ∧ Ev (fun k => impl_NumText.f k v) (bs t)) :
    Ev (fun k => impl_OpText.j0 k false (c : Int) a b v) (bs (w ++ tj (argsOf c a b t)), true) := by
  have hwl : w.length ≤ 10 := by rw [← hw]; exact word_len hc.2
  have hla := itoa_len ha.1 ha.2
  have hlb := itoa_len hb.1 hb.2
  have hJ : ∀ {s r : ByteArray} (xs : List Int), xs = ([a, b] : List Int).take (nm c).toNat → 0 ≤ nm c → nm c ≤ 2 → Ev (fun k => impl_OpText.l0 k s xs (xs.length : Int) 0) (r, true) → Ev (fun k => impl_OpText.j1 k s c a b v) (r, true) := by
    intro s r xs hx h0 h2 h
    refine Ev.step (f := fun k => (impl_Op_names.f k c a b v).bind fun t204 => (if 0 ≤ t204 then (if t204 ≤ (([a, b] : List Int).length : Int) then ((some (([a, b] : List Int).take (t204 : Int).toNat : List Int)).bind fun y205 => (impl_OpText.l0 k s y205 (y205.length : Int) 0)) else (none)) else (none))) (fun k => by simp only [impl_OpText.j1, Option.bind_some]) ?_
    refine Ev.bind (names_ev c a b v) (Ev.ite_pos h0 (Ev.ite_pos (by simpa using h2) ?_))
    rw [← hx]
    exact h
  have hl : rdOf ByteArray.empty (wl.map bs) (c : Int) = bs w := by rw [rd_w, hw]
  refine Ev.step (f := fun k => (impl_opWords.f).bind fun t196 => (if 0 ≤ (c : Int) then (if (c : Int) < (t196.length : Int) then (if (c : Int) = 1 then ((impl_NumText.f k v).bind fun t200 => (if catOk (⟨#[32]⟩ : ByteArray) t200 = true then (if catOk (rdOf ByteArray.empty t196 c) (cat (⟨#[32]⟩ : ByteArray) t200) = true then (impl_OpText.j1 k (cat (rdOf ByteArray.empty t196 c) (cat (⟨#[32]⟩ : ByteArray) t200)) c a b v) else (none)) else (none))) else (impl_OpText.j1 k (rdOf ByteArray.empty t196 c) c a b v)) else (none)) else (none))) (fun k => by simp only [impl_OpText.j0]; rw [if_neg (by simp)]) ?_
  simp only [words_eqI, Option.bind_some]
  have hln : ((wl.map bs).length : Int) = 18 := rfl
  refine Ev.ite_pos (by omega) (Ev.ite_pos (by omega) ?_)
  rw [hl]
  unfold argsOf
  rcases cls (c : Int) with ⟨h1, h2, h3⟩ | ⟨h1, h2, h3⟩ | ⟨h1, h2, h3⟩ | ⟨h1, h2, h3⟩
  · obtain ⟨ht1, ht2⟩ := ht (by omega)
    have e : cat (⟨#[32]⟩ : ByteArray) (bs t) = bs (32 :: t) := cat_bs [32] t
    rw [if_pos h1]
    refine Ev.ite_pos h1 (Ev.bind ht2 (Ev.ite_pos (catOk_bs (a := [32]) (b := t) (by simp; omega)) (Ev.ite_pos ?_ ?_)))
    · rw [e]; exact catOk_bs (by simp; omega)
    · rw [e, cat_bs]
      have e2 : tj [t] = 32 :: t := by simp [tj]
      rw [e2]
      exact hJ [] (by rw [h2]; rfl) (by omega) (by omega) (l0_end _ [] 0 rfl)
  · rw [if_neg h1, if_pos h2]
    refine Ev.ite_neg h1 (hJ [a] (by rw [h2]; rfl) (by omega) (by omega) ?_)
    have e2 : w ++ tj [Lib.itoa a] = w ++ (32 :: Lib.itoa a) := by simp [tj]
    rw [e2]
    exact ol0_step (i := 0) (xs := [a]) (by simp) (by simp) ha rfl (by show w.length + (Lib.itoa a).length ≤ _; omega) (l0_end _ [a] _ rfl)
  · rw [if_neg h1, if_neg (by omega), if_pos h2]
    refine Ev.ite_neg h1 (hJ [a, b] (by rw [h2]; rfl) (by omega) (by omega) ?_)
    have e2 : w ++ tj [Lib.itoa a, Lib.itoa b] = w ++ (32 :: Lib.itoa a) ++ (32 :: Lib.itoa b) := by simp [tj]
    rw [e2]
    exact ol0_step (i := 0) (xs := [a, b]) (by simp) (by simp) ha rfl (by show w.length + (Lib.itoa a).length ≤ _; omega) (ol0_step (i := 1) (xs := [a, b]) (by simp) (by simp) hb rfl (by show (w ++ (32 :: Lib.itoa a)).length + (Lib.itoa b).length ≤ _; simp; omega) (l0_end _ [a, b] _ rfl))
  · rw [if_neg h1, if_neg (by omega), if_neg (by omega)]
    refine Ev.ite_neg h1 (hJ [] (by rw [h2]; rfl) (by omega) (by omega) ?_)
    have e2 : w ++ tj [] = w := by simp [tj]
    rw [e2]
    exact l0_end _ [] 0 rfl
def fin5 (c a b : Int) (v : Nat) (ok : Bool) : Int × Int × Int × Nat × Bool := if ok = true then (c, a, b, v, true) else (0, 0, 0, 0, false)
/-- What comes of the op and its text. -/
theorem finT {l : List UInt8} {c : Nat} {a b : Int} {v : Nat} {w t : List UInt8} {r : List (List UInt8)} (hv : v < 18446744073709551616) (hw : 1 ≤ c → wl.getD c [] = w) (hc : c ≤ 17) (hl : l = w ++ tj r) (hnw : (32 : UInt8) ∉ w) (hnr : ∀ q ∈ r, (32 : UInt8) ∉ q) (hnt : c = 1 → (32 : UInt8) ∉ t) (ht : c = 1 → t.length ≤ 999000 ∧ Ev (fun k => impl_NumText.f k v) (bs t)) :
    Ev (fun k => (impl_OpText.f k c a b v).bind fun bt => (if bt.2 = true then (if bt.1.toList = (bs l).toList then (some ((c : Int), a, b, v, true)) else (some (0, 0, 0, 0, false))) else (some (0, 0, 0, 0, false)))) (fin5 c a b v (okA c a b v && decide (argsOf c a b t = r))) := by
  have hF := fits_ev (c : Int) a b v hv
  have hI : ∀ {r}, Ev (fun k => impl_OpText.j0 k (!okA c a b v) c a b v) r → Ev (fun k => impl_OpText.f k c a b v) r := by
    intro r h
    simp only [impl_OpText.f, in_dec, Option.bind_some]
    refine Ev.bind hF ?_
    unfold okA at h
    cases q : okO c a b v with
    | false => rw [q] at h; exact Ev.ite_neg (by simp) (by simpa using h)
    | true =>
      refine Ev.ite_pos rfl ?_
      by_cases qa : 0 ≤ a ∧ a ≤ 999
      · refine Ev.ite_pos (decide_eq_true qa) ?_
        rw [q, decide_eq_true qa, Bool.true_and, Bool.true_and] at h
        exact h
      · refine Ev.ite_neg (by simpa using qa) ?_
        rw [q, decide_eq_false qa, Bool.and_false, Bool.false_and] at h
        exact h
  cases q : okA c a b v with
  | false =>
    refine Ev.bind (hI (r := ((⟨#[]⟩ : ByteArray), false)) (Ev.step (f := fun _ => some ((⟨#[]⟩ : ByteArray), false)) (fun k => by simp only [impl_OpText.j0]; rw [if_pos (by simp [q])]) (Ev.now _))) ?_
    exact Ev.ite_neg (by simp) (Ev.now _)
  | true =>
    obtain ⟨h1, h2, h3⟩ := okA_of q
    have hop := op_text (c := c) (a := a) (b := b) (v := v) (w := w) (t := t) (by omega) (hw (by omega)) h2 h3 ht
    refine Ev.bind (hI (by rw [q]; exact hop)) (Ev.ite_pos rfl ?_)
    rw [tl_bs, tl_bs, Bool.true_and]
    by_cases e : argsOf c a b t = r
    · rw [decide_eq_true e]
      exact Ev.ite_pos (by rw [e, hl]) (Ev.now _)
    · rw [decide_eq_false e]
      refine Ev.ite_neg (fun q2 => e (jn_eq hnw ?_ hnr (q2.trans hl))) (Ev.now _)
      intro x hx
      unfold argsOf at hx
      split at hx
      · rw [List.mem_singleton.1 hx]; exact hnt (by omega)
      · split at hx
        · rw [List.mem_singleton.1 hx]; exact no_32 _
        · split at hx
          · simp only [List.mem_cons, List.not_mem_nil, or_false] at hx
            rcases hx with rfl | rfl <;> exact no_32 _
          · cases hx
/-! ### The two readings -/
theorem chain {l : List UInt8} {ws : List ByteArray} {c A B t : Int} {V : Nat} {R : Int × Int × Int × Nat × Bool} (hs : strings_Split.f (bs l) (bs [32]) = some ws) (hp : 0 < ws.length)
    (hix : Ev (fun k => slices_Index_string_string.f k ((wl.map bs).drop 1) (rdOf ByteArray.empty ws 0)) t) (hc : mx (wrap64 (t + 1)) 0 = c)
    (hV : (c = 1 ∧ ws.length = 2 ∧ ∃ b, Ev (fun k => impl_ReadNum.f k (rdOf ByteArray.empty ws 1)) (V, b)) ∨ (¬ (c = 1 ∧ ws.length = 2) ∧ V = 0))
    (hA : (1 < ws.length ∧ nm c > 0 ∧ (rdOf ByteArray.empty ws 1).size ≤ 140737488355328 ∧ A = (Go.Proofs.YtpfbiopcfbokbaaDoor.MRead.readN (rdOf ByteArray.empty ws 1) 999).1) ∨ (¬ (1 < ws.length ∧ nm c > 0) ∧ A = 0))
    (hB : (2 < ws.length ∧ nm c > 1 ∧ (rdOf ByteArray.empty ws 2).size ≤ 140737488355328 ∧ B = (Go.Proofs.YtpfbiopcfbokbaaDoor.MRead.readN (rdOf ByteArray.empty ws 2) 999).1) ∨ (¬ (2 < ws.length ∧ nm c > 1) ∧ B = 0))
    (hF : Ev (fun k => (impl_OpText.f k c A B V).bind fun bt => (if bt.2 = true then (if bt.1.toList = (bs l).toList then (some (c, A, B, V, true)) else (some (0, 0, 0, 0, false))) else (some (0, 0, 0, 0, false)))) R) :
    Ev (fun k => impl_ReadOp.f k (bs l)) R := by
  have j4F : ¬ (2 < ws.length ∧ nm c > 1) → B = 0 → Ev (fun k => impl_ReadOp.j4 k (bs l) ws false c A 0 V) R := by
    rintro _ rfl
    refine Ev.step (fun k => ?_) hF
    simp only [impl_ReadOp.j4]; rw [if_neg (by simp)]
  have j4T : 2 < ws.length → (rdOf ByteArray.empty ws 2).size ≤ 140737488355328 → B = (Go.Proofs.YtpfbiopcfbokbaaDoor.MRead.readN (rdOf ByteArray.empty ws 2) 999).1 → Ev (fun k => impl_ReadOp.j4 k (bs l) ws true c A 0 V) R := by
    intro h1 h2 h3
    refine Ev.step (fun k => ?_) hF
    simp only [impl_ReadOp.j4]; rw [if_pos trivial, if_pos (by omega)]
    unfold impl_readNumber.f
    rw [if_pos h2, Option.bind_some, ← h3]
  have j3 : Ev (fun k => impl_ReadOp.j3 k (bs l) ws c A 0 V) R := by
    refine Ev.step (f := fun k => if (ws.length : Int) > 2 then ((impl_Op_names.f k c A 0 V).bind fun t258 => (impl_ReadOp.j4 k (bs l) ws (decide (t258 > 1)) c A 0 V)) else (impl_ReadOp.j4 k (bs l) ws false c A 0 V)) (fun k => by simp only [impl_ReadOp.j3]) ?_
    by_cases h : 2 < ws.length
    · refine Ev.ite_pos (by omega) (Ev.bind (names_ev c A 0 V) ?_)
      rcases hB with ⟨_, h2, h3, h4⟩ | ⟨h2, h3⟩
      · rw [decide_eq_true h2]; exact j4T h h3 h4
      · rw [decide_eq_false (fun q => h2 ⟨h, q⟩)]; exact j4F h2 h3
    · refine Ev.ite_neg (by omega) ?_
      rcases hB with ⟨h1, _⟩ | ⟨h2, h3⟩
      · exact absurd h1 h
      · exact j4F h2 h3
  have j2F : A = 0 → Ev (fun k => impl_ReadOp.j2 k (bs l) ws false c 0 0 V) R := by
    intro hA0
    refine Ev.step (fun k => ?_) j3
    simp only [impl_ReadOp.j2]; rw [if_neg (by simp), hA0]
  have j2T : 1 < ws.length → (rdOf ByteArray.empty ws 1).size ≤ 140737488355328 → A = (Go.Proofs.YtpfbiopcfbokbaaDoor.MRead.readN (rdOf ByteArray.empty ws 1) 999).1 → Ev (fun k => impl_ReadOp.j2 k (bs l) ws true c 0 0 V) R := by
    intro h1 h2 h3
    refine Ev.step (fun k => ?_) j3
    simp only [impl_ReadOp.j2]; rw [if_pos trivial, if_pos (by omega)]
    unfold impl_readNumber.f
    rw [if_pos h2, Option.bind_some, ← h3]
  have j1 : Ev (fun k => impl_ReadOp.j1 k (bs l) ws c 0 0 V) R := by
    refine Ev.step (f := fun k => if (ws.length : Int) > 1 then ((impl_Op_names.f k c 0 0 V).bind fun t258 => (impl_ReadOp.j2 k (bs l) ws (decide (t258 > 0)) c 0 0 V)) else (impl_ReadOp.j2 k (bs l) ws false c 0 0 V)) (fun k => by simp only [impl_ReadOp.j1]) ?_
    by_cases h : 1 < ws.length
    · refine Ev.ite_pos (by omega) (Ev.bind (names_ev c 0 0 V) ?_)
      rcases hA with ⟨_, h2, h3, h4⟩ | ⟨h2, h3⟩
      · rw [decide_eq_true h2]; exact j2T h h3 h4
      · rw [decide_eq_false (fun q => h2 ⟨h, q⟩)]; exact j2F h3
    · refine Ev.ite_neg (by omega) ?_
      rcases hA with ⟨h1, _⟩ | ⟨h2, h3⟩
      · exact absurd h1 h
      · exact j2F h3
  have e32 : (⟨#[32]⟩ : ByteArray) = bs [32] := rfl
  simp only [impl_ReadOp.f, e32, hs, words_eqI, Option.bind_some]
  refine Ev.ite_pos (by omega) (Ev.bind hix ?_)
  rw [hc]
  have j0F : V = 0 → Ev (fun k => impl_ReadOp.j0 k (bs l) ws false c 0 0 0) R := by
    intro h
    refine Ev.step (fun k => ?_) j1
    simp only [impl_ReadOp.j0]; rw [if_neg (by simp), h]
  by_cases h1 : c = 1
  · refine Ev.ite_pos h1 ?_
    rcases hV with ⟨_, h2, b, h3⟩ | ⟨h2, h3⟩
    · have e : ((ws.length : Int) == 2) = true := by rw [h2]; rfl
      rw [e]
      refine Ev.step (f := fun k => (impl_ReadNum.f k (rdOf ByteArray.empty ws 1)).bind fun bt252 => (impl_ReadOp.j1 k (bs l) ws c 0 0 bt252.1)) (fun k => by simp only [impl_ReadOp.j0]; rw [if_pos trivial, if_pos (by omega)]) ?_
      exact Ev.bind h3 j1
    · have e : ((ws.length : Int) == 2) = false := by rw [beq_eq_false_iff_ne]; intro q; exact h2 ⟨h1, by omega⟩
      rw [e]; exact j0F h3
  · refine Ev.ite_neg h1 ?_
    rcases hV with ⟨h2, _⟩ | ⟨h2, h3⟩
    · exact absurd h2 h1
    · exact j0F h3
theorem rn_zero : Ev (fun k => impl_ReadNum.f k (bs [48])) (0, true) := by
  simp only [impl_ReadNum.f, tl_bs, bs_size]
  exact Ev.ite_neg (by decide) (Ev.ite_neg (by decide) (Ev.ite_neg (by decide) (Ev.ite_neg (by decide) (Ev.ite_neg (by decide) (Ev.ite_pos trivial (text_lit zero_text [48] rfl))))))
theorem itoa_dec {n : Int} (h : 0 ≤ n) : Lib.itoa n = Lib.decDigits n.toNat := by unfold Lib.itoa; rw [if_neg (by omega)]
theorem od_in {w : List UInt8} (h : 0 ≤ od w ∧ od w ≤ 999) : w = Lib.itoa (od w) ∧ (Go.Proofs.YtpfbiopcfbokbaaDoor.MRead.readN (bs w) 999).1 = od w := by
  unfold od at h ⊢
  cases hm : oneForm w with
  | none => rw [hm] at h; simp at h
  | some m =>
    rw [hm] at h
    simp only [Option.elim_some] at h ⊢
    have hw := oneForm_dec hm
    constructor
    · rw [itoa_dec (by omega), hw]; rfl
    · rw [hw, read_ok (by omega)]
theorem od_of {w : List UInt8} {n : Int} (h : 0 ≤ n ∧ n ≤ 999) (hw : Lib.itoa n = w) : od w = n := by
  unfold od
  rw [← hw, itoa_dec h.1, oneForm_of (by omega)]
  simp only [Option.elim_some]
  omega
abbrev zero5 : Int × Int × Int × Nat × Bool := (0, 0, 0, 0, false)
theorem tail_zero {c : Int} {ws : List ByteArray} (hl : ws.length ≤ 2000000) (h : c = 0 ∨ ws.length ≠ (us c).length + 1) : Ev (fun k => (spec_l2Uses.f k c).bind fun t134 => (if c = 0 then (spec_ReadOp.j1 k ws t134 true c 0 0 0) else (spec_ReadOp.j1 k ws t134 ((ws.length : Int) != (wrap64 ((t134.size : Int) + 1))) c 0 0 0))) zero5 := by
  have hj : Ev (fun k => spec_ReadOp.j1 k ws (bs (us c)) true c 0 0 0) zero5 := Ev.step (f := fun _ => some zero5) (fun k => by simp only [spec_ReadOp.j1]; rw [if_pos trivial]) (Ev.now _)
  have hu : (us c).length ≤ 2 := by rcases cls c with ⟨_, _, h⟩ | ⟨_, _, h⟩ | ⟨_, _, h⟩ | ⟨_, _, h⟩ <;> rw [h] <;> simp
  refine Ev.bind (uses_ev c) ?_
  by_cases h0 : c = 0
  · exact Ev.ite_pos h0 hj
  · refine Ev.ite_neg h0 ?_
    have e : ((ws.length : Int) != (wrap64 (((bs (us c)).size : Int) + 1))) = true := by
      rw [bs_size, wrap_id (by omega) (by omega), bne_iff_ne]
      rcases h with h | h
      · exact absurd h h0
      · omega
    rw [e]; exact hj
theorem tail_go {c : Int} {ws : List ByteArray} {R : Int × Int × Int × Nat × Bool} (h0 : c ≠ 0) (h : ws.length = (us c).length + 1) (hR : Ev (fun k => spec_ReadOp.l1 k ws (bs (us c)) 0 c 0 0 0) R) : Ev (fun k => (spec_l2Uses.f k c).bind fun t134 => (if c = 0 then (spec_ReadOp.j1 k ws t134 true c 0 0 0) else (spec_ReadOp.j1 k ws t134 ((ws.length : Int) != (wrap64 ((t134.size : Int) + 1))) c 0 0 0))) R := by
  have hu : (us c).length ≤ 2 := by rcases cls c with ⟨_, _, h⟩ | ⟨_, _, h⟩ | ⟨_, _, h⟩ | ⟨_, _, h⟩ <;> rw [h] <;> simp
  refine Ev.bind (uses_ev c) (Ev.ite_neg h0 ?_)
  have e : ((ws.length : Int) != (wrap64 (((bs (us c)).size : Int) + 1))) = false := by
    rw [bs_size, wrap_id (by omega) (by omega), bne_eq_false_iff_eq]; omega
  rw [e]
  refine Ev.step (fun k => ?_) hR
  simp only [spec_ReadOp.j1]; rw [if_neg (by simp)]
theorem l1_end (ws : List ByteArray) (u : List UInt8) (i : Int) (h : i = (u.length : Int)) (c a b : Int) (v : Nat) : Ev (fun k => spec_ReadOp.l1 k ws (bs u) i c a b v) (c, a, b, v, true) := by
  refine Ev.step (f := fun _ => some (c, a, b, v, true)) (fun k => ?_) (Ev.now _)
  simp only [spec_ReadOp.l1]; rw [if_neg (by rw [bs_size]; omega)]
theorem l1_v {ws : List ByteArray} {w : List UInt8} (hw : 1 < ws.length) (hww : rdOf ByteArray.empty ws 1 = bs w) {c a b : Int} {v x : Nat} {ok : Bool} (h : Ev (fun k => spec_ReadNum.g k (bs w)) (x, ok)) : Ev (fun k => spec_ReadOp.l1 k ws (bs [118]) 0 c a b v) (if ok = true then (c, a, b, x, true) else zero5) := by
  have hb : bt (bs [118]) 0 = 118 := bt_bs [118] 0 (by simp)
  have hw1 : wrap64 (0 + 1) = 1 := (wrap_id (n := 0 + 1) (by omega) (by omega)).trans (by omega)
  refine Ev.step (f := fun k => (spec_ReadNum.g k (bs w)).bind fun bt136 => (if bt136.2 = true then (spec_ReadOp.l1 k ws (bs [118]) 1 c a b bt136.1) else (some zero5))) (fun k => ?_) ?_
  · simp only [spec_ReadOp.l1]
    rw [if_pos (by rw [bs_size]; simp), if_pos (by omega), if_pos hb, hw1, if_pos (by omega), if_pos (by omega), hww]
  · refine Ev.bind h ?_
    cases ok with
    | true => rw [if_pos rfl]; exact Ev.ite_pos rfl (l1_end ws [118] 1 rfl c a b x)
    | false => rw [if_neg (by simp)]; exact Ev.ite_neg (by simp) (Ev.now _)
theorem l1_a {ws : List ByteArray} {u w : List UInt8} (hu : u = [97] ∨ u = [97, 98]) (hw : 1 < ws.length) (hww : rdOf ByteArray.empty ws 1 = bs w) {c a b : Int} {v : Nat} {R : Int × Int × Int × Nat × Bool} (h : 0 ≤ od w ∧ od w ≤ 999 → Ev (fun k => spec_ReadOp.l1 k ws (bs u) 1 c (od w) b v) R) (h2 : ¬ (0 ≤ od w ∧ od w ≤ 999) → R = zero5) : Ev (fun k => spec_ReadOp.l1 k ws (bs u) 0 c a b v) R := by
  have hb : bt (bs u) 0 = 97 := by rcases hu with rfl | rfl <;> exact bt_bs _ 0 (by simp)
  have hz : 0 < u.length := by rcases hu with rfl | rfl <;> simp
  have hw1 : wrap64 (0 + 1) = 1 := (wrap_id (n := 0 + 1) (by omega) (by omega)).trans (by omega)
  refine Ev.step (f := fun k => (spec_l1Digits.f k (bs w)).bind fun t139 => ((spec_l1In.f t139 0 999).bind fun t140 => (if t140 = true then (spec_ReadOp.l1 k ws (bs u) 1 c t139 b v) else (some zero5)))) (fun k => ?_) ?_
  · simp only [spec_ReadOp.l1]
    rw [if_pos (by rw [bs_size]; omega), if_pos (by omega), if_neg (by rw [hb]; decide), hw1, if_pos (by omega), if_pos (by omega), hww]
    simp only [hb, if_true]
  · simp only [l1In_dec, Option.bind_some]
    refine Ev.bind (digits_ev w) ?_
    show Ev (fun k => if decide (0 ≤ od w ∧ od w ≤ 999) = true then spec_ReadOp.l1 k ws (bs u) 1 c (od w) b v else some zero5) R
    by_cases q : 0 ≤ od w ∧ od w ≤ 999
    · exact Ev.ite_pos (decide_eq_true q) (h q)
    · rw [h2 q]; exact Ev.ite_neg (by simpa using q) (Ev.now _)
theorem l1_b {ws : List ByteArray} {w : List UInt8} (hw : 2 < ws.length) (hww : rdOf ByteArray.empty ws 2 = bs w) {c a b : Int} {v : Nat} {R : Int × Int × Int × Nat × Bool} (h : 0 ≤ od w ∧ od w ≤ 999 → R = (c, a, od w, v, true)) (h2 : ¬ (0 ≤ od w ∧ od w ≤ 999) → R = zero5) : Ev (fun k => spec_ReadOp.l1 k ws (bs [97, 98]) 1 c a b v) R := by
  have hb : bt (bs [97, 98]) 1 = 98 := bt_bs [97, 98] 1 (by simp)
  have hw1 : wrap64 (1 + 1) = 2 := (wrap_id (n := 1 + 1) (by omega) (by omega)).trans (by omega)
  refine Ev.step (f := fun k => (spec_l1Digits.f k (bs w)).bind fun t139 => ((spec_l1In.f t139 0 999).bind fun t140 => (if t140 = true then (spec_ReadOp.l1 k ws (bs [97, 98]) 2 c a t139 v) else (some zero5)))) (fun k => ?_) ?_
  · simp only [spec_ReadOp.l1]
    rw [if_pos (by rw [bs_size]; simp), if_pos (by omega), if_neg (by rw [hb]; decide), hw1, if_pos (by omega), if_pos (by omega), hww]
    simp only [hb, show ¬ ((98 : Int) = 97) from by decide, if_false]
  · simp only [l1In_dec, Option.bind_some]
    refine Ev.bind (digits_ev w) ?_
    show Ev (fun k => if decide (0 ≤ od w ∧ od w ≤ 999) = true then spec_ReadOp.l1 k ws (bs [97, 98]) 2 c a (od w) v else some zero5) R
    by_cases q : 0 ≤ od w ∧ od w ≤ 999
    · rw [h q]; exact Ev.ite_pos (decide_eq_true q) (l1_end ws [97, 98] 2 rfl c a (od w) v)
    · rw [h2 q]; exact Ev.ite_neg (by simpa using q) (Ev.now _)
theorem tj_len : ∀ (r : List (List UInt8)) (q : List UInt8), q ∈ r → q.length + 1 ≤ (tj r).length
  | p :: r, q, h => by
    simp only [tj, List.length_cons, List.length_append]
    rcases List.mem_cons.1 h with rfl | h
    · omega
    · have := tj_len r q h; omega
theorem tj_cnt : ∀ (r : List (List UInt8)), r.length ≤ (tj r).length
  | [] => Nat.le_refl _
  | p :: r => by have := tj_cnt r; simp only [tj, List.length_cons, List.length_append]; omega
theorem same00 : same 0 0 = true := by decide
/-- Both read the same op. -/
theorem op_read (l : List UInt8) (hl : l.length ≤ 1048576) : ∃ R : Int × Int × Int × Nat × Bool, R.2.2.2.1 < 18446744073709551616 ∧ Ev (fun k => spec_ReadOp.f k (bs l)) R ∧ Ev (fun k => impl_ReadOp.f k (bs l)) R := by
  obtain ⟨w, r, hg, hj⟩ := jn_gl l []
  have hlw : l = w ++ tj r := by rw [hj]; rfl
  have hno := gl_no l [] (by simp)
  rw [hg] at hno
  have hnw : (32 : UInt8) ∉ w := hno w List.mem_cons_self
  have hnr : ∀ q ∈ r, (32 : UInt8) ∉ q := fun q hq => hno q (List.mem_cons_of_mem _ hq)
  have hs := split_now 32 l hl
  have hss := split_ev 32 32 rfl l hl
  rw [hg] at hs hss
  have hp : 0 < ((w :: r).map bs).length := by simp
  have hlen : ((w :: r).map bs).length = r.length + 1 := by simp
  have hlt := congrArg List.length hlw
  rw [List.length_append] at hlt
  have hcnt := tj_cnt r
  have hr0 : rdOf ByteArray.empty ((w :: r).map bs) 0 = bs w := rd_w (w :: r) 0
  have hr1 : rdOf ByteArray.empty ((w :: r).map bs) 1 = bs (r.getD 0 []) := rd_w (w :: r) 1
  have hr2 : rdOf ByteArray.empty ((w :: r).map bs) 2 = bs (r.getD 1 []) := rd_w (w :: r) 2
  have hgd : ∀ i, (r.getD i []).length ≤ 1048576 := by
    intro i
    rw [List.getD_eq_getElem?_getD]
    cases hi : r[i]? with
    | none => simp
    | some q => have := tj_len r q (List.mem_of_getElem? hi); simp; omega
  obtain ⟨c, hc17, hcd, hix, hw⟩ := code_ex w
  have hixe : Ev (fun k => slices_Index_string_string.f k ((wl.map bs).drop 1) (rdOf ByteArray.empty ((w :: r).map bs) 0)) ((c : Int) - 1) := by
    rw [hr0, ← hix, ← List.map_drop]
    exact ix_ev w (wl.drop 1) (by decide) (wl.drop 1) 0 (by simp) rfl
  have hmx : mx (wrap64 ((c : Int) - 1 + 1)) 0 = (c : Int) := by
    rw [show (c : Int) - 1 + 1 = (c : Int) by omega, wrap_id (by omega) (by omega)]
    unfold mx
    rw [if_neg (by omega)]
  have hS : ∀ {R}, Ev (fun k => (spec_l2Uses.f k (c : Int)).bind fun t134 => (if (c : Int) = 0 then (spec_ReadOp.j1 k ((w :: r).map bs) t134 true (c : Int) 0 0 0) else (spec_ReadOp.j1 k ((w :: r).map bs) t134 ((((w :: r).map bs).length : Int) != (wrap64 ((t134.size : Int) + 1))) (c : Int) 0 0 0))) R → Ev (fun k => spec_ReadOp.f k (bs l)) R := by
    intro R h
    simp only [spec_ReadOp.f, words_eq, Option.bind_some]
    refine Ev.bind hss ?_
    exact sl0 ((w :: r).map bs) w hr0 hp wl 0 0 (by simp) rfl (fun c' hc' => by rw [hc', hcd]; exact h)
  -- what the given one sets
  have hI : ∀ (A B : Int) (V : Nat) (t : List UInt8), V < 18446744073709551616 → (c = 1 → (32 : UInt8) ∉ t) → (c = 1 → t.length ≤ 999000 ∧ Ev (fun k => impl_NumText.f k V) (bs t)) →
      (((c : Int) = 1 ∧ ((w :: r).map bs).length = 2 ∧ ∃ b, Ev (fun k => impl_ReadNum.f k (rdOf ByteArray.empty ((w :: r).map bs) 1)) (V, b)) ∨ (¬ ((c : Int) = 1 ∧ ((w :: r).map bs).length = 2) ∧ V = 0)) →
      A = (if 1 < ((w :: r).map bs).length ∧ nm c > 0 then (Go.Proofs.YtpfbiopcfbokbaaDoor.MRead.readN (bs (r.getD 0 [])) 999).1 else 0) → B = (if 2 < ((w :: r).map bs).length ∧ nm c > 1 then (Go.Proofs.YtpfbiopcfbokbaaDoor.MRead.readN (bs (r.getD 1 [])) 999).1 else 0) →
      Ev (fun k => impl_ReadOp.f k (bs l)) (fin5 c A B V (okA c A B V && decide (argsOf c A B t = r))) := by
    intro A B V t hv ht1 ht2 hV hA hB
    refine chain (A := A) (B := B) hs hp hixe hmx hV ?_ ?_ (finT hv hw hc17 hlw hnw hnr ht1 ht2)
    · by_cases q : 1 < ((w :: r).map bs).length ∧ nm c > 0
      · rw [if_pos q] at hA
        exact Or.inl ⟨q.1, q.2, by rw [hr1, bs_size]; have := hgd 0; omega, by rw [hr1]; exact hA⟩
      · rw [if_neg q] at hA; exact Or.inr ⟨q, hA⟩
    · by_cases q : 2 < ((w :: r).map bs).length ∧ nm c > 1
      · rw [if_pos q] at hB
        exact Or.inl ⟨q.1, q.2, by rw [hr2, bs_size]; have := hgd 1; omega, by rw [hr2]; exact hB⟩
      · rw [if_neg q] at hB; exact Or.inr ⟨q, hB⟩
  have hle : ((w :: r).map bs).length ≤ 2000000 := by omega
  by_cases hc0 : c = 0
  · refine ⟨zero5, by decide, hS (tail_zero hle (Or.inl (by omega))), ?_⟩
    have := hI _ _ 0 [] (by decide) (by omega) (by omega) (Or.inr ⟨by omega, rfl⟩) rfl rfl
    have e : ∀ A B, okA (c : Int) A B 0 = false := by
      intro A B
      cases q : okA (c : Int) A B 0 with
      | false => rfl
      | true => have := (okA_of q).1; omega
    rw [e, Bool.false_and] at this
    exact this
  have hc1 : (c : Int) ≠ 0 := by omega
  have h17 : decide (1 ≤ (c : Int) ∧ (c : Int) ≤ 17) = true := decide_eq_true (by omega)
  rcases cls (c : Int) with ⟨h1, h2, h3⟩ | ⟨h1, h2, h3⟩ | ⟨h1, h2, h3⟩ | ⟨h1, h2, h3⟩
  · -- push
    have hok : ∀ v, okA (c : Int) 0 0 v = true := by intro v; unfold okA okO; rw [h17, h2]; simp [h1]
    have hargs : ∀ t, argsOf (c : Int) 0 0 t = [t] := by intro t; unfold argsOf; rw [if_pos h1]
    have hA0 : (0 : Int) = (if 1 < ((w :: r).map bs).length ∧ nm c > 0 then (Go.Proofs.YtpfbiopcfbokbaaDoor.MRead.readN (bs (r.getD 0 [])) 999).1 else 0) := by rw [if_neg (by omega)]
    have hB0 : (0 : Int) = (if 2 < ((w :: r).map bs).length ∧ nm c > 1 then (Go.Proofs.YtpfbiopcfbokbaaDoor.MRead.readN (bs (r.getD 1 [])) 999).1 else 0) := by rw [if_neg (by omega)]
    by_cases hr : r.length = 1
    · obtain ⟨w1, rfl⟩ := List.length_eq_one_iff.mp hr
      have hw1 : w1.length ≤ 1048576 := hgd 0
      obtain ⟨x, b, hx, hsx, hix, hbt, hbf⟩ := rn_same w1 hw1
      refine ⟨fin5 c 0 0 x b, ?_, hS (tail_go hc1 (by rw [h3]; rfl) (by rw [h3]; exact l1_v (by simp) hr1 hsx)), ?_⟩
      · unfold fin5; cases b <;> simp [hx]
      · cases b with
        | true =>
          by_cases hsz : w1.length ≤ 999000
          · have := hI 0 0 x w1 hx (fun _ => hnr w1 (by simp)) (fun _ => ⟨hsz, hbt rfl⟩) (Or.inl ⟨h1, rfl, true, by rw [hr1]; exact hix⟩) hA0 hB0
            rw [hok, hargs, Bool.true_and, decide_eq_true rfl] at this
            exact this
          · exfalso
            obtain ⟨K, hK⟩ := hix
            have := hK K (Nat.le_refl _)
            simp only [impl_ReadNum.f, bs_size] at this
            rw [if_pos (by omega)] at this
            simp at this
        | false =>
          have hx0 := hbf rfl
          subst hx0
          have := hI 0 0 0 [48] (by decide) (fun _ => by decide) (fun _ => ⟨by decide, Ev.congr zero_text (Ev.now _)⟩) (Or.inl ⟨h1, rfl, false, by rw [hr1]; exact hix⟩) hA0 hB0
          have hne : ¬ ([[48]] : List (List UInt8)) = [w1] := by
            intro q
            have q2 : w1 = [48] := (List.cons.inj q).1.symm
            rw [q2] at hix
            have := Ev.unique hix rn_zero
            simp at this
          rw [hok, hargs, Bool.true_and, decide_eq_false hne] at this
          exact this
    · refine ⟨zero5, by decide, hS (tail_zero hle (Or.inr (by rw [h3, hlen]; simp; omega))), ?_⟩
      have := hI 0 0 0 [48] (by decide) (fun _ => by decide) (fun _ => ⟨by decide, Ev.congr zero_text (Ev.now _)⟩) (Or.inr ⟨by omega, rfl⟩) hA0 hB0
      have hne : ¬ ([[48]] : List (List UInt8)) = r := by rintro rfl; exact hr rfl
      rw [hok, hargs, Bool.true_and, decide_eq_false hne] at this
      exact this
  · -- one name
    have hI0 := fun A B hA hB => hI A B 0 [] (by decide) (by omega) (by omega) (Or.inr ⟨by omega, rfl⟩) hA hB
    have hargs : ∀ A B, argsOf (c : Int) A B [] = [Lib.itoa A] := by intro A B; unfold argsOf; rw [if_neg h1, if_pos h2]
    have hB0 : (0 : Int) = (if 2 < ((w :: r).map bs).length ∧ nm c > 1 then (Go.Proofs.YtpfbiopcfbokbaaDoor.MRead.readN (bs (r.getD 1 [])) 999).1 else 0) := by rw [if_neg (by omega)]
    by_cases hr : r.length = 1
    · obtain ⟨w1, rfl⟩ := List.length_eq_one_iff.mp hr
      have hA : (Go.Proofs.YtpfbiopcfbokbaaDoor.MRead.readN (bs w1) 999).1 = (if 1 < ((w :: [w1]).map bs).length ∧ nm c > 0 then (Go.Proofs.YtpfbiopcfbokbaaDoor.MRead.readN (bs ([w1].getD 0 [])) 999).1 else 0) := by rw [if_pos ⟨by simp, by omega⟩]; rfl
      have hi := hI0 _ 0 hA hB0
      rw [hargs] at hi
      refine ⟨fin5 c (od w1) 0 0 (decide (0 ≤ od w1 ∧ od w1 ≤ 999)), by unfold fin5; split <;> (show (0 : Nat) < _; decide), hS (tail_go hc1 (by rw [h3]; rfl) ?_), ?_⟩
      · rw [h3]
        refine l1_a (w := w1) (Or.inl rfl) (by simp) hr1 (fun q => ?_) (fun q => ?_)
        · unfold fin5; rw [if_pos (decide_eq_true q)]; exact l1_end _ [97] 1 rfl _ _ _ _
        · unfold fin5; rw [if_neg (by simpa using q)]
      · by_cases q : 0 ≤ od w1 ∧ od w1 ≤ 999
        · obtain ⟨e1, e2⟩ := od_in q
          have hok : okA (c : Int) (od w1) 0 0 = true := by unfold okA okO; rw [h17, h2, same00]; simp [q.1, q.2]
          rw [e2, hok, ← e1, Bool.true_and, decide_eq_true rfl] at hi
          rw [decide_eq_true q]
          exact hi
        · rw [decide_eq_false q]
          have e : (okA (c : Int) (Go.Proofs.YtpfbiopcfbokbaaDoor.MRead.readN (bs w1) 999).1 0 0 && decide ([Lib.itoa (Go.Proofs.YtpfbiopcfbokbaaDoor.MRead.readN (bs w1) 999).1] = [w1])) = false := by
            cases z : okA (c : Int) (Go.Proofs.YtpfbiopcfbokbaaDoor.MRead.readN (bs w1) 999).1 0 0 with
            | false => rfl
            | true =>
              rw [Bool.true_and]
              refine decide_eq_false (fun z2 => q ?_)
              have z3 := (okA_of z).2.1
              rw [od_of z3 (List.cons.inj z2).1]; exact z3
          rw [e] at hi
          exact hi
    · refine ⟨zero5, by decide, hS (tail_zero hle (Or.inr (by rw [h3, hlen]; simp; omega))), ?_⟩
      have hi := hI0 _ 0 rfl hB0
      rw [hargs, decide_eq_false (fun z => hr (by rw [← z]; rfl)), Bool.and_false] at hi
      exact hi
  · -- two names
    have hI0 := fun A B hA hB => hI A B 0 [] (by decide) (by omega) (by omega) (Or.inr ⟨by omega, rfl⟩) hA hB
    have hargs : ∀ A B, argsOf (c : Int) A B [] = [Lib.itoa A, Lib.itoa B] := by intro A B; unfold argsOf; rw [if_neg h1, if_neg (by omega), if_pos h2]
    by_cases hr : r.length = 2
    · obtain ⟨w1, w2, rfl⟩ : ∃ a b, r = [a, b] := by
        cases r with
        | nil => simp at hr
        | cons a r =>
          cases r with
          | nil => simp at hr
          | cons b r =>
            cases r with
            | nil => exact ⟨a, b, rfl⟩
            | cons _ _ => simp at hr
      have hA : (Go.Proofs.YtpfbiopcfbokbaaDoor.MRead.readN (bs w1) 999).1 = (if 1 < ((w :: [w1, w2]).map bs).length ∧ nm c > 0 then (Go.Proofs.YtpfbiopcfbokbaaDoor.MRead.readN (bs ([w1, w2].getD 0 [])) 999).1 else 0) := by rw [if_pos ⟨by simp, by omega⟩]; rfl
      have hB : (Go.Proofs.YtpfbiopcfbokbaaDoor.MRead.readN (bs w2) 999).1 = (if 2 < ((w :: [w1, w2]).map bs).length ∧ nm c > 1 then (Go.Proofs.YtpfbiopcfbokbaaDoor.MRead.readN (bs ([w1, w2].getD 1 [])) 999).1 else 0) := by rw [if_pos ⟨by simp, by omega⟩]; rfl
      have hi := hI0 _ _ hA hB
      rw [hargs] at hi
      refine ⟨fin5 c (od w1) (od w2) 0 (decide ((0 ≤ od w1 ∧ od w1 ≤ 999) ∧ (0 ≤ od w2 ∧ od w2 ≤ 999))), by unfold fin5; split <;> (show (0 : Nat) < _; decide), hS (tail_go hc1 (by rw [h3]; rfl) ?_), ?_⟩
      · rw [h3]
        refine l1_a (w := w1) (Or.inr rfl) (by simp) hr1 (fun q => ?_) (fun q => ?_)
        · refine l1_b (w := w2) (by simp) hr2 (fun q2 => ?_) (fun q2 => ?_)
          · unfold fin5; rw [if_pos (decide_eq_true ⟨q, q2⟩)]
          · unfold fin5; rw [if_neg (by simpa using fun _ _ => by simpa using q2)]
        · unfold fin5; rw [if_neg (fun z => q (of_decide_eq_true z).1)]
      · by_cases q : (0 ≤ od w1 ∧ od w1 ≤ 999) ∧ (0 ≤ od w2 ∧ od w2 ≤ 999)
        · obtain ⟨e1, e2⟩ := od_in q.1
          obtain ⟨e3, e4⟩ := od_in q.2
          have hok : okA (c : Int) (od w1) (od w2) 0 = true := by unfold okA okO; rw [h17, h2, same00]; simp [q.1.1, q.1.2, q.2.1, q.2.2]
          rw [e2, e4, hok, ← e1, ← e3, Bool.true_and, decide_eq_true rfl] at hi
          rw [decide_eq_true q]
          exact hi
        · rw [decide_eq_false q]
          have e : (okA (c : Int) (Go.Proofs.YtpfbiopcfbokbaaDoor.MRead.readN (bs w1) 999).1 (Go.Proofs.YtpfbiopcfbokbaaDoor.MRead.readN (bs w2) 999).1 0 && decide ([Lib.itoa (Go.Proofs.YtpfbiopcfbokbaaDoor.MRead.readN (bs w1) 999).1, Lib.itoa (Go.Proofs.YtpfbiopcfbokbaaDoor.MRead.readN (bs w2) 999).1] = [w1, w2])) = false := by
            cases z : okA (c : Int) (Go.Proofs.YtpfbiopcfbokbaaDoor.MRead.readN (bs w1) 999).1 (Go.Proofs.YtpfbiopcfbokbaaDoor.MRead.readN (bs w2) 999).1 0 with
            | false => rfl
            | true =>
              rw [Bool.true_and]
              refine decide_eq_false (fun z2 => q ?_)
              have z3 := (okA_of z).2
              have z4 := List.cons.inj z2
              have z5 := List.cons.inj z4.2
              rw [od_of z3.1 z4.1, od_of z3.2 z5.1]; exact z3
          rw [e] at hi
          exact hi
    · refine ⟨zero5, by decide, hS (tail_zero hle (Or.inr (by rw [h3, hlen]; simp; omega))), ?_⟩
      have hi := hI0 _ _ rfl rfl
      rw [hargs, decide_eq_false (fun z => hr (by rw [← z]; rfl)), Bool.and_false] at hi
      exact hi
  · -- none
    have hI0 := fun A B hA hB => hI A B 0 [] (by decide) (by omega) (by omega) (Or.inr ⟨by omega, rfl⟩) hA hB
    have hargs : ∀ A B, argsOf (c : Int) A B [] = [] := by intro A B; unfold argsOf; rw [if_neg h1, if_neg (by omega), if_neg (by omega)]
    have hok : okA (c : Int) 0 0 0 = true := by unfold okA okO; rw [h17, h2, same00]; simp
    have hA0 : (0 : Int) = (if 1 < ((w :: r).map bs).length ∧ nm c > 0 then (Go.Proofs.YtpfbiopcfbokbaaDoor.MRead.readN (bs (r.getD 0 [])) 999).1 else 0) := by rw [if_neg (by omega)]
    have hB0 : (0 : Int) = (if 2 < ((w :: r).map bs).length ∧ nm c > 1 then (Go.Proofs.YtpfbiopcfbokbaaDoor.MRead.readN (bs (r.getD 1 [])) 999).1 else 0) := by rw [if_neg (by omega)]
    have hi := hI0 0 0 hA0 hB0
    rw [hargs, hok, Bool.true_and] at hi
    by_cases hr : r = []
    · subst hr
      refine ⟨fin5 c 0 0 0 true, by show (0 : Nat) < _; decide, hS (tail_go hc1 (by rw [h3]; rfl) (by rw [h3]; exact l1_end _ [] 0 rfl _ _ _ _)), ?_⟩
      rw [decide_eq_true rfl] at hi
      exact hi
    · refine ⟨zero5, by decide, hS (tail_zero hle (Or.inr (by rw [h3, hlen]; have : r.length ≠ 0 := fun z => hr (List.length_eq_zero_iff.mp z); simp; omega))), ?_⟩
      rw [decide_eq_false (fun z => hr z.symm)] at hi
      exact hi
theorem FnExactReadOp : laws_FnExactReadOp.Pure2 := by
  intro s0 _ _
  apply Ev.rounds
  obtain ⟨l, rfl⟩ := bs_ex s0
  simp only [laws_FnExactReadOp.f, bs_size]
  by_cases h : (l.length : Int) > 1048576
  · exact Ev.ite_pos h (Ev.now _)
  · obtain ⟨⟨c, a, b, v, ok⟩, hv, hs, hi⟩ := op_read l (by omega)
    have he : Ev (fun k => laws_eqOp.f k c a b v c a b v) true := by
      simp only [laws_eqOp.f]
      exact Ev.ite_pos trivial (Ev.ite_pos trivial (Ev.ite_pos trivial (Ev.bind (sameFloat_refl v hv) (Ev.ite_pos rfl (Ev.now _)))))
    exact Ev.ite_neg h (Ev.bind hs (Ev.bind hi (Ev.bind he (Ev.ite_pos rfl (Ev.ite_neg (by simp) (Ev.now _))))))

end Go.Proofs.YtpfbiopcfbokbaaDoor.Pure

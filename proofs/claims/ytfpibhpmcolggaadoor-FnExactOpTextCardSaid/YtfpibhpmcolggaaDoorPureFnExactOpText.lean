/- The pure statement of FnExactOpText: an op's word, and what it names. -/
import Derived.Test.YtfpibhpmcolggaaDoorQFnExactOpText
import Derived.Test.YtfpibhpmcolggaaDoorMBase
import Derived.KernelRfl
import Derived.Test.YtfpibhpmcolggaaDoorMReal
import Derived.Lib.ItoaLen
import Derived.Lib.ItoaMem
set_option linter.unusedVariables false
set_option linter.unusedSimpArgs false
namespace Go.Proofs.YtfpibhpmcolggaaDoor.Pure
open Go.RowKit Go.Proofs.YtfpibhpmcolggaaDoor.GOpText Go.Proofs.YtfpibhpmcolggaaDoorW.PrintWords Go.Proofs.YtfpibhpmcolggaaDoorW.PrintLast Go.Proofs.YtfpibhpmcolggaaDoorW.PrintMore Go.Proofs.YtfpibhpmcolggaaDoor.MBase
open Go.Proofs.YtfpibhpmcolggaaDoor Go.Proofs.YtfpibhpmcolggaaDoor.MNum Go.Proofs.YtfpibhpmcolggaaDoor.MIeee Go.Proofs.YtfpibhpmcolggaaDoor.MReal
/-- The kind of a number. -/
def kindN (x : Nat) : Int := if isNan x = true then 0 else if rg x = INF then 1 else if rg x = 0 then 2 else if 2 ^ E74 ∣ val (rg x) then 3 else 4
theorem impl_kind {x : Nat} (hx : x < 18446744073709551616) : impl_KindOf.f x = some (kindN x) := by
  simp only [impl_KindOf.f, math_IsNaN.f, math_IsInf.f, math_Abs.f, math_Trunc.f, Option.bind_some, feq_self, ftruncOk_eq, andNot_sign hx]
  unfold kindN
  have hI := inf_small
  cases hn : isNan x with
  | true => rfl
  | false =>
    have hle : ¬ INF < rg x := of_decide_eq_false hn
    have hr := key_rg x
    have hnr : isNan (rg x) = false := by unfold isNan; rw [hr.2]; exact decide_eq_false hle
    have hmx : isNan 9218868437227405311 = false := by decide
    have hkm : key 9218868437227405311 = 9218868437227405311 := by decide
    simp only [Bool.not_false, Bool.not_true, Bool.false_eq_true, if_false, if_true, fgt_eq hnr hmx, hkm, hr.1, feq_eq hn nan_zero, key_zero, key_rg_zero, decide_eq_true_eq, Option.bind_some]
    by_cases hi : rg x = INF
    · have : (9218868437227405311 : Int) < (rg x : Int) := by unfold INF at hi; omega
      rw [if_pos this, if_pos hi]
    · have h1 : ¬ (9218868437227405311 : Int) < (rg x : Int) := by unfold INF at hi hle; omega
      rw [if_neg h1, if_neg hi]
      by_cases hz : rg x = 0
      · rw [if_pos hz, if_pos hz]
      · rw [if_neg hz, if_neg hz, feq_trunc (show rg x < INF by omega)]
        simp only [decide_eq_true_eq]
        by_cases hd : 2 ^ E74 ∣ val (rg x)
        · rw [if_pos hd, if_pos hd]
        · rw [if_neg hd, if_neg hd]
def sgn (s : Bool) (n : Nat) : Int := if s = true then -(n : Int) else (n : Int)
theorem sgn_tmod (s : Bool) (n : Nat) : Int.tmod (sgn s n) 2 = 0 ↔ n % 2 = 0 := by
  unfold sgn
  have e : Int.tmod (n : Int) 2 = ((n % 2 : Nat) : Int) := by rw [Int.tmod_eq_emod_of_nonneg (by omega)]; omega
  cases s
  · simp only [Bool.false_eq_true, if_false]; rw [e]; omega
  · simp only [if_true]; rw [Int.neg_tmod, e]; omega
theorem sgn_tdiv (s : Bool) (n : Nat) : Int.tdiv (sgn s (2 * n)) 2 = sgn s n := by
  unfold sgn
  have e : Int.tdiv ((2 * n : Nat) : Int) 2 = (n : Int) := by rw [Int.tdiv_eq_ediv_of_nonneg (by omega)]; omega
  cases s
  · simp only [Bool.false_eq_true, if_false]; exact e
  · simp only [if_true]; rw [Int.neg_tdiv, e]
/-- A finite number, not nought: its sign, and u * 2^t in units of the least place. -/
structure St (x : Nat) (s : Bool) (u t : Nat) : Prop where
  lt : x < 18446744073709551616
  sg : sg x = s
  pos : 0 < rg x
  fin : rg x < INF
  val : val (rg x) = u * 2 ^ t
theorem st_word (s : Bool) {u t r : Nat} (h0 : 0 < r) (h : r < INF) (hv : val r = u * 2 ^ t) : St (Ieee.double.word s r) s u t := by
  have hI := inf_small
  exact ⟨word_lt s (by omega), sg_word s (by omega), by rw [rg_word s (by omega)]; exact h0, by rw [rg_word s (by omega)]; exact h, by rw [rg_word s (by omega)]; exact hv⟩
theorem St.nan {x u t : Nat} {s : Bool} (h : St x s u t) : isNan x = false := fin_nan h.fin
theorem St.top {x u t : Nat} {s : Bool} (h : St x s u t) : u * 2 ^ t < 2 ^ T98 := by rw [← h.val]; exact val_lt h.fin
theorem St.half {x u t : Nat} {s : Bool} (h : St x s u (t + 1)) (hu0 : 0 < u) (hu : u < 9007199254740992) : fdivOk x 4611686018427387904 = true ∧ St (fdiv x 4611686018427387904) s u t := by
  have e : u * 2 ^ (t + 1) = u * 2 ^ t * 2 := by rw [Nat.pow_succ, Nat.mul_assoc]
  have ht := h.top
  obtain ⟨r, hr0, hr, hv⟩ := rung_of (q := t) hu0 hu (by omega)
  refine ⟨(half_ok h.nan).1, ?_⟩
  rw [half_eq h.fin h.pos hr0 hr (by rw [hv, h.val, e]), h.sg]
  exact st_word s hr0 hr hv
theorem St.double {x u t : Nat} {s : Bool} (h : St x s u t) (hu0 : 0 < u) (hu : u < 9007199254740992) (ht : u * 2 ^ (t + 1) < 2 ^ T98) : fmulOk x 4611686018427387904 = true ∧ St (fmul x 4611686018427387904) s u (t + 1) := by
  have e : u * 2 ^ (t + 1) = u * 2 ^ t * 2 := by rw [Nat.pow_succ, Nat.mul_assoc]
  obtain ⟨r, hr0, hr, hv⟩ := rung_of (q := t + 1) hu0 hu ht
  refine ⟨(mul_pow_ok pow_two h.nan).1, ?_⟩
  rw [mul_up (j := 1) pow_two h.fin h.pos hr0 hr (by rw [hv, h.val, e, Nat.pow_one]), h.sg]
  exact st_word s hr0 hr hv
/-- The bound of the loops. -/
def B52 : Nat := E74 + 52
def B53 : Nat := E74 + 53
def P52 : Nat := 2 ^ B52
def P53 : Nat := 2 ^ B53
theorem B52_eq : B52 = E74 + 52 := rfl
theorem B53_eq : B53 = E74 + 53 := rfl
theorem P52_eq : P52 = 2 ^ B52 := rfl
theorem P53_eq : P53 = 2 ^ B53 := rfl
theorem P52_pos : 0 < P52 := Nat.two_pow_pos _
theorem P53_two : P53 = P52 * 2 := by
  rw [P53_eq, P52_eq, show B53 = B52 + 1 from by rw [B53_eq, B52_eq], Nat.pow_succ]
theorem P53_top : P53 ≤ 2 ^ T98 := by
  rw [P53_eq]
  exact Nat.pow_le_pow_right (by omega) (by rw [B53_eq, E74_eq, T98_eq]; omega)
theorem pow_P52 {t : Nat} (h : E74 + 52 ≤ t) : P52 ≤ 2 ^ t := by
  rw [P52_eq]; exact Nat.pow_le_pow_right (by omega) (by rw [B52_eq]; omega)
theorem pow_P53 {t : Nat} (h : E74 + 53 ≤ t) : P53 ≤ 2 ^ t := by
  rw [P53_eq]; exact Nat.pow_le_pow_right (by omega) (by rw [B53_eq]; omega)
theorem le_P52 {t : Nat} (h : t ≤ E74 + 52) : 2 ^ t ≤ P52 := by
  rw [P52_eq]; exact Nat.pow_le_pow_right (by omega) (by rw [B52_eq]; omega)
theorem edge : sval 4841369599423283200 = (P52 : Int) ∧ isNan 4841369599423283200 = false := by refine ⟨?_, ?_⟩ <;> kernel_rfl
theorem edge_neg : sval 14064741636278059008 = -(P52 : Int) ∧ isNan 14064741636278059008 = false := by refine ⟨?_, ?_⟩ <;> kernel_rfl
theorem St.sval {x u t : Nat} {s : Bool} (h : St x s u t) : sval x = sgn s (u * 2 ^ t) := by
  unfold MIeee.sval sgn
  rw [h.sg, h.val]
theorem St.gt {x u t : Nat} {s : Bool} (h : St x s u t) : fgt x 4841369599423283200 = decide (s = false ∧ P52 < u * 2 ^ t) := by
  rw [fgt_eq h.nan edge.2, decide_eq_decide, ← sval_lt_iff, edge.1, h.sval]
  unfold sgn
  cases s
  · simp only [Bool.false_eq_true, if_false, true_and]; omega
  · simp only [if_true, reduceCtorEq, false_and, iff_false]; omega
theorem St.lt_neg {x u t : Nat} {s : Bool} (h : St x s u t) : flt x 14064741636278059008 = decide (s = true ∧ P52 < u * 2 ^ t) := by
  rw [flt_eq h.nan edge_neg.2, decide_eq_decide, ← sval_lt_iff, edge_neg.1, h.sval]
  unfold sgn
  have hp := P52_pos
  cases s
  · simp only [Bool.false_eq_true, if_false, false_and, iff_false]; omega
  · simp only [if_true, true_and]; omega
theorem St.lt_pos {x u t : Nat} {s : Bool} (h : St x s u t) (hu0 : 0 < u) : flt x 4841369599423283200 = decide (s = true ∨ u * 2 ^ t < P52) := by
  rw [flt_eq h.nan edge.2, decide_eq_decide, ← sval_lt_iff, edge.1, h.sval]
  have hq : 0 < u * 2 ^ t := Nat.mul_pos hu0 (Nat.two_pow_pos _)
  unfold sgn
  cases s
  · simp only [Bool.false_eq_true, if_false, false_or]; omega
  · simp only [if_true, true_or, iff_true]; omega
theorem St.gt_neg {x u t : Nat} {s : Bool} (h : St x s u t) (hu0 : 0 < u) : fgt x 14064741636278059008 = decide (s = false ∨ u * 2 ^ t < P52) := by
  rw [fgt_eq h.nan edge_neg.2, decide_eq_decide, ← sval_lt_iff, edge_neg.1, h.sval]
  have hp := P52_pos
  unfold sgn
  cases s
  · simp only [Bool.false_eq_true, if_false, true_or, iff_true]; omega
  · simp only [if_true, reduceCtorEq, false_or]; omega
theorem odd_dvd {u t : Nat} (hu : u % 2 = 1) : 2 ^ E74 ∣ u * 2 ^ t ↔ E74 ≤ t := by
  constructor
  · intro h
    apply Classical.byContradiction
    intro hc
    obtain ⟨d, hd⟩ : ∃ d, E74 = t + (d + 1) := ⟨E74 - t - 1, by omega⟩
    rw [hd, Nat.pow_add, Nat.mul_comm u] at h
    have h2 : 2 ^ (d + 1) ∣ u := Nat.dvd_of_mul_dvd_mul_left (Nat.two_pow_pos _) h
    have h3 : 2 ∣ u := Nat.dvd_trans ⟨2 ^ d, by rw [Nat.pow_succ, Nat.mul_comm]⟩ h2
    omega
  · intro h
    exact Nat.dvd_trans (Nat.pow_dvd_pow 2 h) (Nat.dvd_mul_left _ _)
theorem whole_at {x u t : Nat} {s : Bool} (h : St x s u t) (hE : E74 ≤ t) : whole x = u * 2 ^ (t - E74) := by
  unfold whole
  rw [h.val, show u * 2 ^ t = u * 2 ^ (t - E74) * 2 ^ E74 from by rw [Nat.mul_assoc, ← Nat.pow_add]; congr 2; omega, Nat.mul_div_cancel _ (Nat.two_pow_pos _)]
theorem whole_le {x u t b : Nat} {s : Bool} (h : St x s u t) (hb : u * 2 ^ t < 2 ^ (E74 + b)) : whole x < 2 ^ b := by
  unfold whole
  rw [h.val, Nat.div_lt_iff_lt_mul (Nat.two_pow_pos _), ← Nat.pow_add, Nat.add_comm b]
  exact hb
theorem whole_le52 {x u t : Nat} {s : Bool} (h : St x s u t) (hb : u * 2 ^ t < P52) : whole x < 4503599627370496 := by
  rw [P52_eq, B52_eq] at hb
  exact Nat.lt_of_lt_of_eq (whole_le h hb) (by decide)
theorem whole_le53 {x u t : Nat} {s : Bool} (h : St x s u t) (hb : u * 2 ^ t < P53) : whole x < 9007199254740992 := by
  rw [P53_eq, B53_eq] at hb
  exact Nat.lt_of_lt_of_eq (whole_le h hb) (by decide)
theorem swhole_sgn {x u t : Nat} {s : Bool} (h : St x s u t) : swhole x = sgn s (whole x) := by
  unfold swhole sgn; rw [h.sg]
theorem l2_ev (s : Bool) (u : Nat) (hu : u % 2 = 1) : ∀ (b : Nat) (e : Int), u * 2 ^ b < 2 ^ 62 → -10000 ≤ e → e + b ≤ 10000 → Ev (fun k => spec_l1Parts.l2 k e (sgn s (u * 2 ^ b))) (sgn s u, e + b)
  | 0, e, hb, h1, h2 => by
    refine Ev.step (f := fun _ => some (sgn s u, e + (0 : Nat))) (fun k => ?_) (Ev.now _)
    simp only [spec_l1Parts.l2]
    rw [Nat.pow_zero, Nat.mul_one, if_neg (by rw [sgn_tmod]; omega)]
    simp
  | b + 1, e, hb, h1, h2 => by
    have e1 : u * 2 ^ (b + 1) = 2 * (u * 2 ^ b) := by rw [Nat.pow_succ]; simp only [Nat.mul_comm, Nat.mul_left_comm]
    have h62 : (2 : Nat) ^ 62 = 4611686018427387904 := by decide
    have ih := l2_ev s u hu b (e + 1) (by omega) (by omega) (by omega)
    rw [show e + 1 + (b : Int) = e + ((b + 1 : Nat) : Int) from by omega] at ih
    refine Ev.step (fun k => ?_) ih
    simp only [spec_l1Parts.l2]
    rw [e1, if_pos (by rw [sgn_tmod]; omega), sgn_tdiv, wrap_id (n := e + 1) (by omega) (by omega), wrap_id]
    · unfold sgn; split <;> omega
    · unfold sgn; split <;> omega
/-- The last part: a whole number that is not less than 2^52. -/
theorem j2_end {x u t : Nat} {s : Bool} (h : St x s u t) (hu : u % 2 = 1) (hu1 : u < 9007199254740992) (e : Int) (he : -5000 ≤ e ∧ e ≤ 4000) (hlo : P52 ≤ u * 2 ^ t) (hhi : u * 2 ^ t < P53) (htb : t < T98) :
    Ev (fun k => spec_l1Parts.j2 k x e false) (sgn s u, e + t - E74) := by
  have h53 : (2 : Nat) ^ 53 = 9007199254740992 := by decide
  have h62 : (2 : Nat) ^ 62 = 4611686018427387904 := by decide
  have hE : E74 ≤ t := by
    apply Classical.byContradiction
    intro hc
    have q1 : u * 2 ^ t < 2 ^ 53 * 2 ^ t := Nat.mul_lt_mul_of_pos_right (by omega) (Nat.two_pow_pos _)
    rw [← Nat.pow_add] at q1
    have q2 : (2 : Nat) ^ (53 + t) ≤ P52 := le_P52 (by omega)
    omega
  have hw := whole_at h hE
  have hwl := whole_le53 h hhi
  have hf := fint_eq h.fin (by omega)
  have hT := T98_eq
  have hL := l2_ev s u hu (t - E74) e (by omega) (by omega) (by omega)
  rw [show e + ((t - E74 : Nat) : Int) = e + (t : Int) - (E74 : Int) from by omega] at hL
  refine Ev.step (fun k => ?_) hL
  simp only [spec_l1Parts.j2]
  rw [if_neg (by simp), if_pos hf.1, hf.2, swhole_sgn h, hw]
theorem l1_step (s : Bool) (u q : Nat) (hu : u % 2 = 1) (hu1 : u < 9007199254740992) (hq : q < T98) (t x : Nat) (htb : t ≤ E74 + 53) (h : St x s u t) (hhi : u * 2 ^ t < P53)
    (ih : t < E74 + 52 → ∀ x', St x' s u (t + 1) → u * 2 ^ (t + 1) < P53 → Ev (fun k => spec_l1Parts.l1 k x' ((q : Int) - ((t + 1 : Nat) : Int))) (sgn s u, (q : Int) - E74)) :
    Ev (fun k => spec_l1Parts.l1 k x ((q : Int) - t)) (sgn s u, (q : Int) - E74) := by
    have hEq := E74_eq
    have hT := T98_eq
    have hu0 : 0 < u := by omega
    have hstep : ∀ k, spec_l1Parts.l1 (k+1) x ((q : Int) - t) = spec_l1Parts.j2 k x ((q : Int) - t) (decide (u * 2 ^ t < P52)) := by
      intro k
      simp only [spec_l1Parts.l1, h.lt_pos hu0, h.gt_neg hu0, decide_eq_true_eq]
      cases s
      · simp only [Bool.false_eq_true, false_or, true_or, decide_true]
        by_cases c : u * 2 ^ t < P52
        · rw [if_pos c, decide_eq_true c]
        · rw [if_neg c, decide_eq_false c]
      · simp only [true_or, if_true, reduceCtorEq, false_or]
    refine Ev.step hstep ?_
    by_cases c : u * 2 ^ t < P52
    · rw [decide_eq_true c]
      have h52 : (2 : Nat) ^ 52 = 4503599627370496 := by decide
      have hwl := whole_le52 h c
      have hf := fint_eq h.fin (by omega)
      have hfe := feq_fint h.fin (by omega)
      rw [h.val] at hfe
      by_cases ht : t = E74
      · subst ht
        have hw := whole_at h (Nat.le_refl _)
        rw [Nat.sub_self, Nat.pow_zero, Nat.mul_one] at hw
        refine Ev.step (f := fun _ => some (sgn s u, (q : Int) - E74)) (fun k => ?_) (Ev.now _)
        simp only [spec_l1Parts.j2]
        rw [if_pos trivial, if_pos hf.1, hfe, if_pos (decide_eq_true ((odd_dvd hu).mpr (Nat.le_refl _))), hf.2, swhole_sgn h, hw, if_neg (by rw [sgn_tmod]; omega)]
      · have ht53 : t < E74 + 52 := by
          apply Classical.byContradiction
          intro hc
          have q2 : P52 ≤ 2 ^ t := pow_P52 (by omega)
          have q3 : 2 ^ t ≤ u * 2 ^ t := Nat.le_mul_of_pos_left _ hu0
          omega
        have e2 : u * 2 ^ (t + 1) = u * 2 ^ t * 2 := by rw [Nat.pow_succ, Nat.mul_assoc]
        have e3 := P53_two
        have hhi2 : u * 2 ^ (t + 1) < P53 := by omega
        have htop : u * 2 ^ (t + 1) < 2 ^ T98 := Nat.lt_of_lt_of_le hhi2 P53_top
        have hm := h.double hu0 hu1 htop
        have hgo := ih ht53 _ hm.2 hhi2
        refine Ev.step (fun k => ?_) hgo
        simp only [spec_l1Parts.j2]
        have hw1 : wrap64 ((q : Int) - (t : Int) - 1) = (q : Int) - ((t + 1 : Nat) : Int) := by rw [wrap_id] <;> omega
        rw [if_pos trivial, if_pos hf.1, hfe, if_pos hm.1, hw1]
        by_cases hE : E74 ≤ t
        · have hw := whole_at h hE
          rw [if_pos (decide_eq_true ((odd_dvd hu).mpr hE)), hf.2, swhole_sgn h, hw, if_pos]
          rw [sgn_tmod, show t - E74 = (t - E74 - 1) + 1 from by omega, Nat.pow_succ, ← Nat.mul_assoc, Nat.mul_mod_left]
        · rw [if_neg (by simp only [decide_eq_true_eq]; rw [odd_dvd hu]; exact hE)]
    · rw [decide_eq_false c]
      have r := j2_end h hu hu1 ((q : Int) - t) ⟨by omega, by omega⟩ (by omega) hhi (by omega)
      rw [show (q : Int) - (t : Int) + (t : Int) - (E74 : Int) = (q : Int) - E74 from by omega] at r
      exact r
theorem l1_ev (s : Bool) (u q : Nat) (hu : u % 2 = 1) (hu1 : u < 9007199254740992) (hq : q < T98) : ∀ (d t x : Nat), t + d = E74 + 53 → St x s u t → u * 2 ^ t < P53 →
    Ev (fun k => spec_l1Parts.l1 k x ((q : Int) - t)) (sgn s u, (q : Int) - E74) := by
  intro d
  induction d with
  | zero => intro t x hd h hhi; exact l1_step s u q hu hu1 hq t x (by omega) h hhi (fun c => by omega)
  | succ d ih => intro t x hd h hhi; exact l1_step s u q hu hu1 hq t x (by omega) h hhi (fun _ x' h' hh' => ih (t + 1) x' (by omega) h' hh')
theorem l0_step (s : Bool) (u q : Nat) (hu : u % 2 = 1) (hu1 : u < 9007199254740992) (hq : q < T98) (t x : Nat) (htq : t ≤ q) (h : St x s u t)
    (ih : ∀ t', t = t' + 1 → ∀ x', St x' s u t' → Ev (fun k => spec_l1Parts.l0 k x' ((q : Int) - t')) (sgn s u, (q : Int) - E74)) :
    Ev (fun k => spec_l1Parts.l0 k x ((q : Int) - t)) (sgn s u, (q : Int) - E74) := by
    have hEq := E74_eq
    have hT := T98_eq
    have hu0 : 0 < u := by omega
    have h53 : (2 : Nat) ^ 53 = 9007199254740992 := by decide
    by_cases c : P52 < u * 2 ^ t
    · cases t with
      | zero =>
        exfalso
        rw [Nat.pow_zero, Nat.mul_one] at c
        have q2 : (2 : Nat) ^ 53 ≤ P52 := le_P52 (by omega)
        omega
      | succ t =>
        have hh := h.half hu0 hu1
        have hgo := ih t rfl _ hh.2
        have hw1 : wrap64 ((q : Int) - ((t + 1 : Nat) : Int) + 1) = (q : Int) - (t : Int) := by rw [wrap_id] <;> omega
        refine Ev.step (fun k => ?_) hgo
        simp only [spec_l1Parts.l0, h.gt, h.lt_neg, decide_eq_true_eq]
        rw [hw1, if_pos hh.1]
        cases s
        · rw [if_pos ⟨rfl, c⟩]
        · rw [if_neg (by simp), if_pos ⟨rfl, c⟩]
    · have hhi : u * 2 ^ t < P53 := by
        have e3 := P53_two
        have := P52_pos
        omega
      have ht53 : t ≤ E74 + 53 := by
        apply Classical.byContradiction
        intro hc
        have q2 : P53 ≤ 2 ^ t := pow_P53 (by omega)
        have q3 : 2 ^ t ≤ u * 2 ^ t := Nat.le_mul_of_pos_left _ hu0
        omega
      refine Ev.step (fun k => ?_) (l1_ev s u q hu hu1 hq (E74 + 53 - t) t x (by omega) h hhi)
      simp only [spec_l1Parts.l0, h.gt, h.lt_neg, decide_eq_true_eq]
      rw [if_neg (by omega), if_neg (by omega)]
theorem l0_ev (s : Bool) (u q : Nat) (hu : u % 2 = 1) (hu1 : u < 9007199254740992) (hq : q < T98) : ∀ (t x : Nat), t ≤ q → St x s u t →
    Ev (fun k => spec_l1Parts.l0 k x ((q : Int) - t)) (sgn s u, (q : Int) - E74) := by
  intro t
  induction t with
  | zero => intro x htq h; exact l0_step s u q hu hu1 hq 0 x htq h (fun t' e => by omega)
  | succ t ih => intro x htq h; exact l0_step s u q hu hu1 hq (t + 1) x htq h (fun t' e x' h' => by have : t' = t := by omega
                                                                                                    subst this; exact ih x' (by omega) h')
/-- Every number that is not nought is an odd one times a power of two. -/
theorem odd_part : ∀ n : Nat, 0 < n → ∃ u b : Nat, u % 2 = 1 ∧ n = u * 2 ^ b ∧ u ≤ n := by
  intro n
  induction n using Nat.strongRecOn with
  | _ n ih =>
    intro h
    by_cases h2 : n % 2 = 1
    · exact ⟨n, 0, h2, by simp, Nat.le_refl _⟩
    · obtain ⟨u, b, hu, he, hle⟩ := ih (n / 2) (by omega) (by omega)
      refine ⟨u, b + 1, hu, ?_, by omega⟩
      rw [Nat.pow_succ, ← Nat.mul_assoc, ← he]
      omega
theorem st_of {x : Nat} (hx : x < 18446744073709551616) (hf : rg x < INF) (h0 : 0 < rg x) : ∃ u q : Nat, u % 2 = 1 ∧ u < 9007199254740992 ∧ q < T98 ∧ St x (sg x) u q := by
  obtain ⟨m, a, hm0, hm, hv, _⟩ := val_parts hf h0
  obtain ⟨u, b, hu, he, hle⟩ := odd_part m hm0
  have hval : val (rg x) = u * 2 ^ (a + b) := by rw [← hv, he, Nat.mul_assoc, ← Nat.pow_add, Nat.add_comm b]
  refine ⟨u, a + b, hu, by omega, ?_, ⟨hx, rfl, h0, hf, hval⟩⟩
  have h1 := val_lt hf
  rw [hval] at h1
  have h2 : 2 ^ (a + b) ≤ u * 2 ^ (a + b) := Nat.le_mul_of_pos_left _ (by omega)
  exact (Nat.pow_lt_pow_iff_right (by omega)).mp (Nat.lt_of_le_of_lt h2 h1)
theorem parts_ev {x u q : Nat} {s : Bool} (h : St x s u q) (hu : u % 2 = 1) (hu1 : u < 9007199254740992) (hq : q < T98) : Ev (fun k => spec_l1Parts.f k x) (sgn s u, (q : Int) - E74) := by
  have r := l0_ev s u q hu hu1 hq q x (Nat.le_refl _) h
  rw [Int.sub_self] at r
  exact r
theorem sub_self_fin {x : Nat} (h : rg x < INF) : fsubOk x x = true ∧ fsub x x = 0 := by
  obtain ⟨m, a, hr, _⟩ := read_fin h
  have e : Ieee.double.sub x x = some 0 := by
    unfold Ieee.Format.sub
    rw [hr]
    unfold Ieee.Datum.opposite Ieee.Datum.sum
    simp only [Option.map_some]
    have hz : Ieee.signed (sg x) m ((-1074 + (a : Int)) - min (-1074 + (a : Int)) (-1074 + (a : Int))).toNat + Ieee.signed (!sg x) m ((-1074 + (a : Int)) - min (-1074 + (a : Int)) (-1074 + (a : Int))).toNat = 0 := by
      unfold Ieee.signed
      cases sg x <;> simp <;> omega
    rw [hz]
    simp only [if_true, Int.natAbs_zero]
    rw [write_num, nearest_zero]
    cases sg x <;> rfl
  unfold fsubOk fsub
  rw [e]
  exact ⟨rfl, rfl⟩
theorem sub_self_inf {x : Nat} (h : rg x = INF) : fsubOk x x = false := by
  unfold fsubOk Ieee.Format.sub
  rw [read_inf h]
  unfold Ieee.Datum.opposite Ieee.Datum.sum
  cases sg x <;> rfl
theorem inf_eq (x : Nat) : spec_l1Inf.f x = some (decide (rg x = INF)) := by
  unfold spec_l1Inf.f
  rw [feq_self]
  cases hn : isNan x with
  | true =>
    have : INF < rg x := of_decide_eq_true hn
    rw [decide_eq_false (show ¬ rg x = INF by omega)]; rfl
  | false =>
    have hle : ¬ INF < rg x := of_decide_eq_false hn
    simp only [Bool.not_false, if_true]
    by_cases hi : rg x = INF
    · rw [sub_self_inf hi, decide_eq_true hi]; rfl
    · have := sub_self_fin (x := x) (by omega)
      rw [this.1, this.2, decide_eq_false hi, feq_self]
      rfl
theorem spec_nan (x : Nat) : spec_l1Nan.f x = some (isNan x) := by
  unfold spec_l1Nan.f; rw [feq_self]; cases isNan x <;> rfl
theorem spec_kind {x : Nat} (hx : x < 18446744073709551616) : Ev (fun k => spec_KindOf.f k x) (kindN x) := by
  simp only [spec_KindOf.f, spec_nan, inf_eq, Option.bind_some]
  unfold kindN
  cases hn : isNan x with
  | true => exact Ev.ite_pos rfl (Ev.now _)
  | false =>
    have hle : ¬ INF < rg x := of_decide_eq_false hn
    simp only [Bool.false_eq_true, if_false, decide_eq_true_eq]
    by_cases hi : rg x = INF
    · rw [if_pos hi]; exact Ev.ite_pos hi (Ev.now _)
    · rw [if_neg hi]
      refine Ev.ite_neg hi ?_
      rw [feq_eq hn nan_zero, key_zero]
      simp only [decide_eq_true_eq, key_rg_zero]
      by_cases hz : rg x = 0
      · rw [if_pos hz]; exact Ev.ite_pos hz (Ev.now _)
      · rw [if_neg hz]
        refine Ev.ite_neg hz ?_
        obtain ⟨u, q, hu, hu1, hq, hst⟩ := st_of hx (by omega) (by omega)
        rw [hst.val]
        refine Ev.bind (parts_ev hst hu hu1 hq) ?_
        simp only
        by_cases hd : E74 ≤ q
        · rw [if_pos ((odd_dvd hu).mpr hd)]; exact Ev.ite_pos (by omega) (Ev.now _)
        · rw [if_neg (fun w => hd ((odd_dvd hu).mp w))]; exact Ev.ite_neg (by omega) (Ev.now _)
theorem math_nan' (x : Nat) : math_IsNaN.f x = some (isNan x) := by
  unfold math_IsNaN.f; rw [feq_self]; cases isNan x <;> rfl
theorem math_inf' {x : Nat} (hx : x < 18446744073709551616) (hn : isNan x = false) : math_IsInf.f x 0 = some (decide (rg x = INF)) := by
  have hle : ¬ INF < rg x := of_decide_eq_false hn
  have hr := key_rg x
  have hnr : isNan (rg x) = false := by unfold isNan; rw [hr.2]; exact decide_eq_false hle
  have hmx : isNan 9218868437227405311 = false := by decide
  have hkm : key 9218868437227405311 = 9218868437227405311 := by decide
  simp only [math_IsInf.f, math_Abs.f, andNot_sign hx, Option.bind_some, if_true]
  rw [fgt_eq hnr hmx, hkm, hr.1]
  congr 1
  rw [decide_eq_decide]
  unfold INF at *
  omega
/-- A normal number: nothing is done to it. -/
theorem norm_normal {x : Nat} (hx : x < 18446744073709551616) (hf : rg x < INF) (h : 4503599627370496 ≤ rg x) : math_normalize.f x = some (x, 0) := by
  have hr := key_rg x
  have hnr : isNan (rg x) = false := by unfold isNan; rw [hr.2]; exact decide_eq_false (by omega)
  have hn2 : isNan 4503599627370496 = false := by decide
  have hk2 : key 4503599627370496 = 4503599627370496 := by decide
  simp only [math_normalize.f, math_Abs.f, andNot_sign hx, Option.bind_some]
  rw [flt_eq hnr hn2, hk2, hr.1, if_neg (by simp; omega)]
/-- A subnormal one is put 52 places up. -/
theorem norm_sub {x u q : Nat} {s : Bool} (h : St x s u q) (hu0 : 0 < u) (hu : u < 9007199254740992) (hs : rg x < 4503599627370496) : ∃ y, math_normalize.f x = some (y, -52) ∧ St y s u (q + 52) ∧ 4503599627370496 ≤ rg y := by
  have hr := key_rg x
  have hnr : isNan (rg x) = false := by unfold isNan; rw [hr.2]; exact decide_eq_false (by have := h.fin; omega)
  have hn2 : isNan 4503599627370496 = false := by decide
  have hk2 : key 4503599627370496 = 4503599627370496 := by decide
  have h52 : (2 : Nat) ^ 52 = 4503599627370496 := by decide
  have hv : val (rg x) = rg x := by unfold MIeee.val; rw [if_pos hs]
  have e : u * 2 ^ (q + 52) = u * 2 ^ q * 2 ^ 52 := by rw [Nat.pow_add, Nat.mul_assoc]
  have hlt : u * 2 ^ (q + 52) < 2 ^ T98 := by
    rw [e, ← h.val, hv]
    have q1 : rg x * 2 ^ 52 < 2 ^ 52 * 2 ^ 52 := Nat.mul_lt_mul_of_pos_right (by omega) (Nat.two_pow_pos _)
    rw [← Nat.pow_add] at q1
    exact Nat.lt_of_lt_of_le q1 (Nat.pow_le_pow_right (by omega) (by rw [T98_eq]; omega))
  obtain ⟨r, hr0, hrI, hrv⟩ := rung_of (q := q + 52) hu0 hu hlt
  have hm := mul_up (j := 52) pow_52 h.fin h.pos hr0 hrI (by rw [hrv, h.val, e])
  have hok := (mul_pow_ok pow_52 h.nan).1
  rw [h.sg] at hm
  refine ⟨_, ?_, st_word s hr0 hrI hrv, ?_⟩
  · simp only [math_normalize.f, math_Abs.f, andNot_sign h.lt, Option.bind_some]
    rw [flt_eq hnr hn2, hk2, hr.1, if_pos (by simp; omega), if_pos hok, hm]
  · have hI := inf_small
    rw [rg_word s (by omega)]
    apply Classical.byContradiction
    intro hc
    have h1 : val r = r := by unfold MIeee.val; rw [if_pos (by omega)]
    have h2 : val r = rg x * 4503599627370496 := by rw [hrv, e, ← h.val, hv, h52]
    have h3 := h.pos
    have h4 : 1 * 4503599627370496 ≤ rg x * 4503599627370496 := Nat.mul_le_mul_right _ h3
    omega
/-- The fields of a normal number: its fraction is the odd part, shifted. -/
theorem fields {x u q : Nat} {s : Bool} (h : St x s u q) (hu : u % 2 = 1) (hn : 4503599627370496 ≤ rg x) : ∃ e f : Nat, 1 ≤ e ∧ e ≤ 2046 ∧ f < 4503599627370496 ∧ rg x = e * 4503599627370496 + f ∧ e - 1 ≤ q ∧ 4503599627370496 + f = u * 2 ^ (q - (e - 1)) := by
  have hf := h.fin
  unfold INF at hf
  have er : rg x = (rg x / 4503599627370496) * 4503599627370496 + rg x % 4503599627370496 := by omega
  have he1 : 1 ≤ rg x / 4503599627370496 := by omega
  have he2 : rg x / 4503599627370496 ≤ 2046 := by omega
  have hf2 : rg x % 4503599627370496 < 4503599627370496 := Nat.mod_lt _ (by decide)
  have hv := h.val
  rw [er, val_norm he1 hf2] at hv
  generalize rg x / 4503599627370496 = e at *
  generalize rg x % 4503599627370496 = f at *
  have hq : e - 1 ≤ q := by
    apply Classical.byContradiction
    intro hc
    obtain ⟨d, hd⟩ : ∃ d, e - 1 = q + (d + 1) := ⟨e - 1 - q - 1, by omega⟩
    rw [hd, Nat.pow_add, ← Nat.mul_assoc, Nat.mul_comm _ (2 ^ q), Nat.mul_assoc, Nat.mul_comm u] at hv
    have h2 := Nat.eq_of_mul_eq_mul_left (Nat.two_pow_pos _) hv
    rw [Nat.pow_succ, ← Nat.mul_assoc] at h2
    omega
  refine ⟨e, f, he1, he2, hf2, er, hq, ?_⟩
  obtain ⟨d, hd⟩ : ∃ d, q = (e - 1) + d := ⟨q - (e - 1), by omega⟩
  rw [hd, Nat.pow_add, ← Nat.mul_assoc, Nat.mul_comm u, Nat.mul_assoc, Nat.mul_comm] at hv
  have h2 := Nat.eq_of_mul_eq_mul_left (Nat.two_pow_pos _) hv
  rw [hd, Nat.add_sub_cancel_left]
  exact h2
theorem frexp_ev {x u q : Nat} {s : Bool} (h : St x s u q) (hu : u % 2 = 1) (hu1 : u < 9007199254740992) (hq : q < T98) :
    ∃ (f : Nat) (b : Nat) (e : Int), f < 4503599627370496 ∧ 4503599627370496 + f = u * 2 ^ b ∧ e + b = (q : Int) - 1021 ∧ -2000 ≤ e ∧ e ≤ 2000 ∧ b ≤ 53 ∧ Ev (fun k => math_Frexp.f k x) (Ieee.double.word s (1022 * 4503599627370496 + f), e) := by
  have hz : feq x 0 = false := by
    rw [feq_eq h.nan nan_zero, key_zero]
    exact decide_eq_false (fun w => by have := key_rg_zero.mp w; have := h.pos; omega)
  have hi : math_IsInf.f x 0 = some false := by
    rw [math_inf' h.lt h.nan, decide_eq_false (by have := h.fin; omega)]
  have hT := T98_eq
  -- the number made normal, and by how many places
  have key : ∃ (y : Nat) (n : Nat), math_normalize.f x = some (y, -(n : Int)) ∧ St y s u (q + n) ∧ 4503599627370496 ≤ rg y ∧ n ≤ 52 := by
    by_cases hs : rg x < 4503599627370496
    · obtain ⟨y, hy, hst, hr⟩ := norm_sub h (by omega) hu1 hs
      exact ⟨y, 52, hy, hst, hr, by omega⟩
    · exact ⟨x, 0, norm_normal h.lt h.fin (by omega), h, by omega, by omega⟩
  obtain ⟨y, n, hy, hst, hr, hn⟩ := key
  obtain ⟨e, f, he1, he2, hf, er, heq, hm⟩ := fields hst hu hr
  have hb : q + n - (e - 1) ≤ 53 := by
    apply Classical.byContradiction
    intro hc
    have h1 : (2 : Nat) ^ 54 ≤ 2 ^ (q + n - (e - 1)) := Nat.pow_le_pow_right (by omega) (by omega)
    have h2 : 2 ^ (q + n - (e - 1)) ≤ u * 2 ^ (q + n - (e - 1)) := Nat.le_mul_of_pos_left _ (by omega)
    have h3 : (2 : Nat) ^ 54 = 18014398509481984 := by decide
    omega
  have hgs := set_exp (e := 1022) hst.lt (by omega)
  rw [show ((1022 * 4503599627370496 : Nat) : Int) = 4602678819172646912 from rfl, hst.sg] at hgs
  have hmod : rg y % 4503599627370496 = f := by rw [er]; omega
  have hdiv : rg y / 4503599627370496 = e := by rw [er]; omega
  rw [hmod] at hgs
  have hge := get_exp hst.lt
  rw [hdiv] at hge
  refine ⟨f, q + n - (e - 1), -(n : Int) + ((e : Int) - 1023 + 1), hf, hm, by omega, by omega, by omega, hb, ?_⟩
  refine Ev.congr (f := fun k => math_frexp.f k x) (fun k => by simp only [math_Frexp.f]; cases math_frexp.f k x <;> rfl) ?_
  simp only [math_frexp.f, hi, math_nan', h.nan, Option.bind_some]
  refine Ev.ite_neg (by simp [hz]) (Ev.ite_neg (by simp) ?_)
  refine Ev.step (f := fun _ => some (Ieee.double.word s (1022 * 4503599627370496 + f), -(n : Int) + ((e : Int) - 1023 + 1))) (fun k => ?_) (Ev.now _)
  simp only [math_frexp.j0, hy, Option.bind_some]
  rw [if_neg (by simp), hgs, hge, wrap_id (n := (e : Int)) (by omega) (by omega), wrap_id (n := (e : Int) - 1023) (by omega) (by omega), wrap_id (n := (e : Int) - 1023 + 1) (by omega) (by omega), wrap_id (by omega) (by omega)]
/-- What ldexp makes of a normal number. -/
def ldN (s : Bool) (e f : Nat) (n : Int) : Nat :=
  if n + ((e : Int) - 1023) < -1075 then Ieee.double.word s 0
  else if n + ((e : Int) - 1023) > 1023 then Ieee.double.word s INF
  else if n + ((e : Int) - 1023) < -1022 then fmul 4368491638549381120 (Ieee.double.word s ((n + (e : Int) + 53).toNat * 4503599627370496 + f))
  else Ieee.double.word s ((n + (e : Int)).toNat * 4503599627370496 + f)
theorem copy_zero {x : Nat} (hx : x < 18446744073709551616) : math_Copysign.f 0 x = some (Ieee.double.word (sg x) 0) := by
  have h63 : (2 : Nat) ^ 63 = 9223372036854775808 := by decide
  unfold math_Copysign.f
  congr 1
  have e1 := bits_andNot 0 9223372036854775808 (by omega) (by omega)
  have e2 := bits_and x 9223372036854775808 hx (by omega)
  rw [show ((0 : Nat) : Int) = 0 from rfl, show ((9223372036854775808 : Nat) : Int) = 9223372036854775808 from rfl, Nat.zero_and] at e1
  rw [show ((9223372036854775808 : Nat) : Int) = 9223372036854775808 from rfl] at e2
  have e3 : x &&& 9223372036854775808 = 2 ^ 63 * (if sg x = true then 1 else 0) := by
    apply Nat.eq_of_testBit_eq
    intro j
    have hx3 := word3 hx
    have hr := rg_lt x
    have hsb : (if sg x = true then 1 else 0) < 2 := by split <;> omega
    rw [Nat.testBit_and, show (9223372036854775808 : Nat) = 2 ^ 63 * 1 + (2 ^ 52 * 0 + 0) from by decide, tb3 _ _ _ _ (by omega) (by omega)]
    have e5 : (2 : Nat) ^ 63 * (if sg x = true then 1 else 0) = 2 ^ 63 * (if sg x = true then 1 else 0) + (2 ^ 52 * 0 + 0) := by simp
    rw [e5, tb3 _ _ _ _ (by omega) (by omega)]
    conv => lhs; lhs; rw [hx3]
    rw [tb3 _ _ _ _ (by omega) (by omega)]
    by_cases h : j < 63
    · rw [if_pos h, if_pos h, if_pos h]; split <;> simp
    · rw [if_neg h, if_neg h, if_neg h]
      generalize (if sg x = true then 1 else 0) = a at hsb
      rcases (show a = 0 ∨ a = 1 by omega) with rfl | rfl <;> simp
  rw [e2, e3]
  have e4 := bits_or 0 (2 ^ 63 * (if sg x = true then 1 else 0)) (by omega) (by rw [h63]; split <;> omega)
  rw [show ((0 : Nat) : Int) = 0 from rfl, Nat.zero_or] at e4
  rw [show ((0 : Nat) : Int) = 0 from rfl, e1, show ((0 : Nat) : Int) = 0 from rfl, e4, Int.toNat_natCast]
  unfold Ieee.Format.word
  rw [double_sign, h63]
  cases sg x <;> rfl
theorem ldexp_norm {x e f : Nat} {s : Bool} (hx : x = Ieee.double.word s (e * 4503599627370496 + f)) (he1 : 1 ≤ e) (he2 : e ≤ 2046) (hf : f < 4503599627370496) (n : Int) (hn : -3000 ≤ n ∧ n ≤ 3000) : math_Ldexp.f x n = some (ldN s e f n) := by
  have hI : INF = 9218868437227405312 := rfl
  have hr : rg x = e * 4503599627370496 + f := by rw [hx, rg_word s (by omega)]
  have hs : sg x = s := by rw [hx, sg_word s (by omega)]
  have hlt : x < 18446744073709551616 := by rw [hx]; exact word_lt s (by omega)
  have hfin : rg x < INF := by rw [hr, hI]; omega
  have hnan := fin_nan hfin
  have hz : feq x 0 = false := by
    rw [feq_eq hnan nan_zero, key_zero]
    exact decide_eq_false (fun w => by have := key_rg_zero.mp w; omega)
  have hi : math_IsInf.f x 0 = some false := by
    rw [math_inf' hlt hnan, decide_eq_false (by omega)]
  have hno := norm_normal hlt hfin (by omega)
  have hw : wrap64 ((x : Int) / 4503599627370496) = (x : Int) / 4503599627370496 := wrap_id (by omega) (by omega)
  have hge := get_exp_i64 hlt
  have hdiv : rg x / 4503599627370496 = e := by rw [hr]; omega
  have hmod : rg x % 4503599627370496 = f := by rw [hr]; omega
  rw [hdiv] at hge
  have hE : wrap64 (wrap64 (n + 0) + wrap64 ((e : Int) - 1023)) = n + ((e : Int) - 1023) := by
    rw [wrap_id (n := n + 0) (by omega) (by omega), wrap_id (n := (e : Int) - 1023) (by omega) (by omega), wrap_id (by omega) (by omega)]
    omega
  have hneg : flt x 0 = s := by
    rw [flt_eq hnan nan_zero, key_zero]
    unfold key
    rw [hs]
    cases s <;> simp <;> omega
  simp only [math_Ldexp.f, math_ldexp.f, hi, math_nan', hnan, hno, Option.bind_some, hw, hge, hE]
  rw [if_neg (by simp [hz]), if_neg (by simp), if_neg (by simp), copy_zero hlt, hs, hneg]
  unfold ldN
  by_cases c1 : n + ((e : Int) - 1023) < -1075
  · rw [if_pos c1, if_pos c1]; rfl
  · rw [if_neg c1, if_neg c1]
    by_cases c2 : n + ((e : Int) - 1023) > 1023
    · rw [if_pos c2, if_pos c2]
      cases s
      · rfl
      · rfl
    · rw [if_neg c2, if_neg c2]
      by_cases c3 : n + ((e : Int) - 1023) < -1022
      · rw [if_pos c3, if_pos c3]
        obtain ⟨g, hg⟩ : ∃ g : Nat, n + (e : Int) + 53 = (g : Int) := ⟨(n + (e : Int) + 53).toNat, by omega⟩
        have hwr : wrap64 (wrap64 (n + ((e : Int) - 1023) + 53) + 1023) = (g : Int) := by
          rw [wrap_id (n := n + ((e : Int) - 1023) + 53) (by omega) (by omega), wrap_id (by omega) (by omega)]; omega
        have hu : IntKind.u64.wrap (IntKind.u64.wrap (g : Int) * 4503599627370496) = ((g * 4503599627370496 : Nat) : Int) := by
          simp [IntKind.wrap, IntKind.bits, IntKind.signed]; omega
        rw [hwr, hu, set_exp hlt (by omega), hs, hmod, hg, Int.toNat_natCast]
        have hok := (mul_pow_ok' pow_m53 (x := Ieee.double.word s (g * 4503599627370496 + f)) (nan_word s (by rw [hI]; omega))).1
        rw [if_pos hok]
        rfl
      · rw [if_neg c3, if_neg c3]
        obtain ⟨g, hg⟩ : ∃ g : Nat, n + (e : Int) = (g : Int) := ⟨(n + (e : Int)).toNat, by omega⟩
        have hwr : wrap64 (n + ((e : Int) - 1023) + 1023) = (g : Int) := by
          rw [wrap_id (by omega) (by omega)]; omega
        have hu : IntKind.u64.wrap (IntKind.u64.wrap (g : Int) * 4503599627370496) = ((g * 4503599627370496 : Nat) : Int) := by
          simp [IntKind.wrap, IntKind.bits, IntKind.signed]; omega
        rw [hwr, hu, set_exp hlt (by omega), hs, hmod, hg, Int.toNat_natCast]
        have hrg : rg (Ieee.double.word s (g * 4503599627370496 + f)) = g * 4503599627370496 + f := rg_word s (by omega)
        have hsg : sg (Ieee.double.word s (g * 4503599627370496 + f)) = s := sg_word s (by omega)
        have hok := (mul_pow_ok' pow_zero_one (x := Ieee.double.word s (g * 4503599627370496 + f)) (nan_word s (by rw [hI]; omega))).1
        have hmu := mul_up' (j := 0) pow_zero_one (x := Ieee.double.word s (g * 4503599627370496 + f)) (by rw [hrg, hI]; omega) (by rw [hrg]; omega) (r := g * 4503599627370496 + f) (by omega) (by rw [hI]; omega) (by rw [hrg]; simp)
        rw [if_pos hok, hmu, hsg]
        rfl
theorem impl_l0_ev (s : Bool) (u : Nat) (hu : u % 2 = 1) : ∀ (b : Nat) (e : Int), u * 2 ^ b < 2 ^ 62 → -10000 ≤ e → e + b ≤ 10000 → Ev (fun k => impl_PartsOf.l0 k e (sgn s (u * 2 ^ b))) (sgn s u, e + b, true)
  | 0, e, hb, h1, h2 => by
    refine Ev.step (f := fun _ => some (sgn s u, e + (0 : Nat), true)) (fun k => ?_) (Ev.now _)
    simp only [impl_PartsOf.l0]
    rw [Nat.pow_zero, Nat.mul_one, if_neg (by rw [sgn_tmod]; omega)]
    simp
  | b + 1, e, hb, h1, h2 => by
    have e1 : u * 2 ^ (b + 1) = 2 * (u * 2 ^ b) := by rw [Nat.pow_succ]; simp only [Nat.mul_comm, Nat.mul_left_comm]
    have h62 : (2 : Nat) ^ 62 = 4611686018427387904 := by decide
    have ih := impl_l0_ev s u hu b (e + 1) (by omega) (by omega) (by omega)
    rw [show e + 1 + (b : Int) = e + ((b + 1 : Nat) : Int) from by omega] at ih
    refine Ev.step (fun k => ?_) ih
    simp only [impl_PartsOf.l0]
    rw [e1, if_pos (by rw [sgn_tmod]; omega), sgn_tdiv, wrap_id (n := e + 1) (by omega) (by omega), wrap_id]
    · unfold sgn; split <;> omega
    · unfold sgn; split <;> omega
/-- The parts of a number that is finite and not nought. -/
theorem impl_parts_ev {x u q : Nat} {s : Bool} (h : St x s u q) (hu : u % 2 = 1) (hu1 : u < 9007199254740992) (hq : q < T98) : Ev (fun k => impl_PartsOf.f k x) (sgn s u, (q : Int) - E74, true) := by
  have hT := T98_eq
  have hE := E74_eq
  obtain ⟨f, b, e, hf, hm, heb, he1, he2, hb, hfr⟩ := frexp_ev h hu hu1 hq
  have hk : ∃ v, impl_KindOf.f x = some v ∧ (v = 3 ∨ v = 4) := by
    refine ⟨_, impl_kind h.lt, ?_⟩
    unfold kindN
    rw [h.nan, if_neg (by simp), if_neg (by have := h.fin; omega), if_neg (by have := h.pos; omega)]
    split <;> simp
  obtain ⟨v, hv, hv34⟩ := hk
  have hld : math_Ldexp.f (Ieee.double.word s (1022 * 4503599627370496 + f)) 53 = some (Ieee.double.word s (1075 * 4503599627370496 + f)) := by
    rw [ldexp_norm (e := 1022) rfl (by omega) (by omega) hf 53 (by omega)]
    unfold ldN
    rw [if_neg (by decide), if_neg (by decide), if_neg (by decide)]
    rfl
  have hI : INF = 9218868437227405312 := rfl
  have hrg : rg (Ieee.double.word s (1075 * 4503599627370496 + f)) = 1075 * 4503599627370496 + f := rg_word s (by omega)
  have hsg : sg (Ieee.double.word s (1075 * 4503599627370496 + f)) = s := sg_word s (by omega)
  have hfin : rg (Ieee.double.word s (1075 * 4503599627370496 + f)) < INF := by rw [hrg, hI]; omega
  have hwh : whole (Ieee.double.word s (1075 * 4503599627370496 + f)) = u * 2 ^ b := by
    unfold whole
    rw [hrg, val_norm (by omega) hf, show (1075 - 1 : Nat) = E74 from rfl, Nat.mul_div_cancel _ (Nat.two_pow_pos _), hm]
  have hfi := fint_eq hfin (by rw [hwh, ← hm]; omega)
  have hsw : swhole (Ieee.double.word s (1075 * 4503599627370496 + f)) = sgn s (u * 2 ^ b) := by
    unfold swhole sgn; rw [hsg, hwh]
  have hL := impl_l0_ev s u hu b (e - 53) (by rw [← hm, show (2 : Nat) ^ 62 = 4611686018427387904 from by decide]; omega) (by omega) (by omega)
  rw [show e - 53 + (b : Int) = (q : Int) - (E74 : Int) from by omega] at hL
  have hj : Ev (fun k => impl_PartsOf.j0 k x false) (sgn s u, (q : Int) - E74, true) := by
    refine Ev.step (f := fun k => (math_Frexp.f k x).bind fun w => (math_Ldexp.f w.1 53).bind fun y => if fintOk y = true then impl_PartsOf.l0 k (wrap64 (w.2 - 53)) (fint y) else none) (fun k => by simp only [impl_PartsOf.j0]; rw [if_neg (by simp)]) ?_
    refine Ev.bind hfr (Ev.bind (Ev.const hld) (Ev.ite_pos hfi.1 ?_))
    rw [wrap_id (n := e - 53) (by omega) (by omega), hfi.2, hsw]
    exact hL
  refine Ev.congr (fun k => by simp only [impl_PartsOf.f]; rw [hv, Option.bind_some]) ?_
  rcases hv34 with rfl | rfl
  · exact Ev.ite_pos rfl hj
  · exact Ev.ite_neg (by decide) hj
def minus (x : Nat) : Bool := decide (key x < 0) || decide (x = 9223372036854775808)
theorem spec_minus {x : Nat} (hx : x < 18446744073709551616) : spec_IsMinus.f x = some (if isNan x = true then false else minus x) := by
  unfold spec_IsMinus.f
  cases hn : isNan x with
  | true => rw [flt_nan (.inl hn), feq_nan (.inl hn)]; rfl
  | false =>
    rw [flt_eq hn nan_zero, feq_eq hn nan_zero, key_zero]
    unfold minus
    by_cases h : key x < 0
    · simp [h]
    · by_cases h2 : key x = 0
      · rcases zero_cases hx (key_rg_zero.mp h2) with rfl | rfl
        · rw [if_neg (by simp [h]), if_pos (by simp [h2]), if_pos inv_pz.1, inv_pz.2.1]; rfl
        · rw [if_neg (by simp [h]), if_pos (by simp [h2]), if_pos inv_nz.1, inv_nz.2.1]; rfl
      · have : x ≠ 9223372036854775808 := by rintro rfl; exact h2 (by decide)
        simp [h, h2, this]
theorem wrap_neg {x : Nat} (hx : x < 18446744073709551616) : decide (wrap64 ((x : Nat) : Int) < 0) = decide (9223372036854775808 ≤ x) := by
  unfold wrap64
  rw [decide_eq_decide]
  omega
theorem impl_minus {x : Nat} (hx : x < 18446744073709551616) : impl_IsMinus.f x = some (if isNan x = true then false else minus x) := by
  unfold impl_IsMinus.f math_Signbit.f
  rw [wrap_neg hx]
  cases hn : isNan x with
  | true => rw [flt_nan (.inl hn), feq_nan (.inl hn)]; rfl
  | false =>
    rw [flt_eq hn nan_zero, feq_eq hn nan_zero, key_zero]
    unfold minus
    by_cases h : key x < 0
    · simp [h]
    · by_cases h2 : key x = 0
      · rcases zero_cases hx (key_rg_zero.mp h2) with rfl | rfl
        · rw [if_neg (by simp [h]), if_pos (by simp [h2])]; rfl
        · rw [if_neg (by simp [h]), if_pos (by simp [h2])]; rfl
      · have : x ≠ 9223372036854775808 := by rintro rfl; exact h2 (by decide)
        simp [h, h2, this]
/-! ### Texts -/
/-- A text out of its bytes. -/
def bs (l : List UInt8) : ByteArray := ⟨l.toArray⟩
theorem bs_size (l : List UInt8) : (bs l).size = l.length := by simp [bs, ByteArray.size]
theorem cat_bs (a b : List UInt8) : cat (bs a) (bs b) = bs (a ++ b) := by
  apply ByteArray.ext
  show (bs a ++ bs b).data = _
  rw [ByteArray.data_append]
  simp [bs]
theorem catOk_bs {a b : List UInt8} (h : a.length + b.length ≤ 9223372036854775807) : catOk (bs a) (bs b) = true := catOk_of (by rw [bs_size, bs_size]; exact h)
theorem one_num (d : Nat) (h : d < 10) : strOfNums ([(wrap64 (48 + (d : Int))) % 256] : List Int) = bs [UInt8.ofNat (48 + d)] := by
  have e : (wrap64 (48 + (d : Int))) % 256 = ((48 + d : Nat) : Int) := by rw [wrap_id (by omega) (by omega)]; omega
  rw [e]
  rfl
theorem dec_len (n : Nat) (h : (n : Int) ≤ 9223372036854775807) : (Lib.decDigits n).length ≤ 21 := by
  have := Lib.itoa_length_le (n : Int) (by omega) h
  rwa [Lib.itoa_nonneg] at this
theorem num_text : ∀ (n : Nat), (n : Int) ≤ 9223372036854775807 → Ev (fun k => spec_l1Num.f k (n : Int)) (bs (Lib.decDigits n)) := by
  intro n
  induction n using Nat.strongRecOn with
  | ind n ih =>
    intro hn
    by_cases h : n < 10
    · rw [Lib.decDigits_one h]
      refine Ev.step (f := fun _ => some (bs [UInt8.ofNat (48 + n)])) (fun k => ?_) (Ev.now _)
      simp only [spec_l1Num.f]
      rw [if_pos (by omega), one_num n h]
    · have hd : Lib.decDigits n = Lib.decDigits (n / 10) ++ [UInt8.ofNat (48 + n % 10)] := by rw [Lib.decDigits, dif_neg h]
      have hl := dec_len (n / 10) (by omega)
      refine Ev.step (f := fun k => (spec_l1Num.f k ((n / 10 : Nat) : Int)).bind fun t => (if catOk t (strOfNums ([(wrap64 (48 + ((n % 10 : Nat) : Int))) % 256] : List Int)) = true then (some (cat t (strOfNums ([(wrap64 (48 + ((n % 10 : Nat) : Int))) % 256] : List Int)))) else none)) (fun k => ?_) (Ev.bind (ih (n / 10) (by omega) (by omega)) ?_)
      · simp only [spec_l1Num.f]
        rw [if_neg (by omega)]
        have e1 : wrap64 (Int.tdiv (n : Int) 10) = ((n / 10 : Nat) : Int) := by
          have : Int.tdiv (n : Int) 10 = ((n / 10 : Nat) : Int) := rfl
          rw [this, wrap_id] <;> omega
        have e2 : Int.tmod (n : Int) 10 = ((n % 10 : Nat) : Int) := rfl
        rw [e1, e2]
        rfl
      · rw [one_num (n % 10) (by omega), hd]
        refine Ev.ite_pos (catOk_bs (by simp; omega)) ?_
        rw [cat_bs]
        exact Ev.now _
theorem num_text' (n : Int) (h0 : 0 ≤ n) (h1 : n ≤ 9223372036854775807) : Ev (fun k => spec_l1Num.f k n) (bs (Lib.itoa n)) := by
  obtain ⟨m, rfl⟩ : ∃ m : Nat, n = m := ⟨n.toNat, by omega⟩
  rw [Lib.itoa_nonneg]
  exact num_text m h1
theorem itoa_now (n : Int) (h0 : -9223372036854775808 ≤ n) (h1 : n ≤ 9223372036854775807) : strconv_Itoa.f n = some (bs (Lib.itoa n)) := by
  unfold strconv_Itoa.f
  rw [if_pos h0, if_pos h1]
  rfl
theorem sign_text (n : Int) (h0 : -9007199254740992 ≤ n) (h1 : n ≤ 9007199254740992) : Ev (fun k => spec_l1Sign.f k n) (bs (Lib.itoa n)) := by
  simp only [spec_l1Sign.f]
  by_cases h : n < 0
  · rw [wrap_id (n := -n) (by omega) (by omega)]
    have e45 : (⟨#[45]⟩ : ByteArray) = bs [45] := rfl
    have hl := Lib.itoa_length_le (-n) (by omega) (by omega)
    have ei : Lib.itoa n = [45] ++ Lib.itoa (-n) := by
      unfold Lib.itoa
      rw [if_pos h, if_neg (by omega)]
      have : (-n).toNat = n.natAbs := by omega
      rw [this]
      rfl
    refine Ev.ite_pos h (Ev.bind (num_text' (-n) (by omega) (by omega)) ?_)
    rw [e45, ei]
    refine Ev.ite_pos (catOk_bs (by simp only [List.length_cons, List.length_nil]; omega)) ?_
    rw [cat_bs]
    exact Ev.now _
  · exact Ev.ite_neg h (Ev.bind (num_text' n (by omega) (by omega)) (Ev.now _))
theorem impl_parts_some {x u q : Nat} (hx : x < 18446744073709551616) (hu : u % 2 = 1) (hu1 : u < 9007199254740992) (hq : q < T98) (hst : St x (sg x) u q) : Ev (fun k => impl_PartsOf.f k x) (sgn (sg x) u, (q : Int) - E74, true) := impl_parts_ev hst hu hu1 hq
theorem j0_ev {x : Nat} {kd : Int} (b : Bool) {r : ByteArray} (h : Ev (fun k => spec_NumText.j1 k x kd (bs (if b = true then [45] else []))) r) : Ev (fun k => spec_NumText.j0 k x kd (⟨#[]⟩ : ByteArray) b) r := by
  cases b with
  | true => refine Ev.step (fun k => ?_) h; simp only [spec_NumText.j0]; rw [if_pos trivial]; rfl
  | false => refine Ev.step (fun k => ?_) h; simp only [spec_NumText.j0]; rw [if_neg (by simp)]; rfl
theorem E74_le : (E74 : Int) ≤ 2000 ∧ (T98 : Int) ≤ 3000 := by decide
/-- A number's text is one and the same. -/
theorem numtext_same {x : Nat} (hx : x < 18446744073709551616) : ∃ r : List UInt8, r.length ≤ 50 ∧ Ev (fun k => spec_NumText.f k x) (bs r) ∧ Ev (fun k => impl_NumText.f k x) (bs r) := by
  have hsk := spec_kind hx
  have hik := impl_kind hx
  have hsm := spec_minus hx
  have him := impl_minus hx
  by_cases hn : isNan x = true
  · have e : kindN x = 0 := by unfold kindN; rw [if_pos hn]
    rw [e] at hsk hik
    simp only [spec_NumText.f, impl_NumText.f, hik, hsm, him, Option.bind_some]
    refine ⟨[110, 97, 110], by decide, Ev.bind hsk (Ev.ite_pos rfl (j0_ev false ?_)), Ev.ite_pos trivial (Ev.now _)⟩
    refine Ev.step (f := fun _ => some (bs [110, 97, 110])) (fun k => ?_) (Ev.now _)
    simp only [spec_NumText.j1]; rw [if_pos trivial]; rfl
  · have hn' : isNan x = false := by simpa using hn
    by_cases hi : rg x = INF
    · have e : kindN x = 1 := by unfold kindN; rw [if_neg hn, if_pos hi]
      have em : minus x = flt x 0 := by
        rw [flt_eq hn' nan_zero, key_zero]
        have : x ≠ 9223372036854775808 := by rintro rfl; exact absurd hi (by decide)
        simp [minus, this]
      rw [e] at hsk hik
      rw [if_neg hn, em] at hsm him
      simp only [spec_NumText.f, impl_NumText.f, hik, hsm, him, Option.bind_some]
      refine ⟨(if flt x 0 = true then [45] else []) ++ [105, 110, 102], by split <;> decide, Ev.bind hsk (Ev.ite_neg (by omega) (Ev.ite_pos (by omega) (j0_ev _ ?_))), Ev.ite_neg (by omega) (Ev.ite_pos trivial ?_)⟩
      · refine Ev.step (f := fun _ => some (bs ((if flt x 0 = true then [45] else []) ++ [105, 110, 102]))) (fun k => ?_) (Ev.now _)
        have e1 : (⟨#[105, 110, 102]⟩ : ByteArray) = bs [105, 110, 102] := rfl
        simp only [spec_NumText.j1]
        rw [if_neg (by omega), if_pos trivial, e1, if_pos (catOk_bs (by split <;> decide)), cat_bs]
      · cases flt x 0 with
        | true => exact Ev.ite_pos rfl (Ev.now _)
        | false => exact Ev.ite_neg (by simp) (Ev.now _)
    · by_cases hz : rg x = 0
      · have e : kindN x = 2 := by unfold kindN; rw [if_neg hn, if_neg hi, if_pos hz]
        rw [e] at hsk hik
        rw [if_neg hn] at hsm him
        simp only [spec_NumText.f, impl_NumText.f, hik, hsm, him, Option.bind_some]
        refine ⟨(if minus x = true then [45] else []) ++ [48], by split <;> decide, Ev.bind hsk (Ev.ite_neg (by omega) (Ev.ite_pos (by omega) (j0_ev _ ?_))), Ev.ite_neg (by omega) (Ev.ite_neg (by omega) (Ev.ite_pos trivial ?_))⟩
        · refine Ev.step (f := fun _ => some (bs ((if minus x = true then [45] else []) ++ [48]))) (fun k => ?_) (Ev.now _)
          have e1 : (⟨#[48]⟩ : ByteArray) = bs [48] := rfl
          simp only [spec_NumText.j1]
          rw [if_neg (by omega), if_neg (by omega), if_pos trivial, e1, if_pos (catOk_bs (by split <;> decide)), cat_bs]
        · cases minus x with
          | true => exact Ev.ite_pos rfl (Ev.now _)
          | false => exact Ev.ite_neg (by simp) (Ev.now _)
      · have hlt : rg x < INF := by
          have : ¬ INF < rg x := of_decide_eq_false hn'
          omega
        obtain ⟨u, q, hu, hu1, hq, hst⟩ := st_of hx hlt (by omega)
        have e : kindN x = 3 ∨ kindN x = 4 := by
          unfold kindN
          rw [if_neg hn, if_neg hi, if_neg hz]
          split
          · exact .inl rfl
          · exact .inr rfl
        simp only [spec_NumText.f, impl_NumText.f, hik, hsm, him, Option.bind_some]
        have hE := E74_le
        have hq' : (q : Int) < T98 := by omega
        have hs1 : -9007199254740992 ≤ sgn (sg x) u ∧ sgn (sg x) u ≤ 9007199254740992 := by
          unfold sgn
          split <;> omega
        have hx1 : -9007199254740992 ≤ (q : Int) - E74 ∧ (q : Int) - E74 ≤ 9007199254740992 := by omega
        have e112 : (⟨#[112]⟩ : ByteArray) = bs [112] := rfl
        have hl1 := Lib.itoa_length_le (sgn (sg x) u) (by omega) (by omega)
        have hl2 := Lib.itoa_length_le ((q : Int) - E74) (by omega) (by omega)
        refine ⟨Lib.itoa (sgn (sg x) u) ++ [112] ++ Lib.itoa ((q : Int) - E74), by simp only [List.length_append, List.length_cons, List.length_nil]; omega, Ev.bind hsk (Ev.ite_neg (by omega) (Ev.ite_neg (by omega) (j0_ev false ?_))), Ev.ite_neg (by omega) (Ev.ite_neg (by omega) (Ev.ite_neg (by omega) (Ev.bind (impl_parts_some hx hu hu1 hq hst) ?_)))⟩
        · refine Ev.step (f := fun k => (spec_l1Parts.f k x).bind fun bt124 => ((spec_l1Sign.f k bt124.1).bind fun t126 => (if catOk t126 (⟨#[112]⟩ : ByteArray) = true then ((spec_l1Sign.f k bt124.2).bind fun t127 => (if catOk (cat t126 (⟨#[112]⟩ : ByteArray)) t127 = true then (some (cat (cat t126 (⟨#[112]⟩ : ByteArray)) t127)) else (none))) else (none)))) (fun k => ?_) (Ev.bind (parts_ev hst hu hu1 hq) (Ev.bind (sign_text _ hs1.1 hs1.2) ?_))
          · simp only [spec_NumText.j1]
            rw [if_neg (by omega), if_neg (by omega), if_neg (by omega)]
          · rw [e112]
            refine Ev.ite_pos (catOk_bs (by simp only [List.length_cons, List.length_nil]; omega)) (Ev.bind (sign_text _ hx1.1 hx1.2) ?_)
            rw [cat_bs]
            refine Ev.ite_pos (catOk_bs (by simp only [List.length_append, List.length_cons, List.length_nil]; omega)) ?_
            rw [cat_bs]
            exact Ev.now _
        · rw [e112]
          refine Ev.congr (fun k => by rw [itoa_now (sgn (sg x) u) (by omega) (by omega), Option.bind_some]) (Ev.ite_pos (catOk_bs (by simp only [List.length_cons, List.length_nil]; omega)) ?_)
          refine Ev.congr (fun k => by rw [itoa_now ((q : Int) - E74) (by omega) (by omega), Option.bind_some, cat_bs]) (Ev.ite_pos (catOk_bs (by simp only [List.length_append, List.length_cons, List.length_nil]; omega)) ?_)
          rw [cat_bs]
          exact Ev.now _
/-- Two numbers are one: both no number, or the same bits. -/
def same (x y : Nat) : Bool := if isNan x = true then isNan y else decide (isNan y = false ∧ x = y)
theorem minus_pz : minus 0 = false := by decide
theorem minus_nz : minus 9223372036854775808 = true := by decide
theorem spec_same {x y : Nat} (hx : x < 18446744073709551616) (hy : y < 18446744073709551616) : Ev (fun k => spec_l1SameNum.f k x y) (same x y) := by
  simp only [spec_l1SameNum.f, spec_nan, Option.bind_some]
  unfold same
  cases hn : isNan x with
  | true =>
    rw [if_pos rfl]
    refine Ev.ite_pos rfl (Ev.step (f := fun _ => some (isNan y)) (fun k => ?_) (Ev.now _))
    simp only [spec_l1SameNum.j0, spec_nan, Option.bind_some]; rw [if_pos trivial, hn, if_pos rfl]
  | false =>
    rw [if_neg (by simp)]
    refine Ev.ite_neg (by simp) ?_
    cases hm : isNan y with
    | true =>
      rw [decide_eq_false (by simp)]
      refine Ev.step (f := fun _ => some false) (fun k => ?_) (Ev.now _)
      simp only [spec_l1SameNum.j0, spec_nan, Option.bind_some]; rw [if_pos trivial, hn, if_neg (by simp)]
    | false =>
      refine Ev.step (f := fun _ => some (decide (false = false ∧ x = y))) (fun k => ?_) (Ev.now _)
      simp only [spec_l1SameNum.j0, spec_minus hx, spec_minus hy, Option.bind_some]
      rw [if_neg (by simp), feq_eq hn hm, hn, hm]
      simp only [Bool.false_eq_true, if_false, decide_eq_true_eq, true_and]
      by_cases hk : key x = key y
      · rw [if_pos hk]
        congr 1
        by_cases h0 : rg x = 0
        · have hy0 : rg y = 0 := key_rg_zero.mp (hk ▸ key_rg_zero.mpr h0)
          rcases zero_cases hx h0 with rfl | rfl <;> rcases zero_cases hy hy0 with rfl | rfl <;> decide
        · have := key_inj hx hy h0 hk
          subst this
          simp
      · rw [if_neg hk]
        congr 1
        rw [eq_comm, decide_eq_false_iff_not]
        rintro rfl
        exact hk rfl
theorem math_nan (x : Nat) : math_IsNaN.f x = some (isNan x) := by
  unfold math_IsNaN.f; rw [feq_self]; cases isNan x <;> rfl
theorem impl_same {x y : Nat} : impl_SameNum.f x y = some (same x y) := by
  simp only [impl_SameNum.f, math_nan, Option.bind_some]
  unfold same
  cases hn : isNan x with
  | true =>
    rw [if_pos rfl, if_pos rfl]
    cases hm : isNan y with
    | true => rfl
    | false =>
      rw [if_neg (by simp)]
      congr 1
      rw [beq_eq_false_iff_ne]
      intro q
      have : x = y := by omega
      rw [this, hm] at hn
      cases hn
  | false =>
    rw [if_neg (by simp), if_neg (by simp)]
    congr 1
    rw [Bool.eq_iff_iff, beq_iff_eq, decide_eq_true_eq]
    constructor
    · intro q
      have : x = y := by omega
      exact ⟨this ▸ hn, this⟩
    · rintro ⟨_, rfl⟩; rfl
theorem l1In_dec (a b c : Int) : spec_l1In.f a b c = some (decide (b ≤ a ∧ a ≤ c)) := by
  unfold spec_l1In.f
  by_cases h : b ≤ a
  · rw [if_pos h]; simp [h]
  · rw [if_neg h]; simp [h]
theorem in_dec (a b c : Int) : impl_in.f a b c = some (decide (b ≤ a ∧ a ≤ c)) := l1In_dec a b c
def one1 (c : Int) : Prop := c = 2 ∨ c = 3 ∨ c = 10 ∨ c = 11 ∨ c = 12 ∨ c = 13 ∨ c = 14 ∨ c = 17
instance (c : Int) : Decidable (one1 c) := by unfold one1; infer_instance
def nm (c : Int) : Int := if one1 c then 1 else if c = 16 then 2 else 0
def us (c : Int) : List UInt8 := if c = 1 then [118] else if one1 c then [97] else if c = 16 then [97, 98] else []
theorem names_ev (c a b : Int) (v : Nat) : Ev (fun k => impl_Op_names.f k c a b v) (nm c) := by
  have hT : ∀ c, Ev (fun k => impl_Op_names.j0 k c true) 1 := fun c => Ev.step (f := fun _ => some 1) (fun k => by simp only [impl_Op_names.j0]; rw [if_pos trivial]) (Ev.now _)
  have hF : Ev (fun k => impl_Op_names.j0 k c false) (if c = 16 then 2 else 0) := Ev.step (f := fun _ => some (if c = 16 then 2 else 0)) (fun k => by simp only [impl_Op_names.j0]; rw [if_neg (by simp)]; split <;> rfl) (Ev.now _)
  unfold nm
  simp only [impl_Op_names.f]
  by_cases h2 : c = 2
  · rw [if_pos (show one1 c from Or.inl h2)]; subst h2; exact Ev.ite_pos rfl (hT _)
  refine Ev.ite_neg h2 ?_
  by_cases h3 : c = 3
  · rw [if_pos (by unfold one1; omega)]; subst h3; exact Ev.ite_pos rfl (hT _)
  refine Ev.ite_neg h3 ?_
  by_cases h10 : c = 10
  · rw [if_pos (by unfold one1; omega)]; subst h10; exact Ev.ite_pos rfl (hT _)
  refine Ev.ite_neg h10 ?_
  by_cases h11 : c = 11
  · rw [if_pos (by unfold one1; omega)]; subst h11; exact Ev.ite_pos rfl (hT _)
  refine Ev.ite_neg h11 ?_
  by_cases h12 : c = 12
  · rw [if_pos (by unfold one1; omega)]; subst h12; exact Ev.ite_pos rfl (hT _)
  refine Ev.ite_neg h12 ?_
  by_cases h13 : c = 13
  · rw [if_pos (by unfold one1; omega)]; subst h13; exact Ev.ite_pos rfl (hT _)
  refine Ev.ite_neg h13 ?_
  by_cases h14 : c = 14
  · rw [if_pos (by unfold one1; omega)]; subst h14; exact Ev.ite_pos rfl (hT _)
  refine Ev.ite_neg h14 ?_
  by_cases h17 : c = 17
  · rw [if_pos (by unfold one1; omega)]; subst h17; exact hT _
  · rw [if_neg (by unfold one1; omega)]
    have e : (c == 17) = false := by simp [h17]
    rw [e]; exact hF
theorem uses_ev (c : Int) : Ev (fun k => spec_l2Uses.f k c) (bs (us c)) := by
  have hT : ∀ c, Ev (fun k => spec_l2Uses.j0 k c true) (bs [97]) := fun c => Ev.step (f := fun _ => some (bs [97])) (fun k => by simp only [spec_l2Uses.j0]; rw [if_pos trivial]; rfl) (Ev.now _)
  have hF : Ev (fun k => spec_l2Uses.j0 k c false) (bs (if c = 16 then [97, 98] else [])) := Ev.step (f := fun _ => some (bs (if c = 16 then [97, 98] else []))) (fun k => by simp only [spec_l2Uses.j0]; rw [if_neg (by simp)]; split <;> rfl) (Ev.now _)
  unfold us
  simp only [spec_l2Uses.f]
  by_cases h1 : c = 1
  · rw [if_pos h1]; exact Ev.ite_pos h1 (Ev.now _)
  rw [if_neg h1]
  refine Ev.ite_neg h1 ?_
  by_cases h2 : c = 2
  · rw [if_pos (show one1 c from Or.inl h2)]; subst h2; exact Ev.ite_pos rfl (hT _)
  refine Ev.ite_neg h2 ?_
  by_cases h3 : c = 3
  · rw [if_pos (by unfold one1; omega)]; subst h3; exact Ev.ite_pos rfl (hT _)
  refine Ev.ite_neg h3 ?_
  by_cases h10 : c = 10
  · rw [if_pos (by unfold one1; omega)]; subst h10; exact Ev.ite_pos rfl (hT _)
  refine Ev.ite_neg h10 ?_
  by_cases h11 : c = 11
  · rw [if_pos (by unfold one1; omega)]; subst h11; exact Ev.ite_pos rfl (hT _)
  refine Ev.ite_neg h11 ?_
  by_cases h12 : c = 12
  · rw [if_pos (by unfold one1; omega)]; subst h12; exact Ev.ite_pos rfl (hT _)
  refine Ev.ite_neg h12 ?_
  by_cases h13 : c = 13
  · rw [if_pos (by unfold one1; omega)]; subst h13; exact Ev.ite_pos rfl (hT _)
  refine Ev.ite_neg h13 ?_
  by_cases h14 : c = 14
  · rw [if_pos (by unfold one1; omega)]; subst h14; exact Ev.ite_pos rfl (hT _)
  refine Ev.ite_neg h14 ?_
  by_cases h17 : c = 17
  · rw [if_pos (by unfold one1; omega)]; subst h17; exact hT _
  · rw [if_neg (by unfold one1; omega)]
    have e : (c == 17) = false := by simp [h17]
    rw [e]; exact hF
theorem cls (c : Int) : (c = 1 ∧ nm c = 0 ∧ us c = [118]) ∨ (c ≠ 1 ∧ nm c = 1 ∧ us c = [97]) ∨ (c ≠ 1 ∧ nm c = 2 ∧ us c = [97, 98]) ∨ (c ≠ 1 ∧ nm c = 0 ∧ us c = []) := by
  unfold nm us
  by_cases h1 : c = 1
  · subst h1; exact Or.inl ⟨rfl, by decide, by decide⟩
  · by_cases h2 : one1 c
    · refine Or.inr (Or.inl ⟨h1, by rw [if_pos h2], by rw [if_neg h1, if_pos h2]⟩)
    · by_cases h3 : c = 16
      · refine Or.inr (Or.inr (Or.inl ⟨h1, by rw [if_neg h2, if_pos h3], by rw [if_neg h1, if_neg h2, if_pos h3]⟩))
      · refine Or.inr (Or.inr (Or.inr ⟨h1, by rw [if_neg h2, if_neg h3], by rw [if_neg h1, if_neg h2, if_neg h3]⟩))
/-- Whether an op is one that is told. -/
def okO (c a b : Int) (v : Nat) : Bool := decide (1 ≤ c ∧ c ≤ 17) && (decide (nm c > 0) || decide (a = 0)) && (decide (nm c > 1) || decide (b = 0)) && (decide (c = 1) || same v 0)
theorem fits_ev (c a b : Int) (v : Nat) (hv : v < 18446744073709551616) : Ev (fun k => impl_Op_fits.f k c a b v) (okO c a b v) := by
  simp only [impl_Op_fits.f, in_dec, impl_same, Option.bind_some]
  refine Ev.bind (names_ev c a b v) ?_
  unfold okO
  by_cases h : 1 ≤ c ∧ c ≤ 17
  · refine Ev.ite_pos (decide_eq_true h) ?_
    rw [decide_eq_true h, Bool.true_and]
    rcases cls c with ⟨h1, h2, _⟩ | ⟨h1, h2, _⟩ | ⟨h1, h2, _⟩ | ⟨h1, h2, _⟩ <;> rw [h2]
    · refine Ev.ite_neg (by omega) ?_
      by_cases ha : a = 0
      · refine Ev.ite_pos ha (Ev.ite_neg (by omega) ?_)
        by_cases hb : b = 0
        · refine Ev.ite_pos hb (Ev.ite_pos h1 ?_)
          simpa [ha, hb, h1] using Ev.now true
        · refine Ev.ite_neg hb ?_
          simpa [ha, hb] using Ev.now false
      · refine Ev.ite_neg ha ?_
        simpa [ha] using Ev.now false
    · refine Ev.ite_pos (by omega) (Ev.ite_neg (by omega) ?_)
      by_cases hb : b = 0
      · refine Ev.ite_pos hb (Ev.ite_neg h1 ?_)
        simpa [hb, h1] using Ev.now (same v 0)
      · refine Ev.ite_neg hb ?_
        simpa [hb] using Ev.now false
    · refine Ev.ite_pos (by omega) (Ev.ite_pos (by omega) (Ev.ite_neg h1 ?_))
      simpa [h1] using Ev.now (same v 0)
    · refine Ev.ite_neg (by omega) ?_
      by_cases ha : a = 0
      · refine Ev.ite_pos ha (Ev.ite_neg (by omega) ?_)
        by_cases hb : b = 0
        · refine Ev.ite_pos hb (Ev.ite_neg h1 ?_)
          simpa [ha, hb, h1] using Ev.now (same v 0)
        · refine Ev.ite_neg hb ?_
          simpa [ha, hb] using Ev.now false
      · refine Ev.ite_neg ha ?_
        simpa [ha] using Ev.now false
  · refine Ev.ite_neg (by simpa using h) ?_
    rw [decide_eq_false h]
    simpa using Ev.now false
def okA (c a b : Int) (v : Nat) : Bool := okO c a b v && decide (0 ≤ a ∧ a ≤ 999) && decide (0 ≤ b ∧ b ≤ 999)
theorem bs_list (l : List UInt8) : (bs l).toList = l := by rw [ByteArray.toList_eq]; simp [bs]
theorem plain_ev (c a b : Int) (v : Nat) (hv : v < 18446744073709551616) : Ev (fun k => spec_l2Plain.f k c a b v) (okA c a b v) := by
  simp only [spec_l2Plain.f, l1In_dec, Option.bind_some]
  refine Ev.bind (uses_ev c) ?_
  rw [bs_list]
  unfold okA okO
  have hs := spec_same hv (show (0 : Nat) < 18446744073709551616 by decide)
  have hbe : (b == 0) = decide (b = 0) := by by_cases q : b = 0 <;> simp [q]
  by_cases h : 1 ≤ c ∧ c ≤ 17
  · refine Ev.ite_pos (decide_eq_true h) ?_
    rw [decide_eq_true h, Bool.true_and]
    by_cases h3 : 0 ≤ a ∧ a ≤ 999
    · refine Ev.ite_pos (decide_eq_true h3) ?_
      rw [decide_eq_true h3, Bool.and_true]
      by_cases h4 : 0 ≤ b ∧ b ≤ 999
      · refine Ev.ite_pos (decide_eq_true h4) ?_
        rw [decide_eq_true h4, Bool.and_true]
        rcases cls c with ⟨h1, h2, h5⟩ | ⟨h1, h2, h5⟩ | ⟨h1, h2, h5⟩ | ⟨h1, h2, h5⟩ <;> rw [h2, h5]
        · refine Ev.ite_pos (by decide) (Ev.ite_neg (by decide) (Ev.ite_neg (by decide) ?_))
          by_cases ha : a = 0
          · refine Ev.ite_pos ha ?_
            simpa [ha, h1, hbe] using Ev.now (decide (b = 0))
          · refine Ev.ite_neg ha ?_
            simpa [ha] using Ev.now false
        · refine Ev.ite_neg (by decide) (Ev.bind hs ?_)
          cases hq : same v 0 with
          | true =>
            refine Ev.ite_pos rfl (Ev.ite_pos (by decide) (Ev.ite_neg (by decide) ?_))
            simpa [h1, hbe] using Ev.now (decide (b = 0))
          | false =>
            refine Ev.ite_neg (by simp) ?_
            simpa [h1] using Ev.now false
        · refine Ev.ite_neg (by decide) (Ev.bind hs ?_)
          cases hq : same v 0 with
          | true =>
            refine Ev.ite_pos rfl (Ev.ite_neg (by decide) (Ev.ite_pos (by decide) ?_))
            simpa [h1] using Ev.now true
          | false =>
            refine Ev.ite_neg (by simp) ?_
            simpa [h1] using Ev.now false
        · refine Ev.ite_neg (by decide) (Ev.bind hs ?_)
          cases hq : same v 0 with
          | true =>
            refine Ev.ite_pos rfl (Ev.ite_neg (by decide) (Ev.ite_neg (by decide) ?_))
            by_cases ha : a = 0
            · refine Ev.ite_pos ha ?_
              simpa [ha, h1, hbe] using Ev.now (decide (b = 0))
            · refine Ev.ite_neg ha ?_
              simpa [ha] using Ev.now false
          | false =>
            refine Ev.ite_neg (by simp) ?_
            simpa [h1] using Ev.now false
      · refine Ev.ite_neg (by simpa using h4) ?_
        rw [decide_eq_false h4, Bool.and_false]
        exact Ev.now _
    · refine Ev.ite_neg (by simpa using h3) ?_
      rw [decide_eq_false h3, Bool.and_false, Bool.false_and]
      exact Ev.now _
  · refine Ev.ite_neg (by simpa using h) ?_
    rw [decide_eq_false h]
    simpa using Ev.now false
theorem data_bs2 (w : List UInt8) : (bs w).data.toList = w := by simp [bs]
theorem words_same : impl_opWords.f = spec_l2Words.f := rfl
theorem word_at : ∀ c : Nat, 1 ≤ c → c ≤ 17 → ∃ ws, spec_l2Words.f = some ws ∧ (c : Int) < (ws.length : Int) ∧ ∃ l : List UInt8, rdOf ByteArray.empty ws (c : Int) = bs l ∧ l.length ≤ 10 := by
  intro c h1 h2
  refine ⟨_, rfl, by simp only [List.length_cons, List.length_nil]; omega, ?_⟩
  have : c = 1 ∨ c = 2 ∨ c = 3 ∨ c = 4 ∨ c = 5 ∨ c = 6 ∨ c = 7 ∨ c = 8 ∨ c = 9 ∨ c = 10 ∨ c = 11 ∨ c = 12 ∨ c = 13 ∨ c = 14 ∨ c = 15 ∨ c = 16 ∨ c = 17 := by omega
  rcases this with h | h | h | h | h | h | h | h | h | h | h | h | h | h | h | h | h <;> subst h <;> exact ⟨_, rfl, by simp⟩
theorem go_nil (a b : Int) (v : Nat) (s : ByteArray) : Ev (fun k => spec_l2OpText.go k a b v [] s) s := by
  simp only [spec_l2OpText.go]; exact Ev.now _
theorem go_cons {a b : Int} {v : Nat} {u : UInt8} {r s t : List UInt8} {out : ByteArray} (ht : Ev (fun k => if u = 118 then spec_NumText.f k v else if u = 97 then spec_l1Num.f k a else spec_l1Num.f k b) (bs t)) (hs : s.length + t.length ≤ 1000000) (hr : Ev (fun k => spec_l2OpText.go k a b v r (bs (s ++ (32 :: t)))) out) : Ev (fun k => spec_l2OpText.go k a b v (u :: r) (bs s)) out := by
  simp only [spec_l2OpText.go]
  have e : cat (⟨#[32]⟩ : ByteArray) (bs t) = bs (32 :: t) := cat_bs [32] t
  refine Ev.bind ht (Ev.ite_pos (catOk_bs (a := [32]) (b := t) (by simp; omega)) (Ev.ite_pos ?_ ?_))
  · rw [e]; exact catOk_bs (by simp; omega)
  · rw [e, cat_bs]; exact hr
theorem l0_end (s : ByteArray) (xs : List Int) (i : Int) (h : i = (xs.length : Int)) : Ev (fun k => impl_OpText.l0 k s xs (xs.length : Int) i) (s, true) :=
  Ev.step (f := fun _ => some (s, true)) (fun k => by simp only [impl_OpText.l0]; rw [if_neg (by omega)]) (Ev.now _)
theorem ol0_step {s t : List UInt8} {xs : List Int} {i : Nat} {out : ByteArray × Bool} (hi : i < xs.length) (hl : xs.length ≤ 2) (hx : 0 ≤ rd xs (i : Int) ∧ rd xs (i : Int) ≤ 999) (ht : t = Lib.itoa (rd xs (i : Int))) (hs : s.length + t.length ≤ 1000000) (hr : Ev (fun k => impl_OpText.l0 k (bs (s ++ (32 :: t))) xs (xs.length : Int) ((i : Int) + 1)) out) : Ev (fun k => impl_OpText.l0 k (bs s) xs (xs.length : Int) (i : Int)) out := by
  have e : cat (⟨#[32]⟩ : ByteArray) (bs t) = bs (32 :: t) := cat_bs [32] t
  refine Ev.step (fun k => ?_) hr
  simp only [impl_OpText.l0]
  rw [if_pos (by omega), if_pos (by omega), if_pos (by omega), itoa_now _ (by omega) (by omega), Option.bind_some, ← ht, if_pos (show catOk (⟨#[32]⟩ : ByteArray) (bs t) = true from catOk_bs (a := [32]) (b := t) (by simp; omega)), e, if_pos (catOk_bs (by simp; omega)), cat_bs, wrap_id (by omega) (by omega)]
theorem itoa_len {n : Int} (h0 : 0 ≤ n) (h1 : n ≤ 999) : (Lib.itoa n).length ≤ 30 := by
  have e : Lib.itoa n = Lib.decDigits n.toNat := by unfold Lib.itoa; rw [if_neg (by omega)]
  rw [e]
  have := dec_len n.toNat (by omega)
  omega
theorem op_same {c a b : Int} {v : Nat} (hc : 1 ≤ c ∧ c ≤ 17) (ha : 0 ≤ a ∧ a ≤ 999) (hb : 0 ≤ b ∧ b ≤ 999) (hv : v < 18446744073709551616) :
    ∃ r, Ev (fun k => spec_l2OpText.f k c a b v) r ∧ Ev (fun k => impl_OpText.j0 k false c a b v) (r, true) := by
  obtain ⟨ws, hw, hlt, l, hl, hll⟩ := word_at c.toNat (by omega) (by omega)
  have ec : (c.toNat : Int) = c := by omega
  rw [ec] at hlt hl
  have hla := itoa_len ha.1 ha.2
  have hlb := itoa_len hb.1 hb.2
  have hS : ∀ {r : ByteArray}, ((us c).all (fun c => decide (c.toNat < 128)) = true) → Ev (fun k => spec_l2OpText.go k a b v (us c) (bs l)) r → Ev (fun k => spec_l2OpText.f k c a b v) r := by
    intro r h1 h2
    simp only [spec_l2OpText.f, hw, Option.bind_some]
    refine Ev.ite_pos (by omega) (Ev.ite_pos hlt (Ev.bind (uses_ev c) ?_))
    rw [data_bs2]
    refine Ev.ite_pos h1 ?_
    rw [hl]; exact h2
  have hI : ∀ {r : ByteArray}, (c = 1 → ∃ t : List UInt8, t.length ≤ 50 ∧ Ev (fun k => impl_NumText.f k v) (bs t) ∧ Ev (fun k => impl_OpText.j1 k (bs (l ++ (32 :: t))) c a b v) (r, true)) → (c ≠ 1 → Ev (fun k => impl_OpText.j1 k (bs l) c a b v) (r, true)) → Ev (fun k => impl_OpText.j0 k false c a b v) (r, true) := by
    intro r h1 h2
    refine Ev.step (f := fun k => (impl_opWords.f).bind fun t196 => (if 0 ≤ c then (if c < (t196.length : Int) then (if c = 1 then ((impl_NumText.f k v).bind fun t200 => (if catOk (⟨#[32]⟩ : ByteArray) t200 = true then (if catOk (rdOf ByteArray.empty t196 c) (cat (⟨#[32]⟩ : ByteArray) t200) = true then (impl_OpText.j1 k (cat (rdOf ByteArray.empty t196 c) (cat (⟨#[32]⟩ : ByteArray) t200)) c a b v) else (none)) else (none))) else (impl_OpText.j1 k (rdOf ByteArray.empty t196 c) c a b v)) else (none)) else (none))) (fun k => by simp only [impl_OpText.j0]; rw [if_neg (by simp)]) ?_
    simp only [words_same, hw, Option.bind_some]
    refine Ev.ite_pos (by omega) (Ev.ite_pos hlt ?_)
    rw [hl]
    by_cases q : c = 1
    · obtain ⟨t, ht, hn, hj⟩ := h1 q
      have e : cat (⟨#[32]⟩ : ByteArray) (bs t) = bs (32 :: t) := cat_bs [32] t
      refine Ev.ite_pos q (Ev.bind hn (Ev.ite_pos (catOk_bs (a := [32]) (b := t) (by simp; omega)) (Ev.ite_pos ?_ ?_)))
      · rw [e]; exact catOk_bs (by simp; omega)
      · rw [e, cat_bs]; exact hj
    · exact Ev.ite_neg q (h2 q)
  have hJ : ∀ {s r : ByteArray} (xs : List Int), xs = ([a, b] : List Int).take (nm c).toNat → 0 ≤ nm c → nm c ≤ 2 → Ev (fun k => impl_OpText.l0 k s xs (xs.length : Int) 0) (r, true) → Ev (fun k => impl_OpText.j1 k s c a b v) (r, true) := by
    intro s r xs hx h0 h2 h
    refine Ev.step (f := fun k => (impl_Op_names.f k c a b v).bind fun t204 => (if 0 ≤ t204 then (if t204 ≤ (([a, b] : List Int).length : Int) then ((some (([a, b] : List Int).take (t204 : Int).toNat : List Int)).bind fun y205 => (impl_OpText.l0 k s y205 (y205.length : Int) 0)) else (none)) else (none))) (fun k => by simp only [impl_OpText.j1, Option.bind_some]) ?_
    refine Ev.bind (names_ev c a b v) (Ev.ite_pos h0 (Ev.ite_pos (by simpa using h2) ?_))
    rw [← hx]
    exact h
  rcases cls c with ⟨h1, h2, h3⟩ | ⟨h1, h2, h3⟩ | ⟨h1, h2, h3⟩ | ⟨h1, h2, h3⟩
  · obtain ⟨t, ht, hs, hi⟩ := numtext_same hv
    refine ⟨bs (l ++ (32 :: t)), hS (by rw [h3]; decide) ?_, hI (fun _ => ⟨t, ht, hi, hJ [] (by rw [h2]; rfl) (by omega) (by omega) (l0_end _ [] 0 rfl)⟩) (fun q => absurd h1 q)⟩
    rw [h3]
    exact go_cons (by simpa using hs) (by omega) (go_nil _ _ _ _)
  · refine ⟨bs (l ++ (32 :: Lib.itoa a)), hS (by rw [h3]; decide) ?_, hI (fun q => absurd q h1) (fun _ => hJ [a] (by rw [h2]; rfl) (by omega) (by omega) ?_)⟩
    · rw [h3]
      exact go_cons (by simpa using num_text' a ha.1 (by omega)) (by omega) (go_nil _ _ _ _)
    · exact ol0_step (i := 0) (xs := [a]) (by simp) (by simp) ha rfl (by show l.length + (Lib.itoa a).length ≤ _; omega) (l0_end _ [a] _ rfl)
  · refine ⟨bs (l ++ (32 :: Lib.itoa a) ++ (32 :: Lib.itoa b)), hS (by rw [h3]; decide) ?_, hI (fun q => absurd q h1) (fun _ => hJ [a, b] (by rw [h2]; rfl) (by omega) (by omega) ?_)⟩
    · rw [h3]
      exact go_cons (by simpa using num_text' a ha.1 (by omega)) (by omega) (go_cons (by simpa using num_text' b hb.1 (by omega)) (by simp; omega) (go_nil _ _ _ _))
    · exact ol0_step (i := 0) (xs := [a, b]) (by simp) (by simp) ha rfl (by show l.length + (Lib.itoa a).length ≤ _; omega) (ol0_step (i := 1) (xs := [a, b]) (by simp) (by simp) hb rfl (by show (l ++ (32 :: Lib.itoa a)).length + (Lib.itoa b).length ≤ _; simp; omega) (l0_end _ [a, b] _ rfl))
  · refine ⟨bs l, hS (by rw [h3]; decide) ?_, hI (fun q => absurd q h1) (fun _ => hJ [] (by rw [h2]; rfl) (by omega) (by omega) (l0_end _ [] 0 rfl))⟩
    rw [h3]
    exact go_nil _ _ _ _
theorem okA_of {c a b : Int} {v : Nat} (h : okA c a b v = true) : (1 ≤ c ∧ c ≤ 17) ∧ (0 ≤ a ∧ a ≤ 999) ∧ (0 ≤ b ∧ b ≤ 999) := by
  unfold okA okO at h
  simp only [Bool.and_eq_true, decide_eq_true_eq] at h
  exact ⟨h.1.1.1.1.1, h.1.2, h.2⟩
theorem spec_ev {c a b : Int} {v : Nat} (hv : v < 18446744073709551616) : ∃ r, Ev (fun k => spec_OpText.f k c a b v) r ∧ Ev (fun k => impl_OpText.f k c a b v) r := by
  have hP := plain_ev c a b v hv
  have hF := fits_ev c a b v hv
  have hI : ∀ {r}, Ev (fun k => impl_OpText.j0 k (!okA c a b v) c a b v) r → Ev (fun k => impl_OpText.f k c a b v) r := by
    intro r h
    simp only [impl_OpText.f, in_dec, Option.bind_some]
    refine Ev.bind hF ?_
    unfold okA at h
    cases q : okO c a b v with
    | false => rw [q] at h; exact Ev.ite_neg (by simp) (by simpa using h)
    | true =>
      refine Ev.ite_pos rfl ?_
      by_cases qa : 0 ≤ a ∧ a ≤ 999
      · refine Ev.ite_pos (decide_eq_true qa) ?_
        rw [q, decide_eq_true qa, Bool.true_and, Bool.true_and] at h
        exact h
      · refine Ev.ite_neg (by simpa using qa) ?_
        rw [q, decide_eq_false qa, Bool.and_false, Bool.false_and] at h
        exact h
  cases q : okA c a b v with
  | false =>
    refine ⟨_, Ev.bind hP ?_, hI (Ev.step (f := fun _ => some ((⟨#[]⟩ : ByteArray), false)) (fun k => by simp only [impl_OpText.j0]; rw [if_pos (by simp [q])]) (Ev.now _))⟩
    rw [q]
    exact Ev.ite_neg (by simp) (Ev.now _)
  | true =>
    obtain ⟨h1, h2, h3⟩ := okA_of q
    obtain ⟨r, hs, hi⟩ := op_same h1 h2 h3 hv
    refine ⟨(r, true), Ev.bind hP ?_, hI (by rw [q]; exact hi)⟩
    rw [q]
    exact Ev.ite_pos rfl (Ev.bind hs (Ev.now _))
theorem FnExactOpText : laws_FnExactOpText.Pure2 := by
  rintro ⟨c, a, b, v⟩ ⟨_, _, _, hv⟩
  show ∃ k, laws_FnExactOpText.f k c a b v = some true
  apply Ev.rounds
  obtain ⟨⟨r1, r2⟩, hs, hi⟩ := spec_ev (c := c) (a := a) (b := b) hv
  simp only [laws_FnExactOpText.f, laws_toOp.f, Option.bind_some]
  exact Ev.bind hs (Ev.bind hi (Ev.ite_pos rfl (Ev.ite_neg (by simp) (Ev.now _))))

end Go.Proofs.YtfpibhpmcolggaaDoor.Pure

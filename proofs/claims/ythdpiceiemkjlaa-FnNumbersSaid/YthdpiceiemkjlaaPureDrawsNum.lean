/- What the draws of numbers answer: some number. -/
import Derived.Test.YthdpiceiemkjlaaGNumbersx5
import Derived.Test.YthdpiceiemkjlaaMBase
import Derived.KernelRfl
import Derived.Test.YthdpiceiemkjlaaMReal
import Derived.Test.YthdpiceiemkjlaaMNum
import Derived.Test.YthdpiceiemkjlaaGNumbersx1
import Derived.Test.YthdpiceiemkjlaaGNumbersx3
import Derived.Test.YthdpiceiemkjlaaGNumbersx4
import Derived.Laws.Bits64b
set_option linter.unusedVariables false
set_option linter.unusedSimpArgs false
namespace Go.Proofs.Ythdpiceiemkjlaa.Pure
open Go.RowKit Go.Proofs.Ythdpiceiemkjlaa.GNumbers Go.Proofs.YthdpiceiemkjlaaW.PrintWords Go.Proofs.YthdpiceiemkjlaaW.PrintLast Go.Proofs.YthdpiceiemkjlaaW.PrintMore Go.Proofs.Ythdpiceiemkjlaa.MBase
open Go.Proofs.Ythdpiceiemkjlaa Go.Proofs.Ythdpiceiemkjlaa.MNum Go.Proofs.Ythdpiceiemkjlaa.MIeee Go.Proofs.Ythdpiceiemkjlaa.MReal
/-- The kind of a number. -/
def kindN (x : Nat) : Int := if isNan x = true then 0 else if rg x = INF then 1 else if rg x = 0 then 2 else if 2 ^ E74 ∣ val (rg x) then 3 else 4
theorem impl_kind {x : Nat} (hx : x < 18446744073709551616) : impl_KindOf.f x = some (kindN x) := by
  simp only [impl_KindOf.f, math_IsNaN.f, math_IsInf.f, math_Abs.f, math_Trunc.f, Option.bind_some, feq_self, ftruncOk_eq, andNot_sign hx]
  unfold kindN
  have hI := inf_small
  cases hn : isNan x with
  | true => rfl
  | false =>
    have hle : ¬ INF < rg x := of_decide_eq_false hn
    have hr := key_rg x
    have hnr : isNan (rg x) = false := by unfold isNan; rw [hr.2]; exact decide_eq_false hle
    have hmx : isNan 9218868437227405311 = false := by decide
    have hkm : key 9218868437227405311 = 9218868437227405311 := by decide
    simp only [Bool.not_false, Bool.not_true, Bool.false_eq_true, if_false, if_true, fgt_eq hnr hmx, hkm, hr.1, feq_eq hn nan_zero, key_zero, key_rg_zero, decide_eq_true_eq, Option.bind_some]
    by_cases hi : rg x = INF
    · have : (9218868437227405311 : Int) < (rg x : Int) := by unfold INF at hi; omega
      rw [if_pos this, if_pos hi]
    · have h1 : ¬ (9218868437227405311 : Int) < (rg x : Int) := by unfold INF at hi hle; omega
      rw [if_neg h1, if_neg hi]
      by_cases hz : rg x = 0
      · rw [if_pos hz, if_pos hz]
      · rw [if_neg hz, if_neg hz, feq_trunc (show rg x < INF by omega)]
        simp only [decide_eq_true_eq]
        by_cases hd : 2 ^ E74 ∣ val (rg x)
        · rw [if_pos hd, if_pos hd]
        · rw [if_neg hd, if_neg hd]
def sgn (s : Bool) (n : Nat) : Int := if s = true then -(n : Int) else (n : Int)
theorem sgn_tmod (s : Bool) (n : Nat) : Int.tmod (sgn s n) 2 = 0 ↔ n % 2 = 0 := by
  unfold sgn
  have e : Int.tmod (n : Int) 2 = ((n % 2 : Nat) : Int) := by rw [Int.tmod_eq_emod_of_nonneg (by omega)]; omega
  cases s
  · simp only [Bool.false_eq_true, if_false]; rw [e]; omega
  · simp only [if_true]; rw [Int.neg_tmod, e]; omega
theorem sgn_tdiv (s : Bool) (n : Nat) : Int.tdiv (sgn s (2 * n)) 2 = sgn s n := by
  unfold sgn
  have e : Int.tdiv ((2 * n : Nat) : Int) 2 = (n : Int) := by rw [Int.tdiv_eq_ediv_of_nonneg (by omega)]; omega
  cases s
  · simp only [Bool.false_eq_true, if_false]; exact e
  · simp only [if_true]; rw [Int.neg_tdiv, e]
/-- A finite number, not nought: its sign, and u * 2^t in units of the least place. -/
structure St (x : Nat) (s : Bool) (u t : Nat) : Prop where
  lt : x < 18446744073709551616
  sg : sg x = s
  pos : 0 < rg x
  fin : rg x < INF
  val : val (rg x) = u * 2 ^ t
theorem st_word (s : Bool) {u t r : Nat} (h0 : 0 < r) (h : r < INF) (hv : val r = u * 2 ^ t) : St (Ieee.double.word s r) s u t := by
  have hI := inf_small
  exact ⟨word_lt s (by omega), sg_word s (by omega), by rw [rg_word s (by omega)]; exact h0, by rw [rg_word s (by omega)]; exact h, by rw [rg_word s (by omega)]; exact hv⟩
theorem St.nan {x u t : Nat} {s : Bool} (h : St x s u t) : isNan x = false := fin_nan h.fin
theorem St.top {x u t : Nat} {s : Bool} (h : St x s u t) : u * 2 ^ t < 2 ^ T98 := by rw [← h.val]; exact val_lt h.fin
theorem St.half {x u t : Nat} {s : Bool} (h : St x s u (t + 1)) (hu0 : 0 < u) (hu : u < 9007199254740992) : fdivOk x 4611686018427387904 = true ∧ St (fdiv x 4611686018427387904) s u t := by
  have e : u * 2 ^ (t + 1) = u * 2 ^ t * 2 := by rw [Nat.pow_succ, Nat.mul_assoc]
  have ht := h.top
  obtain ⟨r, hr0, hr, hv⟩ := rung_of (q := t) hu0 hu (by omega)
  refine ⟨(half_ok h.nan).1, ?_⟩
  rw [half_eq h.fin h.pos hr0 hr (by rw [hv, h.val, e]), h.sg]
  exact st_word s hr0 hr hv
theorem St.double {x u t : Nat} {s : Bool} (h : St x s u t) (hu0 : 0 < u) (hu : u < 9007199254740992) (ht : u * 2 ^ (t + 1) < 2 ^ T98) : fmulOk x 4611686018427387904 = true ∧ St (fmul x 4611686018427387904) s u (t + 1) := by
  have e : u * 2 ^ (t + 1) = u * 2 ^ t * 2 := by rw [Nat.pow_succ, Nat.mul_assoc]
  obtain ⟨r, hr0, hr, hv⟩ := rung_of (q := t + 1) hu0 hu ht
  refine ⟨(mul_pow_ok pow_two h.nan).1, ?_⟩
  rw [mul_up (j := 1) pow_two h.fin h.pos hr0 hr (by rw [hv, h.val, e, Nat.pow_one]), h.sg]
  exact st_word s hr0 hr hv
/-- The bound of the loops. -/
def B52 : Nat := E74 + 52
def B53 : Nat := E74 + 53
def P52 : Nat := 2 ^ B52
def P53 : Nat := 2 ^ B53
theorem B52_eq : B52 = E74 + 52 := rfl
theorem B53_eq : B53 = E74 + 53 := rfl
theorem P52_eq : P52 = 2 ^ B52 := rfl
theorem P53_eq : P53 = 2 ^ B53 := rfl
theorem P52_pos : 0 < P52 := Nat.two_pow_pos _
theorem P53_two : P53 = P52 * 2 := by
  rw [P53_eq, P52_eq, show B53 = B52 + 1 from by rw [B53_eq, B52_eq], Nat.pow_succ]
theorem P53_top : P53 ≤ 2 ^ T98 := by
  rw [P53_eq]
  exact Nat.pow_le_pow_right (by omega) (by rw [B53_eq, E74_eq, T98_eq]; omega)
theorem pow_P52 {t : Nat} (h : E74 + 52 ≤ t) : P52 ≤ 2 ^ t := by
  rw [P52_eq]; exact Nat.pow_le_pow_right (by omega) (by rw [B52_eq]; omega)
theorem pow_P53 {t : Nat} (h : E74 + 53 ≤ t) : P53 ≤ 2 ^ t := by
  rw [P53_eq]; exact Nat.pow_le_pow_right (by omega) (by rw [B53_eq]; omega)
theorem le_P52 {t : Nat} (h : t ≤ E74 + 52) : 2 ^ t ≤ P52 := by
  rw [P52_eq]; exact Nat.pow_le_pow_right (by omega) (by rw [B52_eq]; omega)
theorem edge : sval 4841369599423283200 = (P52 : Int) ∧ isNan 4841369599423283200 = false := by refine ⟨?_, ?_⟩ <;> kernel_rfl
theorem edge_neg : sval 14064741636278059008 = -(P52 : Int) ∧ isNan 14064741636278059008 = false := by refine ⟨?_, ?_⟩ <;> kernel_rfl
theorem St.sval {x u t : Nat} {s : Bool} (h : St x s u t) : sval x = sgn s (u * 2 ^ t) := by
  unfold MIeee.sval sgn
  rw [h.sg, h.val]
theorem St.gt {x u t : Nat} {s : Bool} (h : St x s u t) : fgt x 4841369599423283200 = decide (s = false ∧ P52 < u * 2 ^ t) := by
  rw [fgt_eq h.nan edge.2, decide_eq_decide, ← sval_lt_iff, edge.1, h.sval]
  unfold sgn
  cases s
  · simp only [Bool.false_eq_true, if_false, true_and]; omega
  · simp only [if_true, reduceCtorEq, false_and, iff_false]; omega
theorem St.lt_neg {x u t : Nat} {s : Bool} (h : St x s u t) : flt x 14064741636278059008 = decide (s = true ∧ P52 < u * 2 ^ t) := by
  rw [flt_eq h.nan edge_neg.2, decide_eq_decide, ← sval_lt_iff, edge_neg.1, h.sval]
  unfold sgn
  have hp := P52_pos
  cases s
  · simp only [Bool.false_eq_true, if_false, false_and, iff_false]; omega
  · simp only [if_true, true_and]; omega
theorem St.lt_pos {x u t : Nat} {s : Bool} (h : St x s u t) (hu0 : 0 < u) : flt x 4841369599423283200 = decide (s = true ∨ u * 2 ^ t < P52) := by
  rw [flt_eq h.nan edge.2, decide_eq_decide, ← sval_lt_iff, edge.1, h.sval]
  have hq : 0 < u * 2 ^ t := Nat.mul_pos hu0 (Nat.two_pow_pos _)
  unfold sgn
  cases s
  · simp only [Bool.false_eq_true, if_false, false_or]; omega
  · simp only [if_true, true_or, iff_true]; omega
theorem St.gt_neg {x u t : Nat} {s : Bool} (h : St x s u t) (hu0 : 0 < u) : fgt x 14064741636278059008 = decide (s = false ∨ u * 2 ^ t < P52) := by
  rw [fgt_eq h.nan edge_neg.2, decide_eq_decide, ← sval_lt_iff, edge_neg.1, h.sval]
  have hp := P52_pos
  unfold sgn
  cases s
  · simp only [Bool.false_eq_true, if_false, true_or, iff_true]; omega
  · simp only [if_true, reduceCtorEq, false_or]; omega
theorem odd_dvd {u t : Nat} (hu : u % 2 = 1) : 2 ^ E74 ∣ u * 2 ^ t ↔ E74 ≤ t := by
  constructor
  · intro h
    apply Classical.byContradiction
    intro hc
    obtain ⟨d, hd⟩ : ∃ d, E74 = t + (d + 1) := ⟨E74 - t - 1, by omega⟩
    rw [hd, Nat.pow_add, Nat.mul_comm u] at h
    have h2 : 2 ^ (d + 1) ∣ u := Nat.dvd_of_mul_dvd_mul_left (Nat.two_pow_pos _) h
    have h3 : 2 ∣ u := Nat.dvd_trans ⟨2 ^ d, by rw [Nat.pow_succ, Nat.mul_comm]⟩ h2
    omega
  · intro h
    exact Nat.dvd_trans (Nat.pow_dvd_pow 2 h) (Nat.dvd_mul_left _ _)
theorem whole_at {x u t : Nat} {s : Bool} (h : St x s u t) (hE : E74 ≤ t) : whole x = u * 2 ^ (t - E74) := by
  unfold whole
  rw [h.val, show u * 2 ^ t = u * 2 ^ (t - E74) * 2 ^ E74 from by rw [Nat.mul_assoc, ← Nat.pow_add]; congr 2; omega, Nat.mul_div_cancel _ (Nat.two_pow_pos _)]
theorem whole_le {x u t b : Nat} {s : Bool} (h : St x s u t) (hb : u * 2 ^ t < 2 ^ (E74 + b)) : whole x < 2 ^ b := by
  unfold whole
  rw [h.val, Nat.div_lt_iff_lt_mul (Nat.two_pow_pos _), ← Nat.pow_add, Nat.add_comm b]
  exact hb
theorem whole_le52 {x u t : Nat} {s : Bool} (h : St x s u t) (hb : u * 2 ^ t < P52) : whole x < 4503599627370496 := by
  rw [P52_eq, B52_eq] at hb
  exact Nat.lt_of_lt_of_eq (whole_le h hb) (by decide)
theorem whole_le53 {x u t : Nat} {s : Bool} (h : St x s u t) (hb : u * 2 ^ t < P53) : whole x < 9007199254740992 := by
  rw [P53_eq, B53_eq] at hb
  exact Nat.lt_of_lt_of_eq (whole_le h hb) (by decide)
theorem swhole_sgn {x u t : Nat} {s : Bool} (h : St x s u t) : swhole x = sgn s (whole x) := by
  unfold swhole sgn; rw [h.sg]
theorem l2_ev (s : Bool) (u : Nat) (hu : u % 2 = 1) : ∀ (b : Nat) (e : Int), u * 2 ^ b < 2 ^ 62 → -10000 ≤ e → e + b ≤ 10000 → Ev (fun k => spec_l1Parts.l2 k e (sgn s (u * 2 ^ b))) (sgn s u, e + b)
  | 0, e, hb, h1, h2 => by
    refine Ev.step (f := fun _ => some (sgn s u, e + (0 : Nat))) (fun k => ?_) (Ev.now _)
    simp only [spec_l1Parts.l2]
    rw [Nat.pow_zero, Nat.mul_one, if_neg (by rw [sgn_tmod]; omega)]
    simp
  | b + 1, e, hb, h1, h2 => by
    have e1 : u * 2 ^ (b + 1) = 2 * (u * 2 ^ b) := by rw [Nat.pow_succ]; simp only [Nat.mul_comm, Nat.mul_left_comm]
    have h62 : (2 : Nat) ^ 62 = 4611686018427387904 := by decide
    have ih := l2_ev s u hu b (e + 1) (by omega) (by omega) (by omega)
    rw [show e + 1 + (b : Int) = e + ((b + 1 : Nat) : Int) from by omega] at ih
    refine Ev.step (fun k => ?_) ih
    simp only [spec_l1Parts.l2]
    rw [e1, if_pos (by rw [sgn_tmod]; omega), sgn_tdiv, wrap_id (n := e + 1) (by omega) (by omega), wrap_id]
    · unfold sgn; split <;> omega
    · unfold sgn; split <;> omega
/-- The last part: a whole number that is not less than 2^52. -/
theorem j2_end {x u t : Nat} {s : Bool} (h : St x s u t) (hu : u % 2 = 1) (hu1 : u < 9007199254740992) (e : Int) (he : -5000 ≤ e ∧ e ≤ 4000) (hlo : P52 ≤ u * 2 ^ t) (hhi : u * 2 ^ t < P53) (htb : t < T98) :
    Ev (fun k => spec_l1Parts.j2 k x e false) (sgn s u, e + t - E74) := by
  have h53 : (2 : Nat) ^ 53 = 9007199254740992 := by decide
  have h62 : (2 : Nat) ^ 62 = 4611686018427387904 := by decide
  have hE : E74 ≤ t := by
    apply Classical.byContradiction
    intro hc
    have q1 : u * 2 ^ t < 2 ^ 53 * 2 ^ t := Nat.mul_lt_mul_of_pos_right (by omega) (Nat.two_pow_pos _)
    rw [← Nat.pow_add] at q1
    have q2 : (2 : Nat) ^ (53 + t) ≤ P52 := le_P52 (by omega)
    omega
  have hw := whole_at h hE
  have hwl := whole_le53 h hhi
  have hf := fint_eq h.fin (by omega)
  have hT := T98_eq
  have hL := l2_ev s u hu (t - E74) e (by omega) (by omega) (by omega)
  rw [show e + ((t - E74 : Nat) : Int) = e + (t : Int) - (E74 : Int) from by omega] at hL
  refine Ev.step (fun k => ?_) hL
  simp only [spec_l1Parts.j2]
  rw [if_neg (by simp), if_pos hf.1, hf.2, swhole_sgn h, hw]
theorem l1_step (s : Bool) (u q : Nat) (hu : u % 2 = 1) (hu1 : u < 9007199254740992) (hq : q < T98) (t x : Nat) (htb : t ≤ E74 + 53) (h : St x s u t) (hhi : u * 2 ^ t < P53)
    (ih : t < E74 + 52 → ∀ x', St x' s u (t + 1) → u * 2 ^ (t + 1) < P53 → Ev (fun k => spec_l1Parts.l1 k x' ((q : Int) - ((t + 1 : Nat) : Int))) (sgn s u, (q : Int) - E74)) :
    Ev (fun k => spec_l1Parts.l1 k x ((q : Int) - t)) (sgn s u, (q : Int) - E74) := by
    have hEq := E74_eq
    have hT := T98_eq
    have hu0 : 0 < u := by omega
    have hstep : ∀ k, spec_l1Parts.l1 (k+1) x ((q : Int) - t) = spec_l1Parts.j2 k x ((q : Int) - t) (decide (u * 2 ^ t < P52)) := by
      intro k
      simp only [spec_l1Parts.l1, h.lt_pos hu0, h.gt_neg hu0, decide_eq_true_eq]
      cases s
      · simp only [Bool.false_eq_true, false_or, true_or, decide_true]
        by_cases c : u * 2 ^ t < P52
        · rw [if_pos c, decide_eq_true c]
        · rw [if_neg c, decide_eq_false c]
      · simp only [true_or, if_true, reduceCtorEq, false_or]
    refine Ev.step hstep ?_
    by_cases c : u * 2 ^ t < P52
    · rw [decide_eq_true c]
      have h52 : (2 : Nat) ^ 52 = 4503599627370496 := by decide
      have hwl := whole_le52 h c
      have hf := fint_eq h.fin (by omega)
      have hfe := feq_fint h.fin (by omega)
      rw [h.val] at hfe
      by_cases ht : t = E74
      · subst ht
        have hw := whole_at h (Nat.le_refl _)
        rw [Nat.sub_self, Nat.pow_zero, Nat.mul_one] at hw
        refine Ev.step (f := fun _ => some (sgn s u, (q : Int) - E74)) (fun k => ?_) (Ev.now _)
        simp only [spec_l1Parts.j2]
        rw [if_pos trivial, if_pos hf.1, hfe, if_pos (decide_eq_true ((odd_dvd hu).mpr (Nat.le_refl _))), hf.2, swhole_sgn h, hw, if_neg (by rw [sgn_tmod]; omega)]
      · have ht53 : t < E74 + 52 := by
          apply Classical.byContradiction
          intro hc
          have q2 : P52 ≤ 2 ^ t := pow_P52 (by omega)
          have q3 : 2 ^ t ≤ u * 2 ^ t := Nat.le_mul_of_pos_left _ hu0
          omega
        have e2 : u * 2 ^ (t + 1) = u * 2 ^ t * 2 := by rw [Nat.pow_succ, Nat.mul_assoc]
        have e3 := P53_two
        have hhi2 : u * 2 ^ (t + 1) < P53 := by omega
        have htop : u * 2 ^ (t + 1) < 2 ^ T98 := Nat.lt_of_lt_of_le hhi2 P53_top
        have hm := h.double hu0 hu1 htop
        have hgo := ih ht53 _ hm.2 hhi2
        refine Ev.step (fun k => ?_) hgo
        simp only [spec_l1Parts.j2]
        have hw1 : wrap64 ((q : Int) - (t : Int) - 1) = (q : Int) - ((t + 1 : Nat) : Int) := by rw [wrap_id] <;> omega
        rw [if_pos trivial, if_pos hf.1, hfe, if_pos hm.1, hw1]
        by_cases hE : E74 ≤ t
        · have hw := whole_at h hE
          rw [if_pos (decide_eq_true ((odd_dvd hu).mpr hE)), hf.2, swhole_sgn h, hw, if_pos]
          rw [sgn_tmod, show t - E74 = (t - E74 - 1) + 1 from by omega, Nat.pow_succ, ← Nat.mul_assoc, Nat.mul_mod_left]
        · rw [if_neg (by simp only [decide_eq_true_eq]; rw [odd_dvd hu]; exact hE)]
    · rw [decide_eq_false c]
      have r := j2_end h hu hu1 ((q : Int) - t) ⟨by omega, by omega⟩ (by omega) hhi (by omega)
      rw [show (q : Int) - (t : Int) + (t : Int) - (E74 : Int) = (q : Int) - E74 from by omega] at r
      exact r
theorem l1_ev (s : Bool) (u q : Nat) (hu : u % 2 = 1) (hu1 : u < 9007199254740992) (hq : q < T98) : ∀ (d t x : Nat), t + d = E74 + 53 → St x s u t → u * 2 ^ t < P53 →
    Ev (fun k => spec_l1Parts.l1 k x ((q : Int) - t)) (sgn s u, (q : Int) - E74) := by
  intro d
  induction d with
  | zero => intro t x hd h hhi; exact l1_step s u q hu hu1 hq t x (by omega) h hhi (fun c => by omega)
  | succ d ih => intro t x hd h hhi; exact l1_step s u q hu hu1 hq t x (by omega) h hhi (fun _ x' h' hh' => ih (t + 1) x' (by omega) h' hh')
theorem l0_step (s : Bool) (u q : Nat) (hu : u % 2 = 1) (hu1 : u < 9007199254740992) (hq : q < T98) (t x : Nat) (htq : t ≤ q) (h : St x s u t)
    (ih : ∀ t', t = t' + 1 → ∀ x', St x' s u t' → Ev (fun k => spec_l1Parts.l0 k x' ((q : Int) - t')) (sgn s u, (q : Int) - E74)) :
    Ev (fun k => spec_l1Parts.l0 k x ((q : Int) - t)) (sgn s u, (q : Int) - E74) := by
    have hEq := E74_eq
    have hT := T98_eq
    have hu0 : 0 < u := by omega
    have h53 : (2 : Nat) ^ 53 = 9007199254740992 := by decide
    by_cases c : P52 < u * 2 ^ t
    · cases t with
      | zero =>
        exfalso
        rw [Nat.pow_zero, Nat.mul_one] at c
        have q2 : (2 : Nat) ^ 53 ≤ P52 := le_P52 (by omega)
        omega
      | succ t =>
        have hh := h.half hu0 hu1
        have hgo := ih t rfl _ hh.2
        have hw1 : wrap64 ((q : Int) - ((t + 1 : Nat) : Int) + 1) = (q : Int) - (t : Int) := by rw [wrap_id] <;> omega
        refine Ev.step (fun k => ?_) hgo
        simp only [spec_l1Parts.l0, h.gt, h.lt_neg, decide_eq_true_eq]
        rw [hw1, if_pos hh.1]
        cases s
        · rw [if_pos ⟨rfl, c⟩]
        · rw [if_neg (by simp), if_pos ⟨rfl, c⟩]
    · have hhi : u * 2 ^ t < P53 := by
        have e3 := P53_two
        have := P52_pos
        omega
      have ht53 : t ≤ E74 + 53 := by
        apply Classical.byContradiction
        intro hc
        have q2 : P53 ≤ 2 ^ t := pow_P53 (by omega)
        have q3 : 2 ^ t ≤ u * 2 ^ t := Nat.le_mul_of_pos_left _ hu0
        omega
      refine Ev.step (fun k => ?_) (l1_ev s u q hu hu1 hq (E74 + 53 - t) t x (by omega) h hhi)
      simp only [spec_l1Parts.l0, h.gt, h.lt_neg, decide_eq_true_eq]
      rw [if_neg (by omega), if_neg (by omega)]
theorem l0_ev (s : Bool) (u q : Nat) (hu : u % 2 = 1) (hu1 : u < 9007199254740992) (hq : q < T98) : ∀ (t x : Nat), t ≤ q → St x s u t →
    Ev (fun k => spec_l1Parts.l0 k x ((q : Int) - t)) (sgn s u, (q : Int) - E74) := by
  intro t
  induction t with
  | zero => intro x htq h; exact l0_step s u q hu hu1 hq 0 x htq h (fun t' e => by omega)
  | succ t ih => intro x htq h; exact l0_step s u q hu hu1 hq (t + 1) x htq h (fun t' e x' h' => by have : t' = t := by omega
                                                                                                    subst this; exact ih x' (by omega) h')
/-- Every number that is not nought is an odd one times a power of two. -/
theorem odd_part : ∀ n : Nat, 0 < n → ∃ u b : Nat, u % 2 = 1 ∧ n = u * 2 ^ b ∧ u ≤ n := by
  intro n
  induction n using Nat.strongRecOn with
  | _ n ih =>
    intro h
    by_cases h2 : n % 2 = 1
    · exact ⟨n, 0, h2, by simp, Nat.le_refl _⟩
    · obtain ⟨u, b, hu, he, hle⟩ := ih (n / 2) (by omega) (by omega)
      refine ⟨u, b + 1, hu, ?_, by omega⟩
      rw [Nat.pow_succ, ← Nat.mul_assoc, ← he]
      omega
theorem st_of {x : Nat} (hx : x < 18446744073709551616) (hf : rg x < INF) (h0 : 0 < rg x) : ∃ u q : Nat, u % 2 = 1 ∧ u < 9007199254740992 ∧ q < T98 ∧ St x (sg x) u q := by
  obtain ⟨m, a, hm0, hm, hv, _⟩ := val_parts hf h0
  obtain ⟨u, b, hu, he, hle⟩ := odd_part m hm0
  have hval : val (rg x) = u * 2 ^ (a + b) := by rw [← hv, he, Nat.mul_assoc, ← Nat.pow_add, Nat.add_comm b]
  refine ⟨u, a + b, hu, by omega, ?_, ⟨hx, rfl, h0, hf, hval⟩⟩
  have h1 := val_lt hf
  rw [hval] at h1
  have h2 : 2 ^ (a + b) ≤ u * 2 ^ (a + b) := Nat.le_mul_of_pos_left _ (by omega)
  exact (Nat.pow_lt_pow_iff_right (by omega)).mp (Nat.lt_of_le_of_lt h2 h1)
theorem parts_ev {x u q : Nat} {s : Bool} (h : St x s u q) (hu : u % 2 = 1) (hu1 : u < 9007199254740992) (hq : q < T98) : Ev (fun k => spec_l1Parts.f k x) (sgn s u, (q : Int) - E74) := by
  have r := l0_ev s u q hu hu1 hq q x (Nat.le_refl _) h
  rw [Int.sub_self] at r
  exact r
theorem sub_self_fin {x : Nat} (h : rg x < INF) : fsubOk x x = true ∧ fsub x x = 0 := by
  obtain ⟨m, a, hr, _⟩ := read_fin h
  have e : Ieee.double.sub x x = some 0 := by
    unfold Ieee.Format.sub
    rw [hr]
    unfold Ieee.Datum.opposite Ieee.Datum.sum
    simp only [Option.map_some]
    have hz : Ieee.signed (sg x) m ((-1074 + (a : Int)) - min (-1074 + (a : Int)) (-1074 + (a : Int))).toNat + Ieee.signed (!sg x) m ((-1074 + (a : Int)) - min (-1074 + (a : Int)) (-1074 + (a : Int))).toNat = 0 := by
      unfold Ieee.signed
      cases sg x <;> simp <;> omega
    rw [hz]
    simp only [if_true, Int.natAbs_zero]
    rw [write_num, nearest_zero]
    cases sg x <;> rfl
  unfold fsubOk fsub
  rw [e]
  exact ⟨rfl, rfl⟩
theorem sub_self_inf {x : Nat} (h : rg x = INF) : fsubOk x x = false := by
  unfold fsubOk Ieee.Format.sub
  rw [read_inf h]
  unfold Ieee.Datum.opposite Ieee.Datum.sum
  cases sg x <;> rfl
theorem inf_eq (x : Nat) : spec_l1Inf.f x = some (decide (rg x = INF)) := by
  unfold spec_l1Inf.f
  rw [feq_self]
  cases hn : isNan x with
  | true =>
    have : INF < rg x := of_decide_eq_true hn
    rw [decide_eq_false (show ¬ rg x = INF by omega)]; rfl
  | false =>
    have hle : ¬ INF < rg x := of_decide_eq_false hn
    simp only [Bool.not_false, if_true]
    by_cases hi : rg x = INF
    · rw [sub_self_inf hi, decide_eq_true hi]; rfl
    · have := sub_self_fin (x := x) (by omega)
      rw [this.1, this.2, decide_eq_false hi, feq_self]
      rfl
theorem math_nan' (x : Nat) : math_IsNaN.f x = some (isNan x) := by
  unfold math_IsNaN.f; rw [feq_self]; cases isNan x <;> rfl
theorem math_inf' {x : Nat} (hx : x < 18446744073709551616) (hn : isNan x = false) : math_IsInf.f x 0 = some (decide (rg x = INF)) := by
  have hle : ¬ INF < rg x := of_decide_eq_false hn
  have hr := key_rg x
  have hnr : isNan (rg x) = false := by unfold isNan; rw [hr.2]; exact decide_eq_false hle
  have hmx : isNan 9218868437227405311 = false := by decide
  have hkm : key 9218868437227405311 = 9218868437227405311 := by decide
  simp only [math_IsInf.f, math_Abs.f, andNot_sign hx, Option.bind_some, if_true]
  rw [fgt_eq hnr hmx, hkm, hr.1]
  congr 1
  rw [decide_eq_decide]
  unfold INF at *
  omega
/-- A normal number: nothing is done to it. -/
theorem norm_normal {x : Nat} (hx : x < 18446744073709551616) (hf : rg x < INF) (h : 4503599627370496 ≤ rg x) : math_normalize.f x = some (x, 0) := by
  have hr := key_rg x
  have hnr : isNan (rg x) = false := by unfold isNan; rw [hr.2]; exact decide_eq_false (by omega)
  have hn2 : isNan 4503599627370496 = false := by decide
  have hk2 : key 4503599627370496 = 4503599627370496 := by decide
  simp only [math_normalize.f, math_Abs.f, andNot_sign hx, Option.bind_some]
  rw [flt_eq hnr hn2, hk2, hr.1, if_neg (by simp; omega)]
/-- A subnormal one is put 52 places up. -/
theorem norm_sub {x u q : Nat} {s : Bool} (h : St x s u q) (hu0 : 0 < u) (hu : u < 9007199254740992) (hs : rg x < 4503599627370496) : ∃ y, math_normalize.f x = some (y, -52) ∧ St y s u (q + 52) ∧ 4503599627370496 ≤ rg y := by
  have hr := key_rg x
  have hnr : isNan (rg x) = false := by unfold isNan; rw [hr.2]; exact decide_eq_false (by have := h.fin; omega)
  have hn2 : isNan 4503599627370496 = false := by decide
  have hk2 : key 4503599627370496 = 4503599627370496 := by decide
  have h52 : (2 : Nat) ^ 52 = 4503599627370496 := by decide
  have hv : val (rg x) = rg x := by unfold MIeee.val; rw [if_pos hs]
  have e : u * 2 ^ (q + 52) = u * 2 ^ q * 2 ^ 52 := by rw [Nat.pow_add, Nat.mul_assoc]
  have hlt : u * 2 ^ (q + 52) < 2 ^ T98 := by
    rw [e, ← h.val, hv]
    have q1 : rg x * 2 ^ 52 < 2 ^ 52 * 2 ^ 52 := Nat.mul_lt_mul_of_pos_right (by omega) (Nat.two_pow_pos _)
    rw [← Nat.pow_add] at q1
    exact Nat.lt_of_lt_of_le q1 (Nat.pow_le_pow_right (by omega) (by rw [T98_eq]; omega))
  obtain ⟨r, hr0, hrI, hrv⟩ := rung_of (q := q + 52) hu0 hu hlt
  have hm := mul_up (j := 52) pow_52 h.fin h.pos hr0 hrI (by rw [hrv, h.val, e])
  have hok := (mul_pow_ok pow_52 h.nan).1
  rw [h.sg] at hm
  refine ⟨_, ?_, st_word s hr0 hrI hrv, ?_⟩
  · simp only [math_normalize.f, math_Abs.f, andNot_sign h.lt, Option.bind_some]
    rw [flt_eq hnr hn2, hk2, hr.1, if_pos (by simp; omega), if_pos hok, hm]
  · have hI := inf_small
    rw [rg_word s (by omega)]
    apply Classical.byContradiction
    intro hc
    have h1 : val r = r := by unfold MIeee.val; rw [if_pos (by omega)]
    have h2 : val r = rg x * 4503599627370496 := by rw [hrv, e, ← h.val, hv, h52]
    have h3 := h.pos
    have h4 : 1 * 4503599627370496 ≤ rg x * 4503599627370496 := Nat.mul_le_mul_right _ h3
    omega
/-- The fields of a normal number: its fraction is the odd part, shifted. -/
theorem fields {x u q : Nat} {s : Bool} (h : St x s u q) (hu : u % 2 = 1) (hn : 4503599627370496 ≤ rg x) : ∃ e f : Nat, 1 ≤ e ∧ e ≤ 2046 ∧ f < 4503599627370496 ∧ rg x = e * 4503599627370496 + f ∧ e - 1 ≤ q ∧ 4503599627370496 + f = u * 2 ^ (q - (e - 1)) := by
  have hf := h.fin
  unfold INF at hf
  have er : rg x = (rg x / 4503599627370496) * 4503599627370496 + rg x % 4503599627370496 := by omega
  have he1 : 1 ≤ rg x / 4503599627370496 := by omega
  have he2 : rg x / 4503599627370496 ≤ 2046 := by omega
  have hf2 : rg x % 4503599627370496 < 4503599627370496 := Nat.mod_lt _ (by decide)
  have hv := h.val
  rw [er, val_norm he1 hf2] at hv
  generalize rg x / 4503599627370496 = e at *
  generalize rg x % 4503599627370496 = f at *
  have hq : e - 1 ≤ q := by
    apply Classical.byContradiction
    intro hc
    obtain ⟨d, hd⟩ : ∃ d, e - 1 = q + (d + 1) := ⟨e - 1 - q - 1, by omega⟩
    rw [hd, Nat.pow_add, ← Nat.mul_assoc, Nat.mul_comm _ (2 ^ q), Nat.mul_assoc, Nat.mul_comm u] at hv
    have h2 := Nat.eq_of_mul_eq_mul_left (Nat.two_pow_pos _) hv
    rw [Nat.pow_succ, ← Nat.mul_assoc] at h2
    omega
  refine ⟨e, f, he1, he2, hf2, er, hq, ?_⟩
  obtain ⟨d, hd⟩ : ∃ d, q = (e - 1) + d := ⟨q - (e - 1), by omega⟩
  rw [hd, Nat.pow_add, ← Nat.mul_assoc, Nat.mul_comm u, Nat.mul_assoc, Nat.mul_comm] at hv
  have h2 := Nat.eq_of_mul_eq_mul_left (Nat.two_pow_pos _) hv
  rw [hd, Nat.add_sub_cancel_left]
  exact h2
theorem frexp_ev {x u q : Nat} {s : Bool} (h : St x s u q) (hu : u % 2 = 1) (hu1 : u < 9007199254740992) (hq : q < T98) :
    ∃ (f : Nat) (b : Nat) (e : Int), f < 4503599627370496 ∧ 4503599627370496 + f = u * 2 ^ b ∧ e + b = (q : Int) - 1021 ∧ -2000 ≤ e ∧ e ≤ 2000 ∧ b ≤ 53 ∧ Ev (fun k => math_Frexp.f k x) (Ieee.double.word s (1022 * 4503599627370496 + f), e) := by
  have hz : feq x 0 = false := by
    rw [feq_eq h.nan nan_zero, key_zero]
    exact decide_eq_false (fun w => by have := key_rg_zero.mp w; have := h.pos; omega)
  have hi : math_IsInf.f x 0 = some false := by
    rw [math_inf' h.lt h.nan, decide_eq_false (by have := h.fin; omega)]
  have hT := T98_eq
  -- the number made normal, and by how many places
  have key : ∃ (y : Nat) (n : Nat), math_normalize.f x = some (y, -(n : Int)) ∧ St y s u (q + n) ∧ 4503599627370496 ≤ rg y ∧ n ≤ 52 := by
    by_cases hs : rg x < 4503599627370496
    · obtain ⟨y, hy, hst, hr⟩ := norm_sub h (by omega) hu1 hs
      exact ⟨y, 52, hy, hst, hr, by omega⟩
    · exact ⟨x, 0, norm_normal h.lt h.fin (by omega), h, by omega, by omega⟩
  obtain ⟨y, n, hy, hst, hr, hn⟩ := key
  obtain ⟨e, f, he1, he2, hf, er, heq, hm⟩ := fields hst hu hr
  have hb : q + n - (e - 1) ≤ 53 := by
    apply Classical.byContradiction
    intro hc
    have h1 : (2 : Nat) ^ 54 ≤ 2 ^ (q + n - (e - 1)) := Nat.pow_le_pow_right (by omega) (by omega)
    have h2 : 2 ^ (q + n - (e - 1)) ≤ u * 2 ^ (q + n - (e - 1)) := Nat.le_mul_of_pos_left _ (by omega)
    have h3 : (2 : Nat) ^ 54 = 18014398509481984 := by decide
    omega
  have hgs := set_exp (e := 1022) hst.lt (by omega)
  rw [show ((1022 * 4503599627370496 : Nat) : Int) = 4602678819172646912 from rfl, hst.sg] at hgs
  have hmod : rg y % 4503599627370496 = f := by rw [er]; omega
  have hdiv : rg y / 4503599627370496 = e := by rw [er]; omega
  rw [hmod] at hgs
  have hge := get_exp hst.lt
  rw [hdiv] at hge
  refine ⟨f, q + n - (e - 1), -(n : Int) + ((e : Int) - 1023 + 1), hf, hm, by omega, by omega, by omega, hb, ?_⟩
  refine Ev.congr (f := fun k => math_frexp.f k x) (fun k => by simp only [math_Frexp.f]; cases math_frexp.f k x <;> rfl) ?_
  simp only [math_frexp.f, hi, math_nan', h.nan, Option.bind_some]
  refine Ev.ite_neg (by simp [hz]) (Ev.ite_neg (by simp) ?_)
  refine Ev.step (f := fun _ => some (Ieee.double.word s (1022 * 4503599627370496 + f), -(n : Int) + ((e : Int) - 1023 + 1))) (fun k => ?_) (Ev.now _)
  simp only [math_frexp.j0, hy, Option.bind_some]
  rw [if_neg (by simp), hgs, hge, wrap_id (n := (e : Int)) (by omega) (by omega), wrap_id (n := (e : Int) - 1023) (by omega) (by omega), wrap_id (n := (e : Int) - 1023 + 1) (by omega) (by omega), wrap_id (by omega) (by omega)]
/-- What ldexp makes of a normal number. -/
def ldN (s : Bool) (e f : Nat) (n : Int) : Nat :=
  if n + ((e : Int) - 1023) < -1075 then Ieee.double.word s 0
  else if n + ((e : Int) - 1023) > 1023 then Ieee.double.word s INF
  else if n + ((e : Int) - 1023) < -1022 then fmul 4368491638549381120 (Ieee.double.word s ((n + (e : Int) + 53).toNat * 4503599627370496 + f))
  else Ieee.double.word s ((n + (e : Int)).toNat * 4503599627370496 + f)
theorem copy_zero {x : Nat} (hx : x < 18446744073709551616) : math_Copysign.f 0 x = some (Ieee.double.word (sg x) 0) := by
  have h63 : (2 : Nat) ^ 63 = 9223372036854775808 := by decide
  unfold math_Copysign.f
  congr 1
  have e1 := bits_andNot 0 9223372036854775808 (by omega) (by omega)
  have e2 := bits_and x 9223372036854775808 hx (by omega)
  rw [show ((0 : Nat) : Int) = 0 from rfl, show ((9223372036854775808 : Nat) : Int) = 9223372036854775808 from rfl, Nat.zero_and] at e1
  rw [show ((9223372036854775808 : Nat) : Int) = 9223372036854775808 from rfl] at e2
  have e3 : x &&& 9223372036854775808 = 2 ^ 63 * (if sg x = true then 1 else 0) := by
    apply Nat.eq_of_testBit_eq
    intro j
    have hx3 := word3 hx
    have hr := rg_lt x
    have hsb : (if sg x = true then 1 else 0) < 2 := by split <;> omega
    rw [Nat.testBit_and, show (9223372036854775808 : Nat) = 2 ^ 63 * 1 + (2 ^ 52 * 0 + 0) from by decide, tb3 _ _ _ _ (by omega) (by omega)]
    have e5 : (2 : Nat) ^ 63 * (if sg x = true then 1 else 0) = 2 ^ 63 * (if sg x = true then 1 else 0) + (2 ^ 52 * 0 + 0) := by simp
    rw [e5, tb3 _ _ _ _ (by omega) (by omega)]
    conv => lhs; lhs; rw [hx3]
    rw [tb3 _ _ _ _ (by omega) (by omega)]
    by_cases h : j < 63
    · rw [if_pos h, if_pos h, if_pos h]; split <;> simp
    · rw [if_neg h, if_neg h, if_neg h]
      generalize (if sg x = true then 1 else 0) = a at hsb
      rcases (show a = 0 ∨ a = 1 by omega) with rfl | rfl <;> simp
  rw [e2, e3]
  have e4 := bits_or 0 (2 ^ 63 * (if sg x = true then 1 else 0)) (by omega) (by rw [h63]; split <;> omega)
  rw [show ((0 : Nat) : Int) = 0 from rfl, Nat.zero_or] at e4
  rw [show ((0 : Nat) : Int) = 0 from rfl, e1, show ((0 : Nat) : Int) = 0 from rfl, e4, Int.toNat_natCast]
  unfold Ieee.Format.word
  rw [double_sign, h63]
  cases sg x <;> rfl
theorem ldexp_norm {x e f : Nat} {s : Bool} (hx : x = Ieee.double.word s (e * 4503599627370496 + f)) (he1 : 1 ≤ e) (he2 : e ≤ 2046) (hf : f < 4503599627370496) (n : Int) (hn : -3000 ≤ n ∧ n ≤ 3000) : math_Ldexp.f x n = some (ldN s e f n) := by
  have hI : INF = 9218868437227405312 := rfl
  have hr : rg x = e * 4503599627370496 + f := by rw [hx, rg_word s (by omega)]
  have hs : sg x = s := by rw [hx, sg_word s (by omega)]
  have hlt : x < 18446744073709551616 := by rw [hx]; exact word_lt s (by omega)
  have hfin : rg x < INF := by rw [hr, hI]; omega
  have hnan := fin_nan hfin
  have hz : feq x 0 = false := by
    rw [feq_eq hnan nan_zero, key_zero]
    exact decide_eq_false (fun w => by have := key_rg_zero.mp w; omega)
  have hi : math_IsInf.f x 0 = some false := by
    rw [math_inf' hlt hnan, decide_eq_false (by omega)]
  have hno := norm_normal hlt hfin (by omega)
  have hw : wrap64 ((x : Int) / 4503599627370496) = (x : Int) / 4503599627370496 := wrap_id (by omega) (by omega)
  have hge := get_exp_i64 hlt
  have hdiv : rg x / 4503599627370496 = e := by rw [hr]; omega
  have hmod : rg x % 4503599627370496 = f := by rw [hr]; omega
  rw [hdiv] at hge
  have hE : wrap64 (wrap64 (n + 0) + wrap64 ((e : Int) - 1023)) = n + ((e : Int) - 1023) := by
    rw [wrap_id (n := n + 0) (by omega) (by omega), wrap_id (n := (e : Int) - 1023) (by omega) (by omega), wrap_id (by omega) (by omega)]
    omega
  have hneg : flt x 0 = s := by
    rw [flt_eq hnan nan_zero, key_zero]
    unfold key
    rw [hs]
    cases s <;> simp <;> omega
  simp only [math_Ldexp.f, math_ldexp.f, hi, math_nan', hnan, hno, Option.bind_some, hw, hge, hE]
  rw [if_neg (by simp [hz]), if_neg (by simp), if_neg (by simp), copy_zero hlt, hs, hneg]
  unfold ldN
  by_cases c1 : n + ((e : Int) - 1023) < -1075
  · rw [if_pos c1, if_pos c1]; rfl
  · rw [if_neg c1, if_neg c1]
    by_cases c2 : n + ((e : Int) - 1023) > 1023
    · rw [if_pos c2, if_pos c2]
      cases s
      · rfl
      · rfl
    · rw [if_neg c2, if_neg c2]
      by_cases c3 : n + ((e : Int) - 1023) < -1022
      · rw [if_pos c3, if_pos c3]
        obtain ⟨g, hg⟩ : ∃ g : Nat, n + (e : Int) + 53 = (g : Int) := ⟨(n + (e : Int) + 53).toNat, by omega⟩
        have hwr : wrap64 (wrap64 (n + ((e : Int) - 1023) + 53) + 1023) = (g : Int) := by
          rw [wrap_id (n := n + ((e : Int) - 1023) + 53) (by omega) (by omega), wrap_id (by omega) (by omega)]; omega
        have hu : IntKind.u64.wrap (IntKind.u64.wrap (g : Int) * 4503599627370496) = ((g * 4503599627370496 : Nat) : Int) := by
          simp [IntKind.wrap, IntKind.bits, IntKind.signed]; omega
        rw [hwr, hu, set_exp hlt (by omega), hs, hmod, hg, Int.toNat_natCast]
        have hok := (mul_pow_ok' pow_m53 (x := Ieee.double.word s (g * 4503599627370496 + f)) (nan_word s (by rw [hI]; omega))).1
        rw [if_pos hok]
        rfl
      · rw [if_neg c3, if_neg c3]
        obtain ⟨g, hg⟩ : ∃ g : Nat, n + (e : Int) = (g : Int) := ⟨(n + (e : Int)).toNat, by omega⟩
        have hwr : wrap64 (n + ((e : Int) - 1023) + 1023) = (g : Int) := by
          rw [wrap_id (by omega) (by omega)]; omega
        have hu : IntKind.u64.wrap (IntKind.u64.wrap (g : Int) * 4503599627370496) = ((g * 4503599627370496 : Nat) : Int) := by
          simp [IntKind.wrap, IntKind.bits, IntKind.signed]; omega
        rw [hwr, hu, set_exp hlt (by omega), hs, hmod, hg, Int.toNat_natCast]
        have hrg : rg (Ieee.double.word s (g * 4503599627370496 + f)) = g * 4503599627370496 + f := rg_word s (by omega)
        have hsg : sg (Ieee.double.word s (g * 4503599627370496 + f)) = s := sg_word s (by omega)
        have hok := (mul_pow_ok' pow_zero_one (x := Ieee.double.word s (g * 4503599627370496 + f)) (nan_word s (by rw [hI]; omega))).1
        have hmu := mul_up' (j := 0) pow_zero_one (x := Ieee.double.word s (g * 4503599627370496 + f)) (by rw [hrg, hI]; omega) (by rw [hrg]; omega) (r := g * 4503599627370496 + f) (by omega) (by rw [hI]; omega) (by rw [hrg]; simp)
        rw [if_pos hok, hmu, hsg]
        rfl
theorem impl_l0_ev (s : Bool) (u : Nat) (hu : u % 2 = 1) : ∀ (b : Nat) (e : Int), u * 2 ^ b < 2 ^ 62 → -10000 ≤ e → e + b ≤ 10000 → Ev (fun k => impl_PartsOf.l0 k e (sgn s (u * 2 ^ b))) (sgn s u, e + b, true)
  | 0, e, hb, h1, h2 => by
    refine Ev.step (f := fun _ => some (sgn s u, e + (0 : Nat), true)) (fun k => ?_) (Ev.now _)
    simp only [impl_PartsOf.l0]
    rw [Nat.pow_zero, Nat.mul_one, if_neg (by rw [sgn_tmod]; omega)]
    simp
  | b + 1, e, hb, h1, h2 => by
    have e1 : u * 2 ^ (b + 1) = 2 * (u * 2 ^ b) := by rw [Nat.pow_succ]; simp only [Nat.mul_comm, Nat.mul_left_comm]
    have h62 : (2 : Nat) ^ 62 = 4611686018427387904 := by decide
    have ih := impl_l0_ev s u hu b (e + 1) (by omega) (by omega) (by omega)
    rw [show e + 1 + (b : Int) = e + ((b + 1 : Nat) : Int) from by omega] at ih
    refine Ev.step (fun k => ?_) ih
    simp only [impl_PartsOf.l0]
    rw [e1, if_pos (by rw [sgn_tmod]; omega), sgn_tdiv, wrap_id (n := e + 1) (by omega) (by omega), wrap_id]
    · unfold sgn; split <;> omega
    · unfold sgn; split <;> omega
/-- The parts of a number that is finite and not nought. -/
theorem impl_parts_ev {x u q : Nat} {s : Bool} (h : St x s u q) (hu : u % 2 = 1) (hu1 : u < 9007199254740992) (hq : q < T98) : Ev (fun k => impl_PartsOf.f k x) (sgn s u, (q : Int) - E74, true) := by
  have hT := T98_eq
  have hE := E74_eq
  obtain ⟨f, b, e, hf, hm, heb, he1, he2, hb, hfr⟩ := frexp_ev h hu hu1 hq
  have hk : ∃ v, impl_KindOf.f x = some v ∧ (v = 3 ∨ v = 4) := by
    refine ⟨_, impl_kind h.lt, ?_⟩
    unfold kindN
    rw [h.nan, if_neg (by simp), if_neg (by have := h.fin; omega), if_neg (by have := h.pos; omega)]
    split <;> simp
  obtain ⟨v, hv, hv34⟩ := hk
  have hld : math_Ldexp.f (Ieee.double.word s (1022 * 4503599627370496 + f)) 53 = some (Ieee.double.word s (1075 * 4503599627370496 + f)) := by
    rw [ldexp_norm (e := 1022) rfl (by omega) (by omega) hf 53 (by omega)]
    unfold ldN
    rw [if_neg (by decide), if_neg (by decide), if_neg (by decide)]
    rfl
  have hI : INF = 9218868437227405312 := rfl
  have hrg : rg (Ieee.double.word s (1075 * 4503599627370496 + f)) = 1075 * 4503599627370496 + f := rg_word s (by omega)
  have hsg : sg (Ieee.double.word s (1075 * 4503599627370496 + f)) = s := sg_word s (by omega)
  have hfin : rg (Ieee.double.word s (1075 * 4503599627370496 + f)) < INF := by rw [hrg, hI]; omega
  have hwh : whole (Ieee.double.word s (1075 * 4503599627370496 + f)) = u * 2 ^ b := by
    unfold whole
    rw [hrg, val_norm (by omega) hf, show (1075 - 1 : Nat) = E74 from rfl, Nat.mul_div_cancel _ (Nat.two_pow_pos _), hm]
  have hfi := fint_eq hfin (by rw [hwh, ← hm]; omega)
  have hsw : swhole (Ieee.double.word s (1075 * 4503599627370496 + f)) = sgn s (u * 2 ^ b) := by
    unfold swhole sgn; rw [hsg, hwh]
  have hL := impl_l0_ev s u hu b (e - 53) (by rw [← hm, show (2 : Nat) ^ 62 = 4611686018427387904 from by decide]; omega) (by omega) (by omega)
  rw [show e - 53 + (b : Int) = (q : Int) - (E74 : Int) from by omega] at hL
  have hj : Ev (fun k => impl_PartsOf.j0 k x false) (sgn s u, (q : Int) - E74, true) := by
    refine Ev.step (f := fun k => (math_Frexp.f k x).bind fun w => (math_Ldexp.f w.1 53).bind fun y => if fintOk y = true then impl_PartsOf.l0 k (wrap64 (w.2 - 53)) (fint y) else none) (fun k => by simp only [impl_PartsOf.j0]; rw [if_neg (by simp)]) ?_
    refine Ev.bind hfr (Ev.bind (Ev.const hld) (Ev.ite_pos hfi.1 ?_))
    rw [wrap_id (n := e - 53) (by omega) (by omega), hfi.2, hsw]
    exact hL
  refine Ev.congr (fun k => by simp only [impl_PartsOf.f]; rw [hv, Option.bind_some]) ?_
  rcases hv34 with rfl | rfl
  · exact Ev.ite_pos rfl hj
  · exact Ev.ite_neg (by decide) hj
theorem up_any : ∀ (n x : Nat), n ≤ 2000 → isNan x = false → x < 18446744073709551616 → ∃ y, Ev (fun k => spec_l1Scaled.l0 k x (n : Int)) y ∧ isNan y = false ∧ y < 18446744073709551616
  | 0, x, hn, h1, h2 => by
    refine ⟨x, Ev.step (f := fun k => spec_l1Scaled.l1 k x ((0 : Nat) : Int)) (fun k => ?_) (Ev.step (f := fun _ => some x) (fun k => ?_) (Ev.now _)), h1, h2⟩
    · simp only [spec_l1Scaled.l0]; rw [if_neg (by omega)]
    · simp only [spec_l1Scaled.l1]; rw [if_neg (by omega)]
  | n + 1, x, hn, h1, h2 => by
    have hm := mul_pow_ok pow_two h1
    obtain ⟨y, hy, g1, g2⟩ := up_any n _ (by omega) hm.2.1 hm.2.2
    refine ⟨y, Ev.step (fun k => ?_) hy, g1, g2⟩
    simp only [spec_l1Scaled.l0]
    rw [if_pos (by omega), if_pos hm.1, show wrap64 (((n + 1 : Nat) : Int) - 1) = (n : Int) from by rw [wrap_id] <;> omega]
theorem down_any : ∀ (n x : Nat), n ≤ 2000 → isNan x = false → x < 18446744073709551616 → ∃ y, Ev (fun k => spec_l1Scaled.l1 k x (-(n : Int))) y ∧ isNan y = false ∧ y < 18446744073709551616
  | 0, x, hn, h1, h2 => by
    refine ⟨x, Ev.step (f := fun _ => some x) (fun k => ?_) (Ev.now _), h1, h2⟩
    simp only [spec_l1Scaled.l1]; rw [if_neg (by omega)]
  | n + 1, x, hn, h1, h2 => by
    have hm := half_ok h1
    obtain ⟨y, hy, g1, g2⟩ := down_any n _ (by omega) hm.2.1 hm.2.2
    refine ⟨y, Ev.step (fun k => ?_) hy, g1, g2⟩
    simp only [spec_l1Scaled.l1]
    rw [if_pos (by omega), if_pos hm.1, show wrap64 (-((n + 1 : Nat) : Int) + 1) = -(n : Int) from by rw [wrap_id] <;> omega]
theorem scaled_any (x : Nat) (n : Int) (hn : -2000 ≤ n ∧ n ≤ 2000) (h1 : isNan x = false) (h2 : x < 18446744073709551616) : ∃ y, Ev (fun k => spec_l1Scaled.f k x n) y ∧ isNan y = false ∧ y < 18446744073709551616 := by
  by_cases h : 0 ≤ n
  · obtain ⟨m, rfl⟩ : ∃ m : Nat, n = (m : Int) := ⟨n.toNat, by omega⟩
    exact up_any m x (by omega) h1 h2
  · obtain ⟨m, rfl⟩ : ∃ m : Nat, n = -(m : Int) := ⟨(-n).toNat, by omega⟩
    obtain ⟨y, hy, g⟩ := down_any m x (by omega) h1 h2
    refine ⟨y, Ev.step (fun k => ?_) hy, g⟩
    simp only [spec_l1Scaled.f, spec_l1Scaled.l0]; rw [if_neg (by omega)]
theorem up_st (s : Bool) (u : Nat) (hu0 : 0 < u) (hu : u < 9007199254740992) : ∀ (n t x : Nat), n ≤ 2000 → St x s u t → u * 2 ^ (t + n) < 2 ^ T98 → ∃ y, Ev (fun k => spec_l1Scaled.l0 k x (n : Int)) y ∧ St y s u (t + n)
  | 0, t, x, hn, h, ht => by
    refine ⟨x, Ev.step (f := fun k => spec_l1Scaled.l1 k x ((0 : Nat) : Int)) (fun k => ?_) (Ev.step (f := fun _ => some x) (fun k => ?_) (Ev.now _)), h⟩
    · simp only [spec_l1Scaled.l0]; rw [if_neg (by omega)]
    · simp only [spec_l1Scaled.l1]; rw [if_neg (by omega)]
  | n + 1, t, x, hn, h, ht => by
    have hle : u * 2 ^ (t + 1) ≤ u * 2 ^ (t + (n + 1)) := Nat.mul_le_mul_left _ (Nat.pow_le_pow_right (by omega) (by omega))
    have hm := h.double hu0 hu (Nat.lt_of_le_of_lt hle ht)
    obtain ⟨y, hy, g⟩ := up_st s u hu0 hu n (t + 1) _ (by omega) hm.2 (by rw [show t + 1 + n = t + (n + 1) from by omega]; exact ht)
    rw [show t + 1 + n = t + (n + 1) from by omega] at g
    refine ⟨y, Ev.step (fun k => ?_) hy, g⟩
    simp only [spec_l1Scaled.l0]
    rw [if_pos (by omega), if_pos hm.1, show wrap64 (((n + 1 : Nat) : Int) - 1) = (n : Int) from by rw [wrap_id] <;> omega]
theorem down_st (s : Bool) (u : Nat) (hu0 : 0 < u) (hu : u < 9007199254740992) : ∀ (n t x : Nat), n ≤ 2000 → St x s u (t + n) → ∃ y, Ev (fun k => spec_l1Scaled.l1 k x (-(n : Int))) y ∧ St y s u t
  | 0, t, x, hn, h => by
    refine ⟨x, Ev.step (f := fun _ => some x) (fun k => ?_) (Ev.now _), h⟩
    simp only [spec_l1Scaled.l1]; rw [if_neg (by omega)]
  | n + 1, t, x, hn, h => by
    have hm := St.half (t := t + n) h hu0 hu
    obtain ⟨y, hy, g⟩ := down_st s u hu0 hu n t _ (by omega) hm.2
    refine ⟨y, Ev.step (fun k => ?_) hy, g⟩
    simp only [spec_l1Scaled.l1]
    rw [if_pos (by omega), if_pos hm.1, show wrap64 (-((n + 1 : Nat) : Int) + 1) = -(n : Int) from by rw [wrap_id] <;> omega]
theorem scaled_st {x s u t} (hu0 : 0 < u) (hu : u < 9007199254740992) (h : St x s u t) (n : Int) (hn : -2000 ≤ n ∧ n ≤ 2000) (q : Nat) (hq : (q : Int) = t + n) (ht : u * 2 ^ q < 2 ^ T98) : ∃ y, Ev (fun k => spec_l1Scaled.f k x n) y ∧ St y s u q := by
  by_cases hc : 0 ≤ n
  · obtain ⟨m, rfl⟩ : ∃ m : Nat, n = (m : Int) := ⟨n.toNat, by omega⟩
    have e : q = t + m := by omega
    subst e
    exact up_st s u hu0 hu m t x (by omega) h ht
  · obtain ⟨m, rfl⟩ : ∃ m : Nat, n = -(m : Int) := ⟨(-n).toNat, by omega⟩
    have e : t = q + m := by omega
    subst e
    obtain ⟨y, hy, g⟩ := down_st s u hu0 hu m q x (by omega) h
    refine ⟨y, Ev.step (fun k => ?_) hy, g⟩
    simp only [spec_l1Scaled.f, spec_l1Scaled.l0]; rw [if_neg (by omega)]
/-! ### what the draws of a cursor answer: some value within bounds -/
def okBy (s : List Int) : Prop := s.length ≤ 140737488351232 ∧ ∀ x ∈ s, 0 ≤ x ∧ x ≤ 255
theorem and255 (x : Int) (h0 : 0 ≤ x) (h1 : x < 18446744073709551616) : 0 ≤ Go.bits .and .u64 x 255 ∧ Go.bits .and .u64 x 255 ≤ 255 := by
  obtain ⟨n, rfl⟩ := Int.eq_ofNat_of_zero_le h0
  have h := bits_and_u64_nat n 255 (by omega) (by omega)
  rw [show ((255 : Nat) : Int) = 255 from rfl] at h
  rw [h]
  have : n &&& 255 ≤ 255 := Nat.and_le_right
  omega
theorem wrap_low (x : Int) : 0 ≤ IntKind.u64.wrap x / 1099511627776 ∧ IntKind.u64.wrap x / 1099511627776 < 18446744073709551616 := by
  rw [IntKind.wrap_u64]; omega
theorem byte_at {s : List Int} (hs : okBy s) {i : Int} (h0 : 0 ≤ i) (h1 : i < s.length) : 0 ≤ rd s i ∧ rd s i ≤ 255 := by
  have hi : i.toNat < s.length := by omega
  have e : rd s i = s[i.toNat] := by simp [rd, hi]
  rw [e]; exact hs.2 _ (List.getElem_mem hi)
theorem next_some {s : List Int} (hs : okBy s) {a d : Int} (h0 : 0 ≤ a) (h1 : a ≤ 4000000000000000000) : ∃ b d', spec_l1Cur_next.f s a d = some (b, a + 1, d') ∧ 0 ≤ b ∧ b ≤ 255 := by
  have hw : wrap64 (a + 1) = a + 1 := wrap_id (by omega) (by omega)
  unfold spec_l1Cur_next.f
  rw [hw]
  by_cases c1 : a < (s.length : Int)
  · rw [if_pos c1, if_pos h0]
    have hb := byte_at hs h0 c1
    have hr : wrap64 (rd s a) = rd s a := wrap_id (by omega) (by omega)
    rw [hr]
    by_cases c2 : a + 1 ≤ (s.length : Int)
    · rw [if_pos c2]; exact ⟨_, _, rfl, hb.1, hb.2⟩
    · omega
  · rw [if_neg c1, if_neg (by omega)]
    have hl := wrap_low (IntKind.u64.wrap (IntKind.u64.wrap (d * 6364136223846793005)) + 1442695040888963407)
    have hb := and255 _ hl.1 hl.2
    refine ⟨_, _, rfl, ?_, ?_⟩ <;> rw [wrap_id (by omega) (by omega)]
    · exact hb.1
    · exact hb.2
theorem tmod_in {x n : Int} (h0 : 0 ≤ x) (hn : 1 ≤ n) : 0 ≤ Int.tmod x n ∧ Int.tmod x n < n := by
  rw [Int.tmod_eq_emod_of_nonneg h0]
  exact ⟨Int.emod_nonneg _ (by omega), Int.emod_lt_of_pos _ (by omega)⟩
theorem pick_some {s : List Int} (hs : okBy s) {a d n : Int} (h0 : 0 ≤ a) (h1 : a ≤ 3000000000000000000) : ∃ r a' d', spec_l1Cur_pick.f s a d n = some (r, a', d') ∧ 0 ≤ r ∧ (1 ≤ n → r < n) ∧ a ≤ a' ∧ a' ≤ a + 2 := by
  unfold spec_l1Cur_pick.f
  by_cases c1 : n ≤ 1
  · rw [if_pos c1]; exact ⟨0, a, d, rfl, by omega, by omega, by omega, by omega⟩
  · rw [if_neg c1]
    obtain ⟨b, d1, e1, hb0, hb1⟩ := next_some hs (d := d) h0 (by omega)
    rw [e1]
    simp only [Option.bind_some]
    by_cases c2 : n > 200
    · rw [if_pos c2]
      obtain ⟨b2, d2, e2, hc0, hc1⟩ := next_some hs (a := a + 1) (d := d1) (by omega) (by omega)
      rw [e2]
      simp only [Option.bind_some]
      rw [if_neg (by omega), wrap_id (n := b * 256) (by omega) (by omega), wrap_id (by omega) (by omega)]
      have ht := tmod_in (x := b * 256 + b2) (n := n) (by omega) (by omega)
      exact ⟨_, _, _, rfl, ht.1, fun _ => ht.2, by omega, by omega⟩
    · rw [if_neg c2, if_neg (by omega)]
      have ht := tmod_in (x := b) (n := n) hb0 (by omega)
      exact ⟨_, _, _, rfl, ht.1, fun _ => ht.2, by omega, by omega⟩
theorem among_some {s : List Int} (hs : okBy s) {a d : Int} (h0 : 0 ≤ a) (h1 : a ≤ 3000000000000000000) (l : List Int) (hl : 0 < l.length) : ∃ r a' d', spec_l1Cur_among.f s a d l = some (r, a', d') ∧ r ∈ l ∧ a ≤ a' ∧ a' ≤ a + 2 := by
  obtain ⟨r, a', d', e, r0, r1, ha, hb⟩ := pick_some hs (d := d) (n := (l.length : Int)) h0 h1
  unfold spec_l1Cur_among.f
  rw [e]
  simp only [Option.bind_some]
  have hr := r1 (by omega)
  rw [if_pos r0, if_pos hr]
  have hi : r.toNat < l.length := by omega
  have e2 : rd l r = l[r.toNat] := by simp [rd, hi]
  exact ⟨_, _, _, rfl, by rw [e2]; exact List.getElem_mem hi, ha, hb⟩
theorem one_some {s : List Int} (hs : okBy s) {a d n : Int} (h0 : 0 ≤ a) (h1 : a ≤ 3000000000000000000) : ∃ b a' d', spec_l1Cur_one.f s a d n = some (b, a', d') ∧ a ≤ a' ∧ a' ≤ a + 2 := by
  obtain ⟨r, a', d', e, r0, r1, ha, hb⟩ := pick_some hs (d := d) (n := n) h0 h1
  unfold spec_l1Cur_one.f
  rw [e]
  exact ⟨_, _, _, rfl, ha, hb⟩
/-- A cursor: its block, its bytes, and how far it is. -/
def Cur (w0 W : World) (g : Nat) (s : List Int) (m : Int) : Prop := ∃ a d, IsS94 w0 W g s a d ∧ 0 ≤ a ∧ a ≤ m
theorem Cur.more {w0 W : World} {g : Nat} {s : List Int} {m m' : Int} (h : Cur w0 W g s m) (hm : m ≤ m') : Cur w0 W g s m' := by
  obtain ⟨a, d, hI, h0, h1⟩ := h
  exact ⟨a, d, hI, h0, by omega⟩
theorem Cur.below {w0 W W1 : World} {g : Nat} {s : List Int} {m : Int} (h : Cur w0 W g s m) (hb : Below W.heap.size W W1) : Cur w0 W1 g s m := by
  obtain ⟨a, d, hI, h0, h1⟩ := h
  exact ⟨a, d, hI.below hb, h0, h1⟩
theorem Cur.alloc {w0 W : World} {g : Nat} {s : List Int} {m : Int} (h : Cur w0 W g s m) (o : Obj) : Cur w0 (W.alloc o) g s m := h.below (below_alloc (Below.refl _ _) o)
theorem Cur.drewN {w0 W : World} {g : Nat} {s : List Int} {m : Int} (h : Cur w0 W g s m) (k : Nat) : Cur w0 (W.drewN k) g s m := h
theorem Cur.drew {w0 W : World} {g : Nat} {s : List Int} {m : Int} (h : Cur w0 W g s m) : Cur w0 W.drew g s m := h
theorem Cur.new (w0 W : World) (A0 : Option Addr) (c0 : Nat) (s : List Int) (hB : Below w0.heap.size w0 W) (hr0 : Kd.C (Kd.int .u8) w0 A0 s.length s) : Cur w0 (W.alloc (.cells #[.slice A0 s.length c0, .int .i64 0, .int .u64 0] 94)) W.heap.size s 0 :=
  ⟨0, 0, IsS94.new w0 W A0 c0 s 0 0 hB hr0, by omega, by omega⟩
theorem pick_any {w0 w : World} {g : Nat} {s : List Int} {m : Int} (n : Int) (hs : okBy s) (hI : Cur w0 w g s m) (hm : m ≤ 3000000000000000000) (hB : Below w0.heap.size w0 w) :
    Calls Try.prog 81 #[.pointer (some ⟨g, 0, none⟩), .int .i64 n] w fun e w' => ∃ r, (0 ≤ r ∧ (1 ≤ n → r < n)) ∧ e = .returned (.int .i64 r) ∧ Cur w0 w' g s (m + 2) ∧ Below w0.heap.size w0 w' ∧ KeepBut w w' g none := by
  obtain ⟨a, d, hI, h0, h1⟩ := hI
  obtain ⟨r, a', d', e, r0, r1, ha, hb⟩ := pick_some hs (d := d) (n := n) h0 (by omega)
  refine (spec_l1Cur_pick.calls g s a d n r a' d' w0 w hI hB e).mono ?_
  rintro e w' ⟨he, hi, hb', hk⟩
  exact ⟨r, ⟨r0, r1⟩, he, ⟨a', d', hi, by omega, by omega⟩, hb', hk⟩
theorem one_any {w0 w : World} {g : Nat} {s : List Int} {m : Int} (n : Int) (hs : okBy s) (hI : Cur w0 w g s m) (hm : m ≤ 3000000000000000000) (hB : Below w0.heap.size w0 w) :
    Calls Try.prog 110 #[.pointer (some ⟨g, 0, none⟩), .int .i64 n] w fun e w' => ∃ b, e = .returned (.bool b) ∧ Cur w0 w' g s (m + 2) ∧ Below w0.heap.size w0 w' ∧ KeepBut w w' g none := by
  obtain ⟨a, d, hI, h0, h1⟩ := hI
  obtain ⟨r, a', d', e, ha, hb⟩ := one_some hs (d := d) (n := n) h0 (by omega)
  refine (spec_l1Cur_one.calls g s a d n r a' d' w0 w hI hB e).mono ?_
  rintro e w' ⟨he, hi, hb', hk⟩
  exact ⟨r, he, ⟨a', d', hi, by omega, by omega⟩, hb', hk⟩
theorem among_any {w0 w : World} {g : Nat} {s : List Int} {m : Int} {A1 : Option Addr} {c1 : Nat} (l : List Int) (hl : 0 < l.length) (hs : okBy s) (hI : Cur w0 w g s m) (hm : m ≤ 3000000000000000000) (hB : Below w0.heap.size w0 w)
    (hr1 : Kd.C (Kd.int .i64) w A1 l.length l) (hc1 : l.length ≤ c1) (hf1 : ∀ ad, A1 = some ad → 0 < l.length → ad.block ≠ g) :
    Calls Try.prog 99 #[.pointer (some ⟨g, 0, none⟩), .slice A1 l.length c1] w fun e w' => ∃ r, r ∈ l ∧ e = .returned (.int .i64 r) ∧ Cur w0 w' g s (m + 2) ∧ Below w0.heap.size w0 w' ∧ KeepBut w w' g none := by
  obtain ⟨a, d, hI, h0, h1⟩ := hI
  obtain ⟨r, a', d', e, r0, ha, hb⟩ := among_some hs (d := d) h0 (by omega) l hl
  refine (spec_l1Cur_among.calls g s a d A1 c1 l r a' d' w0 w hI hB hr1 hc1 hf1 e).mono ?_
  rintro e w' ⟨he, hi, hb', hk⟩
  exact ⟨r, r0, he, ⟨a', d', hi, by omega, by omega⟩, hb', hk⟩
theorem nanOf_lt (t : Nat) : nanOf t < 18446744073709551616 := by unfold nanOf; omega
theorem Cur.far {w0 W : World} {g : Nat} {s : List Int} {m : Int} {base n c1 : Nat} {A1 : Option Addr} {ok : Nat → Prop} {xs : List Int} (h : Cur w0 W g s m) (ho : Kd.R (Kd.int .i64) 3 W base ok (.slice A1 n c1) xs) : ∀ ad, A1 = some ad → 0 < n → ad.block ≠ g := by
  obtain ⟨a, d, hI, _⟩ := h
  exact far_slice (IsS94.own_ne hI ho (by decide))
/-! ### a drawn number is some number -/
theorem fneg_lt {x : Nat} (h : x < 18446744073709551616) : fneg x < 18446744073709551616 := by
  show x ^^^ 2 ^ 63 < 2 ^ 64
  exact Nat.xor_lt_two_pow (by omega) (by omega)
def oneOk (n : Nat) : Bool := faddOk 4607182418800017408 (fofi (n : Int)) && (!(isNan (fadd 4607182418800017408 (fofi (n : Int)))) && decide (fadd 4607182418800017408 (fofi (n : Int)) < 18446744073709551616))
theorem one_all : (List.range 99).all oneOk = true := by kernel_rfl
theorem one_at (r : Int) (h0 : 0 ≤ r) (h1 : r < 99) : faddOk 4607182418800017408 (fofi r) = true ∧ isNan (fadd 4607182418800017408 (fofi r)) = false ∧ fadd 4607182418800017408 (fofi r) < 18446744073709551616 := by
  obtain ⟨n, rfl⟩ := Int.eq_ofNat_of_zero_le h0
  have h := List.all_eq_true.mp one_all n (by simp; omega)
  simp only [oneOk, Bool.and_eq_true, Bool.not_eq_true', decide_eq_true_eq] at h
  exact h
theorem inf_ok : fdivOk 4607182418800017408 0 = true ∧ fdiv 4607182418800017408 0 < 18446744073709551616 := by constructor <;> decide +kernel
theorem minf_ok : fdivOk 13830554455654793216 0 = true ∧ fdiv 13830554455654793216 0 < 18446744073709551616 := by constructor <;> decide +kernel
theorem num_some {s : List Int} (hs : okBy s) {a d t a1 d1 : Int} (e : spec_l1Cur_pick.f s a d 12 = some (t, a1, d1)) (ht : t ≠ 0) (h0 : 0 ≤ a1) (h1 : a1 ≤ 2000000000000000000) :
    ∃ k x a' d', spec_l1Cur_num.f k s a d = some (x, a', d') ∧ x < 18446744073709551616 ∧ a1 ≤ a' ∧ a' ≤ a1 + 4 := by
  have hE : ∃ x a' d', Ev (fun k => spec_l1Cur_num.f k s a d) (x, a', d') ∧ x < 18446744073709551616 ∧ a1 ≤ a' ∧ a' ≤ a1 + 4 := by
    simp only [spec_l1Cur_num.f, e, Option.bind_some]
    by_cases c1 : t = 1
    · subst c1
      exact ⟨_, a1, d1, Ev.ite_neg (by decide) (Ev.ite_pos rfl (Ev.ite_pos inf_ok.1 (Ev.now _))), inf_ok.2, by omega, by omega⟩
    by_cases c2 : t = 2
    · subst c2
      exact ⟨_, a1, d1, Ev.ite_neg (by decide) (Ev.ite_neg (by decide) (Ev.ite_pos rfl (Ev.ite_pos minf_ok.1 (Ev.now _)))), minf_ok.2, by omega, by omega⟩
    by_cases c3 : t = 3
    · subst c3
      exact ⟨_, a1, d1, Ev.ite_neg (by decide) (Ev.ite_neg (by decide) (Ev.ite_neg (by decide) (Ev.ite_pos rfl (Ev.bind (Ev.const rfl) (Ev.now _))))), fneg_lt (by decide), by omega, by omega⟩
    by_cases c4 : t = 4
    · subst c4
      obtain ⟨r, a2, d2, e2, r0, r1, ha, hb⟩ := pick_some hs (a := a1) (d := d1) (n := 9) h0 (by omega)
      have hr := r1 (by omega)
      have hone := one_at r r0 (by omega)
      obtain ⟨v, a3, d3, e3, hv, ha3, hb3⟩ := among_some hs (a := a2) (d := d2) (by omega) (by omega) [(-1074), (-1070), (-1022), 1019, 1020, (-3), 52] (by decide)
      have hv2 : -2000 ≤ v ∧ v ≤ 2000 := by
        simp only [List.mem_cons, List.not_mem_nil, or_false] at hv
        rcases hv with h | h | h | h | h | h | h <;> omega
      obtain ⟨y, hy, _, hlt⟩ := scaled_any _ v hv2 hone.2.1 hone.2.2
      exact ⟨y, a3, d3, Ev.ite_neg (by decide) (Ev.ite_neg (by decide) (Ev.ite_neg (by decide) (Ev.ite_neg (by decide) (Ev.ite_pos rfl (Ev.bind (Ev.const e2) (Ev.ite_pos hone.1 (Ev.bind (Ev.const e3) (Ev.bind hy (Ev.now _))))))))), hlt, by omega, by omega⟩
    by_cases c5 : t = 5
    · subst c5
      obtain ⟨r, a2, d2, e2, r0, r1, ha, hb⟩ := pick_some hs (a := a1) (d := d1) (n := 99) h0 (by omega)
      have hr := r1 (by omega)
      have hone := one_at r r0 (by omega)
      obtain ⟨v, a3, d3, e3, v0, v1, ha3, hb3⟩ := pick_some hs (a := a2) (d := d2) (n := 9) (by omega) (by omega)
      have hv := v1 (by omega)
      have hw : wrap64 (v - 4) = v - 4 := wrap_id (by omega) (by omega)
      obtain ⟨y, hy, _, hlt⟩ := scaled_any _ (wrap64 (v - 4)) (by omega) hone.2.1 hone.2.2
      exact ⟨_, a3, d3, Ev.ite_neg (by decide) (Ev.ite_neg (by decide) (Ev.ite_neg (by decide) (Ev.ite_neg (by decide) (Ev.ite_neg (by decide) (Ev.ite_pos rfl (Ev.bind (Ev.const e2) (Ev.ite_pos hone.1 (Ev.bind (Ev.const e3) (Ev.bind hy (Ev.now _)))))))))), fneg_lt hlt, by omega, by omega⟩
    obtain ⟨r, a2, d2, e2, r0, r1, ha, hb⟩ := pick_some hs (a := a1) (d := d1) (n := 5) h0 (by omega)
    exact ⟨_, a2, d2, Ev.ite_neg ht (Ev.ite_neg c1 (Ev.ite_neg c2 (Ev.ite_neg c3 (Ev.ite_neg c4 (Ev.ite_neg c5 (Ev.bind (Ev.const e2) (Ev.now _))))))), (fofi_nan _).2, by omega, by omega⟩
  obtain ⟨x, a', d', hE, h⟩ := hE
  obtain ⟨k, hk⟩ := hE.rounds
  exact ⟨k, x, a', d', hk, h⟩
set_option maxHeartbeats 4000000 in
set_option maxRecDepth 100000 in
theorem num_nan {w0 w : World} {g : Nat} {s : List Int} {a d a1 d1 : Int} (hI : IsS94 w0 w g s a d) (hB : Below w0.heap.size w0 w) (e : spec_l1Cur_pick.f s a d 12 = some (0, a1, d1)) :
    Calls Try.prog 101 #[.pointer (some ⟨g, 0, none⟩)] w fun e w' => ∃ x, x < 18446744073709551616 ∧ e = .returned (.float .f64 x) ∧ IsS94 w0 w' g s a1 d1 ∧ Below w0.heap.size w0 w' ∧ KeepBut w w' g none := by
  have hd : fdivOk 0 0 = false := by decide +kernel
  have A2 := Aside0.mk e
  have HI0 := Aside0.mk hI
  have HB := Aside0.mk hB
  clear e hI hB
  go_enter Try.func101, Try.ntmps101
  go_wp2_with (first | (go_at_call 81; (with_reducible refine (spec_l1Cur_pick.calls g s a d 12 0 a1 d1 w0 _ ?side1 ?side2 A2.out).mono ?_); (case side1 => exact HI0.out); (case side2 => exact HB.out); rintro e w5 ⟨rfl, hi, hb, hk⟩; have n0_ := Aside0.mk hi; have n1_ := Aside0.mk hb; have n2_ := Aside0.mk hk; clear HI0 HB hi hb hk; have HI0 := n0_; have HB := n1_; have HK := n2_; clear n0_ n1_ n2_))
  go_ret
  exact ⟨_, nanOf_lt _, rfl, by repeat (first | exact HI0.out | apply IsS94.drewN | apply IsS94.drew), by repeat (first | exact HB.out | apply pw_below_drewN | apply below_drew1), by repeat (first | exact HK.out | apply keep_drewN | apply keep_drew)⟩
theorem num_any {w0 w : World} {g : Nat} {s : List Int} {m : Int} (hs : okBy s) (hI : Cur w0 w g s m) (hm : m ≤ 1000000000000000000) (hB : Below w0.heap.size w0 w) :
    Calls Try.prog 101 #[.pointer (some ⟨g, 0, none⟩)] w fun e w' => ∃ x, x < 18446744073709551616 ∧ e = .returned (.float .f64 x) ∧ Cur w0 w' g s (m + 6) ∧ Below w0.heap.size w0 w' ∧ KeepBut w w' g none := by
  obtain ⟨a, d, hI, h0, h1⟩ := hI
  obtain ⟨t, a1, d1, e, r0, r1, ha, hb⟩ := pick_some hs (d := d) (n := 12) h0 (by omega)
  by_cases ht : t = 0
  · subst ht
    refine (num_nan hI hB e).mono ?_
    rintro e w' ⟨x, hx, he, hi, hb', hk⟩
    exact ⟨x, hx, he, ⟨a1, d1, hi, by omega, by omega⟩, hb', hk⟩
  · obtain ⟨k, x, a', d', hk, hx, ha', hb'⟩ := num_some hs e ht (by omega) (by omega)
    refine (spec_l1Cur_num.calls k g s a d x a' d' w0 w hI hB hk).mono ?_
    rintro e w' ⟨he, hi, hb2, hk2⟩
    exact ⟨x, hx, he, ⟨a', d', hi, by omega, by omega⟩, hb2, hk2⟩
/-! ### the functions that draw numbers -/
set_option maxHeartbeats 4000000 in
set_option maxRecDepth 100000 in
theorem drawKindOf_any {w : World} {A0 : Option Addr} {c0 : Nat} {s : List Int} (hs : okBy s) (hr0 : Kd.C (Kd.int .u8) w A0 s.length s) :
    Calls Try.prog 91 #[.slice A0 s.length c0] w fun e w' => ∃ x, x < 18446744073709551616 ∧ e = .returned (.float .f64 x) ∧ Below w.heap.size w w' := by
  have HS := Aside0.mk hs
  have HR := Aside0.mk hr0
  clear hs hr0
  go_enter Try.func91, Try.ntmps91
  go_wp2_with (first | (go_at_call 101; (with_reducible refine (num_any (w0 := w) (m := 0) HS.out (Cur.new w _ A0 c0 s (Below.refl _ _) HR.out) (by omega) (below_alloc (Below.refl _ _) _)).mono ?_); rintro e w1 ⟨x, hx, rfl, hi, hb, hk⟩; have HX := Aside0.mk hx; have HB := Aside0.mk hb; clear hx hi hb hk))
  go_ret
  exact ⟨_, HX.out, rfl, by repeat (first | exact HB.out | apply pw_below_drewN | apply below_drew1)⟩
set_option maxHeartbeats 4000000 in
set_option maxRecDepth 100000 in
theorem drawSameNum_any {w : World} {A0 : Option Addr} {c0 : Nat} {s : List Int} (hs : okBy s) (hr0 : Kd.C (Kd.int .u8) w A0 s.length s) :
    Calls Try.prog 84 #[.slice A0 s.length c0] w fun e w' => ∃ x y, x < 18446744073709551616 ∧ y < 18446744073709551616 ∧ e = .returned (.tuple #[.float .f64 x, .float .f64 y]) ∧ Below w.heap.size w w' := by
  have HS := Aside0.mk hs
  have HR := Aside0.mk hr0
  clear hs hr0
  go_enter Try.func84, Try.ntmps84
  go_wp2_with (first | (go_at_call 101; (with_reducible refine (num_any (w0 := w) (m := 0) HS.out (Cur.new w _ A0 c0 s (Below.refl _ _) HR.out) (by omega) (below_alloc (Below.refl _ _) _)).mono ?_); rintro e w1 ⟨x1, hx1, rfl, hi1, hb1, hk1⟩; have HX1 := Aside0.mk hx1; clear hx1; have HI := Aside0.mk (Cur.more (m' := 6) hi1 (by omega)); have HB := Aside0.mk hb1; clear hi1 hb1 hk1) | (go_at_call 110; (with_reducible refine (one_any (w0 := w) (m := 6) 3 HS.out (by repeat (first | (with_reducible first | exact HI.out | apply Cur.alloc | apply Cur.drewN | apply Cur.drew) | exact HI.out)) (by omega) (by repeat (first | (with_reducible first | exact HB.out | apply below_alloc | apply pw_below_drewN | apply below_drew1) | exact HB.out))).mono ?_); rintro e w2 ⟨b2, rfl, hi2, hb2, hk2⟩; clear HI HB; have HI := Aside0.mk (Cur.more (m' := 8) hi2 (by omega)); have HB := Aside0.mk hb2; clear hi2 hb2 hk2; cases b2) | (go_at_call 101; (with_reducible refine (num_any (w0 := w) (m := 8) HS.out (by repeat (first | (with_reducible first | exact HI.out | apply Cur.alloc | apply Cur.drewN | apply Cur.drew) | exact HI.out)) (by omega) (by repeat (first | (with_reducible first | exact HB.out | apply below_alloc | apply pw_below_drewN | apply below_drew1) | exact HB.out))).mono ?_); rintro e w3 ⟨x3, hx3, rfl, hi3, hb3, hk3⟩; have HX3 := Aside0.mk hx3; clear hx3; clear HI HB; have HI := Aside0.mk (Cur.more (m' := 14) hi3 (by omega)); have HB := Aside0.mk hb3; clear hi3 hb3 hk3))
  all_goals go_ret2
  all_goals exact ⟨_, _, HX1.out, by first | exact HX3.out | exact HX1.out, rfl, by repeat (first | exact HB.out | apply below_alloc | apply pw_below_drewN | apply below_drew1)⟩
set_option maxHeartbeats 4000000 in
set_option maxRecDepth 100000 in
theorem drawCompareNum_any {w : World} {A0 : Option Addr} {c0 : Nat} {s : List Int} (hs : okBy s) (hr0 : Kd.C (Kd.int .u8) w A0 s.length s) :
    Calls Try.prog 38 #[.slice A0 s.length c0] w fun e w' => ∃ x y, x < 18446744073709551616 ∧ y < 18446744073709551616 ∧ e = .returned (.tuple #[.float .f64 x, .float .f64 y]) ∧ Below w.heap.size w w' := by
  have HS := Aside0.mk hs
  have HR := Aside0.mk hr0
  clear hs hr0
  go_enter Try.func38, Try.ntmps38
  go_wp2_with (first | (go_at_call 84; (with_reducible refine (drawSameNum_any (c0 := c0) HS.out HR.out).mono ?_); rintro e w1 ⟨x1, y1, hx1, hy1, rfl, hb1⟩; have HX1 := Aside0.mk hx1; have HY1 := Aside0.mk hy1; have HB := Aside0.mk hb1; clear hx1 hy1 hb1))
  go_ret2
  exact ⟨_, _, HX1.out, HY1.out, rfl, by repeat (first | exact HB.out | apply below_alloc | apply pw_below_drewN | apply below_drew1)⟩
set_option maxHeartbeats 4000000 in
set_option maxRecDepth 100000 in
theorem drawPartsOf_any {w : World} {A0 : Option Addr} {c0 : Nat} {s : List Int} (hs : okBy s) (hr0 : Kd.C (Kd.int .u8) w A0 s.length s) :
    Calls Try.prog 45 #[.slice A0 s.length c0] w fun e w' => ∃ x, x < 18446744073709551616 ∧ e = .returned (.float .f64 x) ∧ Below w.heap.size w w' := by
  have HS := Aside0.mk hs
  have HR := Aside0.mk hr0
  clear hs hr0
  go_enter Try.func45, Try.ntmps45
  go_wp2_with (first | (go_at_call 91; (with_reducible refine (drawKindOf_any (c0 := c0) HS.out HR.out).mono ?_); rintro e w1 ⟨x1, hx1, rfl, hb1⟩; have HX1 := Aside0.mk hx1; have HB := Aside0.mk hb1; clear hx1 hb1))
  go_ret
  exact ⟨_, HX1.out, rfl, by repeat (first | exact HB.out | apply below_alloc | apply pw_below_drewN | apply below_drew1)⟩
theorem M_int1 (w : World) (base : Nat) (ok : Nat → Prop) (x : Int) : (Kd.int .i64).M w base ok x [.int .i64 x] := rfl
def drawA : List Int := ([1, (-1), 3, 5, (-7), 9007199254740991, 9007199254740993, 2, 0] : List Int)
def drawB : List Int := ([0, 1, (-1), 10, (-1074), (-1075), (-1073), 1023, 1024, 971, 970, (-1200), 1201] : List Int)
def drawC : List Int := ([1, 2, 3, 5, 1000, 1001, 0] : List Int)
set_option maxHeartbeats 4000000 in
set_option maxRecDepth 100000 in
theorem drawNumOf_any {w : World} {A0 : Option Addr} {c0 : Nat} {s : List Int} (hs : okBy s) (hr0 : Kd.C (Kd.int .u8) w A0 s.length s) :
    Calls Try.prog 53 #[.slice A0 s.length c0] w fun e w' => ∃ x y, (x ∈ drawA ∧ y ∈ drawB) ∧ e = .returned (.tuple #[.int .i64 x, .int .i64 y]) ∧ Below w.heap.size w w' := by
  obtain ⟨y1, hy1⟩ : ∃ y_ : List Int, y_ = ([1, (-1), 3, 5, (-7), 9007199254740991, 9007199254740993, 2, 0] : List Int) := ⟨_, rfl⟩
  have Nl1 : Aside0 (0 < y1.length) := ⟨by subst hy1; exact Nat.succ_pos _⟩
  have Ny1 := Aside0.mk hy1
  clear hy1
  obtain ⟨y2, hy2⟩ : ∃ y_ : List Int, y_ = ([0, 1, (-1), 10, (-1074), (-1075), (-1073), 1023, 1024, 971, 970, (-1200), 1201] : List Int) := ⟨_, rfl⟩
  have Nl2 : Aside0 (0 < y2.length) := ⟨by subst hy2; exact Nat.succ_pos _⟩
  have Ny2 := Aside0.mk hy2
  clear hy2
  have HS := Aside0.mk hs
  have HR := Aside0.mk hr0
  clear hs hr0
  go_enter Try.func53, Try.ntmps53
  go_wp2_with (first | ((with_reducible refine gate_dst (N := 9) rfl ?_); refine Kd.R_lit (Kd.int .i64) _ 3 ?hg (N := 9) ?hd (xs := ([1, (-1), 3, 5, (-7), 9007199254740991, 9007199254740993, 2, 0] : List Int)) (inner := [.int .i64 1, .int .i64 (-1), .int .i64 3, .int .i64 5, .int .i64 (-7), .int .i64 9007199254740991, .int .i64 9007199254740993, .int .i64 2, .int .i64 0]) (ok := fun _ => True) (okp := fun _ => True) ?hr ?hp (fun _ hk => hk) trivial (Below.refl _ _) (Nat.le_refl _) (by simp) ?_; (case hd => rfl); (case hg => rfl); (case hr => first | (go_simp; done) | (go_simp; rfl)); (case hp => exact (Reps.one (M_int1 _ _ _ 1) (Reps.one (M_int1 _ _ _ (-1)) (Reps.one (M_int1 _ _ _ 3) (Reps.one (M_int1 _ _ _ 5) (Reps.one (M_int1 _ _ _ (-7)) (Reps.one (M_int1 _ _ _ 9007199254740991) (Reps.one (M_int1 _ _ _ 9007199254740993) (Reps.one (M_int1 _ _ _ 2) (Reps.one (M_int1 _ _ _ 0) (Reps.none _ _))))))))))); intro v1 wl1 ho1 hb1 hg_ hnew_; clear hg_ hnew_; (first | rw [← Ny1.out] at ho1 | (simp only [Int.reduceToNat] at ho1; rw [← Ny1.out] at ho1)); have n0_ := Aside0.mk ho1; have n1_ := Aside0.mk (Cur.below (m := 0) (Cur.new w _ A0 c0 s (Below.refl _ _) HR.out) hb1); have n2_ := Aside0.mk (below_step (below_alloc (Below.refl _ _) _) hb1); clear ho1 hb1; have HO1 := n0_; have HI := n1_; have HB := n2_; clear n0_ n1_ n2_; obtain ⟨Ao1, co1, eo1⟩ := Kd.R_slice HO1.out; subst eo1))
  go_at_call 99; (with_reducible refine (among_any (w0 := w) (m := 0) y1 Nl1.out HS.out (by repeat (first | (with_reducible first | exact HI.out | apply Cur.alloc | apply Cur.drewN | apply Cur.drew) | exact HI.out)) (by omega) (by repeat (first | (with_reducible first | exact HB.out | apply below_alloc | apply pw_below_drewN | apply below_drew1) | exact HB.out)) ?hr ?hc ?hf).mono ?_); (case hr => repeat (first | exact (Kd.R_reads' HO1.out).2.2 | (with_reducible refine Kd.C_alloc ?_ _) | (with_reducible refine Kd.C_drewN ?_ _) | (with_reducible refine Kd.C_drew ?_))); (case hc => exact (Kd.R_reads' HO1.out).2.1); (case hf => exact Cur.far HI.out HO1.out); rintro e w1 ⟨r1, hr1, rfl, hi1, hb1, hk1⟩; have HV1 := Aside0.mk hr1; clear hr1; clear HI HB; have HI := Aside0.mk (Cur.more (m' := 2) hi1 (by omega)); have HB := Aside0.mk hb1; clear hi1 hb1 hk1
  go_wp2_with (first | ((with_reducible refine gate_dst (N := 12) rfl ?_); refine Kd.R_lit (Kd.int .i64) _ 3 ?hg (N := 12) ?hd (xs := ([0, 1, (-1), 10, (-1074), (-1075), (-1073), 1023, 1024, 971, 970, (-1200), 1201] : List Int)) (inner := [.int .i64 0, .int .i64 1, .int .i64 (-1), .int .i64 10, .int .i64 (-1074), .int .i64 (-1075), .int .i64 (-1073), .int .i64 1023, .int .i64 1024, .int .i64 971, .int .i64 970, .int .i64 (-1200), .int .i64 1201]) (ok := fun _ => True) (okp := fun _ => True) ?hr ?hp (fun _ hk => hk) trivial (Below.refl _ _) (Nat.le_refl _) (by simp) ?_; (case hd => rfl); (case hg => rfl); (case hr => first | (go_simp; done) | (go_simp; rfl)); (case hp => exact (Reps.one (M_int1 _ _ _ 0) (Reps.one (M_int1 _ _ _ 1) (Reps.one (M_int1 _ _ _ (-1)) (Reps.one (M_int1 _ _ _ 10) (Reps.one (M_int1 _ _ _ (-1074)) (Reps.one (M_int1 _ _ _ (-1075)) (Reps.one (M_int1 _ _ _ (-1073)) (Reps.one (M_int1 _ _ _ 1023) (Reps.one (M_int1 _ _ _ 1024) (Reps.one (M_int1 _ _ _ 971) (Reps.one (M_int1 _ _ _ 970) (Reps.one (M_int1 _ _ _ (-1200)) (Reps.one (M_int1 _ _ _ 1201) (Reps.none _ _))))))))))))))); intro v2 wl2 ho2 hb2 hg_ hnew_; clear hg_ hnew_; (first | rw [← Ny2.out] at ho2 | (simp only [Int.reduceToNat] at ho2; rw [← Ny2.out] at ho2)); have n0_ := Aside0.mk ho2; have n1_ := Aside0.mk (Cur.below (m := 2) (by repeat (first | (with_reducible first | exact HI.out | apply Cur.alloc | apply Cur.drewN | apply Cur.drew) | exact HI.out)) hb2); have n2_ := Aside0.mk (below_step (by repeat (first | (with_reducible first | exact HB.out | apply below_alloc | apply pw_below_drewN | apply below_drew1) | exact HB.out)) hb2); clear HI HB; clear ho2 hb2; have HO2 := n0_; have HI := n1_; have HB := n2_; clear n0_ n1_ n2_; obtain ⟨Ao2, co2, eo2⟩ := Kd.R_slice HO2.out; subst eo2))
  go_at_call 99; (with_reducible refine (among_any (w0 := w) (m := 2) y2 Nl2.out HS.out (by repeat (first | (with_reducible first | exact HI.out | apply Cur.alloc | apply Cur.drewN | apply Cur.drew) | exact HI.out)) (by omega) (by repeat (first | (with_reducible first | exact HB.out | apply below_alloc | apply pw_below_drewN | apply below_drew1) | exact HB.out)) ?hr ?hc ?hf).mono ?_); (case hr => repeat (first | exact (Kd.R_reads' HO2.out).2.2 | (with_reducible refine Kd.C_alloc ?_ _) | (with_reducible refine Kd.C_drewN ?_ _) | (with_reducible refine Kd.C_drew ?_))); (case hc => exact (Kd.R_reads' HO2.out).2.1); (case hf => exact Cur.far HI.out HO2.out); rintro e w2 ⟨r2, hr2, rfl, hi2, hb2, hk2⟩; have HV2 := Aside0.mk hr2; clear hr2; clear HI HB; have HI := Aside0.mk (Cur.more (m' := 4) hi2 (by omega)); have HB := Aside0.mk hb2; clear hi2 hb2 hk2
  go_wp2_with fail
  go_ret2
  have e1_ : y1 = drawA := Ny1.out
  have e2_ : y2 = drawB := Ny2.out
  exact ⟨_, _, ⟨e1_ ▸ HV1.out, e2_ ▸ HV2.out⟩, rfl, by repeat (first | exact HB.out | apply below_alloc | apply pw_below_drewN | apply below_drew1)⟩
set_option maxHeartbeats 4000000 in
set_option maxRecDepth 100000 in
theorem drawToIndex_any {w : World} {A0 : Option Addr} {c0 : Nat} {s : List Int} (hs : okBy s) (hr0 : Kd.C (Kd.int .u8) w A0 s.length s) :
    Calls Try.prog 55 #[.slice A0 s.length c0] w fun e w' => ∃ x y, x < 18446744073709551616 ∧ y ∈ drawC ∧ e = .returned (.tuple #[.float .f64 x, .int .i64 y]) ∧ Below w.heap.size w w' := by
  obtain ⟨y2, hy2⟩ : ∃ y_ : List Int, y_ = ([1, 2, 3, 5, 1000, 1001, 0] : List Int) := ⟨_, rfl⟩
  have Nl2 : Aside0 (0 < y2.length) := ⟨by subst hy2; exact Nat.succ_pos _⟩
  have Ny2 := Aside0.mk hy2
  clear hy2
  have HS := Aside0.mk hs
  have HR := Aside0.mk hr0
  clear hs hr0
  go_enter Try.func55, Try.ntmps55
  go_wp2_with fail
  go_at_call 101; (with_reducible refine (num_any (w0 := w) (m := 0) HS.out (Cur.new w _ A0 c0 s (Below.refl _ _) HR.out) (by omega) (below_alloc (Below.refl _ _) _)).mono ?_); rintro e w1 ⟨x1, hx1, rfl, hi1, hb1, hk1⟩; have HX1 := Aside0.mk hx1; clear hx1; have HI := Aside0.mk (Cur.more (m' := 6) hi1 (by omega)); have HB := Aside0.mk hb1; clear hi1 hb1 hk1
  go_wp2_with (first | ((with_reducible refine gate_dst (N := 11) rfl ?_); refine Kd.R_lit (Kd.int .i64) _ 3 ?hg (N := 11) ?hd (xs := ([1, 2, 3, 5, 1000, 1001, 0] : List Int)) (inner := [.int .i64 1, .int .i64 2, .int .i64 3, .int .i64 5, .int .i64 1000, .int .i64 1001, .int .i64 0]) (ok := fun _ => True) (okp := fun _ => True) ?hr ?hp (fun _ hk => hk) trivial (Below.refl _ _) (Nat.le_refl _) (by simp) ?_; (case hd => rfl); (case hg => rfl); (case hr => first | (go_simp; done) | (go_simp; rfl)); (case hp => exact (Reps.one (M_int1 _ _ _ 1) (Reps.one (M_int1 _ _ _ 2) (Reps.one (M_int1 _ _ _ 3) (Reps.one (M_int1 _ _ _ 5) (Reps.one (M_int1 _ _ _ 1000) (Reps.one (M_int1 _ _ _ 1001) (Reps.one (M_int1 _ _ _ 0) (Reps.none _ _))))))))); intro v2 wl2 ho2 hb2 hg_ hnew_; clear hg_ hnew_; (first | rw [← Ny2.out] at ho2 | (simp only [Int.reduceToNat] at ho2; rw [← Ny2.out] at ho2)); have n0_ := Aside0.mk ho2; have n1_ := Aside0.mk (Cur.below (m := 6) (by repeat (first | (with_reducible first | exact HI.out | apply Cur.alloc | apply Cur.drewN | apply Cur.drew) | exact HI.out)) hb2); have n2_ := Aside0.mk (below_step (by repeat (first | (with_reducible first | exact HB.out | apply below_alloc | apply pw_below_drewN | apply below_drew1) | exact HB.out)) hb2); clear HI HB; clear ho2 hb2; have HO2 := n0_; have HI := n1_; have HB := n2_; clear n0_ n1_ n2_; obtain ⟨Ao2, co2, eo2⟩ := Kd.R_slice HO2.out; subst eo2))
  go_at_call 99; (with_reducible refine (among_any (w0 := w) (m := 6) y2 Nl2.out HS.out (by repeat (first | (with_reducible first | exact HI.out | apply Cur.alloc | apply Cur.drewN | apply Cur.drew) | exact HI.out)) (by omega) (by repeat (first | (with_reducible first | exact HB.out | apply below_alloc | apply pw_below_drewN | apply below_drew1) | exact HB.out)) ?hr ?hc ?hf).mono ?_); (case hr => repeat (first | exact (Kd.R_reads' HO2.out).2.2 | (with_reducible refine Kd.C_alloc ?_ _) | (with_reducible refine Kd.C_drewN ?_ _) | (with_reducible refine Kd.C_drew ?_))); (case hc => exact (Kd.R_reads' HO2.out).2.1); (case hf => exact Cur.far HI.out HO2.out); rintro e w2 ⟨r2, hr2, rfl, hi2, hb2, hk2⟩; have HV2 := Aside0.mk hr2; clear hr2; clear HI HB; have HI := Aside0.mk (Cur.more (m' := 8) hi2 (by omega)); have HB := Aside0.mk hb2; clear hi2 hb2 hk2
  go_wp2_with fail
  go_ret2
  have e2_ : y2 = drawC := Ny2.out
  exact ⟨_, _, HX1.out, e2_ ▸ HV2.out, rfl, by repeat (first | exact HB.out | apply below_alloc | apply pw_below_drewN | apply below_drew1)⟩

end Go.Proofs.Ythdpiceiemkjlaa.Pure

/- What is known of numbers and their texts: a number's text is read back. -/
import Derived.Test.YthdpiceiemkjlaaDoorGFnNumTextx8
import Derived.Test.YthdpiceiemkjlaaDoorMBase
import Derived.KernelRfl
import Derived.Test.YthdpiceiemkjlaaDoorMReal
import Derived.Test.YthdpiceiemkjlaaDoorMNum
import Derived.Test.YthdpiceiemkjlaaDoorGFnNumTextx1
import Derived.Test.YthdpiceiemkjlaaDoorGFnNumTextx2
import Derived.Test.YthdpiceiemkjlaaDoorGFnNumTextx3
import Derived.Test.YthdpiceiemkjlaaDoorGFnNumTextx4
import Derived.Test.YthdpiceiemkjlaaDoorGFnNumTextx5
import Derived.Test.YthdpiceiemkjlaaDoorGFnNumTextx6
import Derived.Test.YthdpiceiemkjlaaDoorGFnNumTextx7
import Derived.Test.YthdpiceiemkjlaaDoorGFnNumTextx8
import Derived.Lib.ItoaLen
import Derived.Lib.ItoaMem
import Derived.Lib.AtoiAll
import Derived.Lib.Split
set_option linter.unusedVariables false
set_option linter.unusedSimpArgs false
namespace Go.Proofs.YthdpiceiemkjlaaDoor.Pure
open Go.RowKit Go.Proofs.YthdpiceiemkjlaaDoor.GFnNumText Go.Proofs.YthdpiceiemkjlaaDoorW.PrintWords Go.Proofs.YthdpiceiemkjlaaDoorW.PrintLast Go.Proofs.YthdpiceiemkjlaaDoorW.PrintMore Go.Proofs.YthdpiceiemkjlaaDoor.MBase
open Go.Proofs.YthdpiceiemkjlaaDoor Go.Proofs.YthdpiceiemkjlaaDoor.MNum Go.Proofs.YthdpiceiemkjlaaDoor.MIeee Go.Proofs.YthdpiceiemkjlaaDoor.MReal
/-- The kind of a number. -/
def kindN (x : Nat) : Int := if isNan x = true then 0 else if rg x = INF then 1 else if rg x = 0 then 2 else if 2 ^ E74 ∣ val (rg x) then 3 else 4
theorem impl_kind {x : Nat} (hx : x < 18446744073709551616) : impl_KindOf.f x = some (kindN x) := by
  simp only [impl_KindOf.f, math_IsNaN.f, math_IsInf.f, math_Abs.f, math_Trunc.f, Option.bind_some, feq_self, ftruncOk_eq, andNot_sign hx]
  unfold kindN
  have hI := inf_small
  cases hn : isNan x with
  | true => rfl
  | false =>
    have hle : ¬ INF < rg x := of_decide_eq_false hn
    have hr := key_rg x
    have hnr : isNan (rg x) = false := by unfold isNan; rw [hr.2]; exact decide_eq_false hle
    have hmx : isNan 9218868437227405311 = false := by decide
    have hkm : key 9218868437227405311 = 9218868437227405311 := by decide
    simp only [Bool.not_false, Bool.not_true, Bool.false_eq_true, if_false, if_true, fgt_eq hnr hmx, hkm, hr.1, feq_eq hn nan_zero, key_zero, key_rg_zero, decide_eq_true_eq, Option.bind_some]
    by_cases hi : rg x = INF
    · have : (9218868437227405311 : Int) < (rg x : Int) := by unfold INF at hi; omega
      rw [if_pos this, if_pos hi]
    · have h1 : ¬ (9218868437227405311 : Int) < (rg x : Int) := by unfold INF at hi hle; omega
      rw [if_neg h1, if_neg hi]
      by_cases hz : rg x = 0
      · rw [if_pos hz, if_pos hz]
      · rw [if_neg hz, if_neg hz, feq_trunc (show rg x < INF by omega)]
        simp only [decide_eq_true_eq]
        by_cases hd : 2 ^ E74 ∣ val (rg x)
        · rw [if_pos hd, if_pos hd]
        · rw [if_neg hd, if_neg hd]
def sgn (s : Bool) (n : Nat) : Int := if s = true then -(n : Int) else (n : Int)
theorem sgn_tmod (s : Bool) (n : Nat) : Int.tmod (sgn s n) 2 = 0 ↔ n % 2 = 0 := by
  unfold sgn
  have e : Int.tmod (n : Int) 2 = ((n % 2 : Nat) : Int) := by rw [Int.tmod_eq_emod_of_nonneg (by omega)]; omega
  cases s
  · simp only [Bool.false_eq_true, if_false]; rw [e]; omega
  · simp only [if_true]; rw [Int.neg_tmod, e]; omega
theorem sgn_tdiv (s : Bool) (n : Nat) : Int.tdiv (sgn s (2 * n)) 2 = sgn s n := by
  unfold sgn
  have e : Int.tdiv ((2 * n : Nat) : Int) 2 = (n : Int) := by rw [Int.tdiv_eq_ediv_of_nonneg (by omega)]; omega
  cases s
  · simp only [Bool.false_eq_true, if_false]; exact e
  · simp only [if_true]; rw [Int.neg_tdiv, e]
/-- A finite number, not nought: its sign, and u * 2^t in units of the least place. -/
structure St (x : Nat) (s : Bool) (u t : Nat) : Prop where
  lt : x < 18446744073709551616
  sg : sg x = s
  pos : 0 < rg x
  fin : rg x < INF
  val : val (rg x) = u * 2 ^ t
theorem st_word (s : Bool) {u t r : Nat} (h0 : 0 < r) (h : r < INF) (hv : val r = u * 2 ^ t) : St (Ieee.double.word s r) s u t := by
  have hI := inf_small
  exact ⟨word_lt s (by omega), sg_word s (by omega), by rw [rg_word s (by omega)]; exact h0, by rw [rg_word s (by omega)]; exact h, by rw [rg_word s (by omega)]; exact hv⟩
theorem St.nan {x u t : Nat} {s : Bool} (h : St x s u t) : isNan x = false := fin_nan h.fin
theorem St.top {x u t : Nat} {s : Bool} (h : St x s u t) : u * 2 ^ t < 2 ^ T98 := by rw [← h.val]; exact val_lt h.fin
theorem St.half {x u t : Nat} {s : Bool} (h : St x s u (t + 1)) (hu0 : 0 < u) (hu : u < 9007199254740992) : fdivOk x 4611686018427387904 = true ∧ St (fdiv x 4611686018427387904) s u t := by
  have e : u * 2 ^ (t + 1) = u * 2 ^ t * 2 := by rw [Nat.pow_succ, Nat.mul_assoc]
  have ht := h.top
  obtain ⟨r, hr0, hr, hv⟩ := rung_of (q := t) hu0 hu (by omega)
  refine ⟨(half_ok h.nan).1, ?_⟩
  rw [half_eq h.fin h.pos hr0 hr (by rw [hv, h.val, e]), h.sg]
  exact st_word s hr0 hr hv
theorem St.double {x u t : Nat} {s : Bool} (h : St x s u t) (hu0 : 0 < u) (hu : u < 9007199254740992) (ht : u * 2 ^ (t + 1) < 2 ^ T98) : fmulOk x 4611686018427387904 = true ∧ St (fmul x 4611686018427387904) s u (t + 1) := by
  have e : u * 2 ^ (t + 1) = u * 2 ^ t * 2 := by rw [Nat.pow_succ, Nat.mul_assoc]
  obtain ⟨r, hr0, hr, hv⟩ := rung_of (q := t + 1) hu0 hu ht
  refine ⟨(mul_pow_ok pow_two h.nan).1, ?_⟩
  rw [mul_up (j := 1) pow_two h.fin h.pos hr0 hr (by rw [hv, h.val, e, Nat.pow_one]), h.sg]
  exact st_word s hr0 hr hv
/-- The bound of the loops. -/
def B52 : Nat := E74 + 52
def B53 : Nat := E74 + 53
def P52 : Nat := 2 ^ B52
def P53 : Nat := 2 ^ B53
theorem B52_eq : B52 = E74 + 52 := rfl
theorem B53_eq : B53 = E74 + 53 := rfl
theorem P52_eq : P52 = 2 ^ B52 := rfl
theorem P53_eq : P53 = 2 ^ B53 := rfl
theorem P52_pos : 0 < P52 := Nat.two_pow_pos _
theorem P53_two : P53 = P52 * 2 := by
  rw [P53_eq, P52_eq, show B53 = B52 + 1 from by rw [B53_eq, B52_eq], Nat.pow_succ]
theorem P53_top : P53 ≤ 2 ^ T98 := by
  rw [P53_eq]
  exact Nat.pow_le_pow_right (by omega) (by rw [B53_eq, E74_eq, T98_eq]; omega)
theorem pow_P52 {t : Nat} (h : E74 + 52 ≤ t) : P52 ≤ 2 ^ t := by
  rw [P52_eq]; exact Nat.pow_le_pow_right (by omega) (by rw [B52_eq]; omega)
theorem pow_P53 {t : Nat} (h : E74 + 53 ≤ t) : P53 ≤ 2 ^ t := by
  rw [P53_eq]; exact Nat.pow_le_pow_right (by omega) (by rw [B53_eq]; omega)
theorem le_P52 {t : Nat} (h : t ≤ E74 + 52) : 2 ^ t ≤ P52 := by
  rw [P52_eq]; exact Nat.pow_le_pow_right (by omega) (by rw [B52_eq]; omega)
theorem edge : sval 4841369599423283200 = (P52 : Int) ∧ isNan 4841369599423283200 = false := by refine ⟨?_, ?_⟩ <;> kernel_rfl
theorem edge_neg : sval 14064741636278059008 = -(P52 : Int) ∧ isNan 14064741636278059008 = false := by refine ⟨?_, ?_⟩ <;> kernel_rfl
theorem St.sval {x u t : Nat} {s : Bool} (h : St x s u t) : sval x = sgn s (u * 2 ^ t) := by
  unfold MIeee.sval sgn
  rw [h.sg, h.val]
theorem St.gt {x u t : Nat} {s : Bool} (h : St x s u t) : fgt x 4841369599423283200 = decide (s = false ∧ P52 < u * 2 ^ t) := by
  rw [fgt_eq h.nan edge.2, decide_eq_decide, ← sval_lt_iff, edge.1, h.sval]
  unfold sgn
  cases s
  · simp only [Bool.false_eq_true, if_false, true_and]; omega
  · simp only [if_true, reduceCtorEq, false_and, iff_false]; omega
theorem St.lt_neg {x u t : Nat} {s : Bool} (h : St x s u t) : flt x 14064741636278059008 = decide (s = true ∧ P52 < u * 2 ^ t) := by
  rw [flt_eq h.nan edge_neg.2, decide_eq_decide, ← sval_lt_iff, edge_neg.1, h.sval]
  unfold sgn
  have hp := P52_pos
  cases s
  · simp only [Bool.false_eq_true, if_false, false_and, iff_false]; omega
  · simp only [if_true, true_and]; omega
theorem St.lt_pos {x u t : Nat} {s : Bool} (h : St x s u t) (hu0 : 0 < u) : flt x 4841369599423283200 = decide (s = true ∨ u * 2 ^ t < P52) := by
  rw [flt_eq h.nan edge.2, decide_eq_decide, ← sval_lt_iff, edge.1, h.sval]
  have hq : 0 < u * 2 ^ t := Nat.mul_pos hu0 (Nat.two_pow_pos _)
  unfold sgn
  cases s
  · simp only [Bool.false_eq_true, if_false, false_or]; omega
  · simp only [if_true, true_or, iff_true]; omega
theorem St.gt_neg {x u t : Nat} {s : Bool} (h : St x s u t) (hu0 : 0 < u) : fgt x 14064741636278059008 = decide (s = false ∨ u * 2 ^ t < P52) := by
  rw [fgt_eq h.nan edge_neg.2, decide_eq_decide, ← sval_lt_iff, edge_neg.1, h.sval]
  have hp := P52_pos
  unfold sgn
  cases s
  · simp only [Bool.false_eq_true, if_false, true_or, iff_true]; omega
  · simp only [if_true, reduceCtorEq, false_or]; omega
theorem odd_dvd {u t : Nat} (hu : u % 2 = 1) : 2 ^ E74 ∣ u * 2 ^ t ↔ E74 ≤ t := by
  constructor
  · intro h
    apply Classical.byContradiction
    intro hc
    obtain ⟨d, hd⟩ : ∃ d, E74 = t + (d + 1) := ⟨E74 - t - 1, by omega⟩
    rw [hd, Nat.pow_add, Nat.mul_comm u] at h
    have h2 : 2 ^ (d + 1) ∣ u := Nat.dvd_of_mul_dvd_mul_left (Nat.two_pow_pos _) h
    have h3 : 2 ∣ u := Nat.dvd_trans ⟨2 ^ d, by rw [Nat.pow_succ, Nat.mul_comm]⟩ h2
    omega
  · intro h
    exact Nat.dvd_trans (Nat.pow_dvd_pow 2 h) (Nat.dvd_mul_left _ _)
theorem whole_at {x u t : Nat} {s : Bool} (h : St x s u t) (hE : E74 ≤ t) : whole x = u * 2 ^ (t - E74) := by
  unfold whole
  rw [h.val, show u * 2 ^ t = u * 2 ^ (t - E74) * 2 ^ E74 from by rw [Nat.mul_assoc, ← Nat.pow_add]; congr 2; omega, Nat.mul_div_cancel _ (Nat.two_pow_pos _)]
theorem whole_le {x u t b : Nat} {s : Bool} (h : St x s u t) (hb : u * 2 ^ t < 2 ^ (E74 + b)) : whole x < 2 ^ b := by
  unfold whole
  rw [h.val, Nat.div_lt_iff_lt_mul (Nat.two_pow_pos _), ← Nat.pow_add, Nat.add_comm b]
  exact hb
theorem whole_le52 {x u t : Nat} {s : Bool} (h : St x s u t) (hb : u * 2 ^ t < P52) : whole x < 4503599627370496 := by
  rw [P52_eq, B52_eq] at hb
  exact Nat.lt_of_lt_of_eq (whole_le h hb) (by decide)
theorem whole_le53 {x u t : Nat} {s : Bool} (h : St x s u t) (hb : u * 2 ^ t < P53) : whole x < 9007199254740992 := by
  rw [P53_eq, B53_eq] at hb
  exact Nat.lt_of_lt_of_eq (whole_le h hb) (by decide)
theorem swhole_sgn {x u t : Nat} {s : Bool} (h : St x s u t) : swhole x = sgn s (whole x) := by
  unfold swhole sgn; rw [h.sg]
theorem l2_ev (s : Bool) (u : Nat) (hu : u % 2 = 1) : ∀ (b : Nat) (e : Int), u * 2 ^ b < 2 ^ 62 → -10000 ≤ e → e + b ≤ 10000 → Ev (fun k => spec_l1Parts.l2 k e (sgn s (u * 2 ^ b))) (sgn s u, e + b)
  | 0, e, hb, h1, h2 => by
    refine Ev.step (f := fun _ => some (sgn s u, e + (0 : Nat))) (fun k => ?_) (Ev.now _)
    simp only [spec_l1Parts.l2]
    rw [Nat.pow_zero, Nat.mul_one, if_neg (by rw [sgn_tmod]; omega)]
    simp
  | b + 1, e, hb, h1, h2 => by
    have e1 : u * 2 ^ (b + 1) = 2 * (u * 2 ^ b) := by rw [Nat.pow_succ]; simp only [Nat.mul_comm, Nat.mul_left_comm]
    have h62 : (2 : Nat) ^ 62 = 4611686018427387904 := by decide
    have ih := l2_ev s u hu b (e + 1) (by omega) (by omega) (by omega)
    rw [show e + 1 + (b : Int) = e + ((b + 1 : Nat) : Int) from by omega] at ih
    refine Ev.step (fun k => ?_) ih
    simp only [spec_l1Parts.l2]
    rw [e1, if_pos (by rw [sgn_tmod]; omega), sgn_tdiv, wrap_id (n := e + 1) (by omega) (by omega), wrap_id]
    · unfold sgn; split <;> omega
    · unfold sgn; split <;> omega
/-- The last part: a whole number that is not less than 2^52. -/
theorem j2_end {x u t : Nat} {s : Bool} (h : St x s u t) (hu : u % 2 = 1) (hu1 : u < 9007199254740992) (e : Int) (he : -5000 ≤ e ∧ e ≤ 4000) (hlo : P52 ≤ u * 2 ^ t) (hhi : u * 2 ^ t < P53) (htb : t < T98) :
    Ev (fun k => spec_l1Parts.j2 k x e false) (sgn s u, e + t - E74) := by
  have h53 : (2 : Nat) ^ 53 = 9007199254740992 := by decide
  have h62 : (2 : Nat) ^ 62 = 4611686018427387904 := by decide
  have hE : E74 ≤ t := by
    apply Classical.byContradiction
    intro hc
    have q1 : u * 2 ^ t < 2 ^ 53 * 2 ^ t := Nat.mul_lt_mul_of_pos_right (by omega) (Nat.two_pow_pos _)
    rw [← Nat.pow_add] at q1
    have q2 : (2 : Nat) ^ (53 + t) ≤ P52 := le_P52 (by omega)
    omega
  have hw := whole_at h hE
  have hwl := whole_le53 h hhi
  have hf := fint_eq h.fin (by omega)
  have hT := T98_eq
  have hL := l2_ev s u hu (t - E74) e (by omega) (by omega) (by omega)
  rw [show e + ((t - E74 : Nat) : Int) = e + (t : Int) - (E74 : Int) from by omega] at hL
  refine Ev.step (fun k => ?_) hL
  simp only [spec_l1Parts.j2]
  rw [if_neg (by simp), if_pos hf.1, hf.2, swhole_sgn h, hw]
theorem l1_step (s : Bool) (u q : Nat) (hu : u % 2 = 1) (hu1 : u < 9007199254740992) (hq : q < T98) (t x : Nat) (htb : t ≤ E74 + 53) (h : St x s u t) (hhi : u * 2 ^ t < P53)
    (ih : t < E74 + 52 → ∀ x', St x' s u (t + 1) → u * 2 ^ (t + 1) < P53 → Ev (fun k => spec_l1Parts.l1 k x' ((q : Int) - ((t + 1 : Nat) : Int))) (sgn s u, (q : Int) - E74)) :
    Ev (fun k => spec_l1Parts.l1 k x ((q : Int) - t)) (sgn s u, (q : Int) - E74) := by
    have hEq := E74_eq
    have hT := T98_eq
    have hu0 : 0 < u := by omega
    have hstep : ∀ k, spec_l1Parts.l1 (k+1) x ((q : Int) - t) = spec_l1Parts.j2 k x ((q : Int) - t) (decide (u * 2 ^ t < P52)) := by
      intro k
      simp only [spec_l1Parts.l1, h.lt_pos hu0, h.gt_neg hu0, decide_eq_true_eq]
      cases s
      · simp only [Bool.false_eq_true, false_or, true_or, decide_true]
        by_cases c : u * 2 ^ t < P52
        · rw [if_pos c, decide_eq_true c]
        · rw [if_neg c, decide_eq_false c]
      · simp only [true_or, if_true, reduceCtorEq, false_or]
    refine Ev.step hstep ?_
    by_cases c : u * 2 ^ t < P52
    · rw [decide_eq_true c]
      have h52 : (2 : Nat) ^ 52 = 4503599627370496 := by decide
      have hwl := whole_le52 h c
      have hf := fint_eq h.fin (by omega)
      have hfe := feq_fint h.fin (by omega)
      rw [h.val] at hfe
      by_cases ht : t = E74
      · subst ht
        have hw := whole_at h (Nat.le_refl _)
        rw [Nat.sub_self, Nat.pow_zero, Nat.mul_one] at hw
        refine Ev.step (f := fun _ => some (sgn s u, (q : Int) - E74)) (fun k => ?_) (Ev.now _)
        simp only [spec_l1Parts.j2]
        rw [if_pos trivial, if_pos hf.1, hfe, if_pos (decide_eq_true ((odd_dvd hu).mpr (Nat.le_refl _))), hf.2, swhole_sgn h, hw, if_neg (by rw [sgn_tmod]; omega)]
      · have ht53 : t < E74 + 52 := by
          apply Classical.byContradiction
          intro hc
          have q2 : P52 ≤ 2 ^ t := pow_P52 (by omega)
          have q3 : 2 ^ t ≤ u * 2 ^ t := Nat.le_mul_of_pos_left _ hu0
          omega
        have e2 : u * 2 ^ (t + 1) = u * 2 ^ t * 2 := by rw [Nat.pow_succ, Nat.mul_assoc]
        have e3 := P53_two
        have hhi2 : u * 2 ^ (t + 1) < P53 := by omega
        have htop : u * 2 ^ (t + 1) < 2 ^ T98 := Nat.lt_of_lt_of_le hhi2 P53_top
        have hm := h.double hu0 hu1 htop
        have hgo := ih ht53 _ hm.2 hhi2
        refine Ev.step (fun k => ?_) hgo
        simp only [spec_l1Parts.j2]
        have hw1 : wrap64 ((q : Int) - (t : Int) - 1) = (q : Int) - ((t + 1 : Nat) : Int) := by rw [wrap_id] <;> omega
        rw [if_pos trivial, if_pos hf.1, hfe, if_pos hm.1, hw1]
        by_cases hE : E74 ≤ t
        · have hw := whole_at h hE
          rw [if_pos (decide_eq_true ((odd_dvd hu).mpr hE)), hf.2, swhole_sgn h, hw, if_pos]
          rw [sgn_tmod, show t - E74 = (t - E74 - 1) + 1 from by omega, Nat.pow_succ, ← Nat.mul_assoc, Nat.mul_mod_left]
        · rw [if_neg (by simp only [decide_eq_true_eq]; rw [odd_dvd hu]; exact hE)]
    · rw [decide_eq_false c]
      have r := j2_end h hu hu1 ((q : Int) - t) ⟨by omega, by omega⟩ (by omega) hhi (by omega)
      rw [show (q : Int) - (t : Int) + (t : Int) - (E74 : Int) = (q : Int) - E74 from by omega] at r
      exact r
theorem l1_ev (s : Bool) (u q : Nat) (hu : u % 2 = 1) (hu1 : u < 9007199254740992) (hq : q < T98) : ∀ (d t x : Nat), t + d = E74 + 53 → St x s u t → u * 2 ^ t < P53 →
    Ev (fun k => spec_l1Parts.l1 k x ((q : Int) - t)) (sgn s u, (q : Int) - E74) := by
  intro d
  induction d with
  | zero => intro t x hd h hhi; exact l1_step s u q hu hu1 hq t x (by omega) h hhi (fun c => by omega)
  | succ d ih => intro t x hd h hhi; exact l1_step s u q hu hu1 hq t x (by omega) h hhi (fun _ x' h' hh' => ih (t + 1) x' (by omega) h' hh')
theorem l0_step (s : Bool) (u q : Nat) (hu : u % 2 = 1) (hu1 : u < 9007199254740992) (hq : q < T98) (t x : Nat) (htq : t ≤ q) (h : St x s u t)
    (ih : ∀ t', t = t' + 1 → ∀ x', St x' s u t' → Ev (fun k => spec_l1Parts.l0 k x' ((q : Int) - t')) (sgn s u, (q : Int) - E74)) :
    Ev (fun k => spec_l1Parts.l0 k x ((q : Int) - t)) (sgn s u, (q : Int) - E74) := by
    have hEq := E74_eq
    have hT := T98_eq
    have hu0 : 0 < u := by omega
    have h53 : (2 : Nat) ^ 53 = 9007199254740992 := by decide
    by_cases c : P52 < u * 2 ^ t
    · cases t with
      | zero =>
        exfalso
        rw [Nat.pow_zero, Nat.mul_one] at c
        have q2 : (2 : Nat) ^ 53 ≤ P52 := le_P52 (by omega)
        omega
      | succ t =>
        have hh := h.half hu0 hu1
        have hgo := ih t rfl _ hh.2
        have hw1 : wrap64 ((q : Int) - ((t + 1 : Nat) : Int) + 1) = (q : Int) - (t : Int) := by rw [wrap_id] <;> omega
        refine Ev.step (fun k => ?_) hgo
        simp only [spec_l1Parts.l0, h.gt, h.lt_neg, decide_eq_true_eq]
        rw [hw1, if_pos hh.1]
        cases s
        · rw [if_pos ⟨rfl, c⟩]
        · rw [if_neg (by simp), if_pos ⟨rfl, c⟩]
    · have hhi : u * 2 ^ t < P53 := by
        have e3 := P53_two
        have := P52_pos
        omega
      have ht53 : t ≤ E74 + 53 := by
        apply Classical.byContradiction
        intro hc
        have q2 : P53 ≤ 2 ^ t := pow_P53 (by omega)
        have q3 : 2 ^ t ≤ u * 2 ^ t := Nat.le_mul_of_pos_left _ hu0
        omega
      refine Ev.step (fun k => ?_) (l1_ev s u q hu hu1 hq (E74 + 53 - t) t x (by omega) h hhi)
      simp only [spec_l1Parts.l0, h.gt, h.lt_neg, decide_eq_true_eq]
      rw [if_neg (by omega), if_neg (by omega)]
theorem l0_ev (s : Bool) (u q : Nat) (hu : u % 2 = 1) (hu1 : u < 9007199254740992) (hq : q < T98) : ∀ (t x : Nat), t ≤ q → St x s u t →
    Ev (fun k => spec_l1Parts.l0 k x ((q : Int) - t)) (sgn s u, (q : Int) - E74) := by
  intro t
  induction t with
  | zero => intro x htq h; exact l0_step s u q hu hu1 hq 0 x htq h (fun t' e => by omega)
  | succ t ih => intro x htq h; exact l0_step s u q hu hu1 hq (t + 1) x htq h (fun t' e x' h' => by have : t' = t := by omega
                                                                                                    subst this; exact ih x' (by omega) h')
/-- Every number that is not nought is an odd one times a power of two. -/
theorem odd_part : ∀ n : Nat, 0 < n → ∃ u b : Nat, u % 2 = 1 ∧ n = u * 2 ^ b ∧ u ≤ n := by
  intro n
  induction n using Nat.strongRecOn with
  | _ n ih =>
    intro h
    by_cases h2 : n % 2 = 1
    · exact ⟨n, 0, h2, by simp, Nat.le_refl _⟩
    · obtain ⟨u, b, hu, he, hle⟩ := ih (n / 2) (by omega) (by omega)
      refine ⟨u, b + 1, hu, ?_, by omega⟩
      rw [Nat.pow_succ, ← Nat.mul_assoc, ← he]
      omega
theorem st_of {x : Nat} (hx : x < 18446744073709551616) (hf : rg x < INF) (h0 : 0 < rg x) : ∃ u q : Nat, u % 2 = 1 ∧ u < 9007199254740992 ∧ q < T98 ∧ St x (sg x) u q := by
  obtain ⟨m, a, hm0, hm, hv, _⟩ := val_parts hf h0
  obtain ⟨u, b, hu, he, hle⟩ := odd_part m hm0
  have hval : val (rg x) = u * 2 ^ (a + b) := by rw [← hv, he, Nat.mul_assoc, ← Nat.pow_add, Nat.add_comm b]
  refine ⟨u, a + b, hu, by omega, ?_, ⟨hx, rfl, h0, hf, hval⟩⟩
  have h1 := val_lt hf
  rw [hval] at h1
  have h2 : 2 ^ (a + b) ≤ u * 2 ^ (a + b) := Nat.le_mul_of_pos_left _ (by omega)
  exact (Nat.pow_lt_pow_iff_right (by omega)).mp (Nat.lt_of_le_of_lt h2 h1)
theorem parts_ev {x u q : Nat} {s : Bool} (h : St x s u q) (hu : u % 2 = 1) (hu1 : u < 9007199254740992) (hq : q < T98) : Ev (fun k => spec_l1Parts.f k x) (sgn s u, (q : Int) - E74) := by
  have r := l0_ev s u q hu hu1 hq q x (Nat.le_refl _) h
  rw [Int.sub_self] at r
  exact r
theorem sub_self_fin {x : Nat} (h : rg x < INF) : fsubOk x x = true ∧ fsub x x = 0 := by
  obtain ⟨m, a, hr, _⟩ := read_fin h
  have e : Ieee.double.sub x x = some 0 := by
    unfold Ieee.Format.sub
    rw [hr]
    unfold Ieee.Datum.opposite Ieee.Datum.sum
    simp only [Option.map_some]
    have hz : Ieee.signed (sg x) m ((-1074 + (a : Int)) - min (-1074 + (a : Int)) (-1074 + (a : Int))).toNat + Ieee.signed (!sg x) m ((-1074 + (a : Int)) - min (-1074 + (a : Int)) (-1074 + (a : Int))).toNat = 0 := by
      unfold Ieee.signed
      cases sg x <;> simp <;> omega
    rw [hz]
    simp only [if_true, Int.natAbs_zero]
    rw [write_num, nearest_zero]
    cases sg x <;> rfl
  unfold fsubOk fsub
  rw [e]
  exact ⟨rfl, rfl⟩
theorem sub_self_inf {x : Nat} (h : rg x = INF) : fsubOk x x = false := by
  unfold fsubOk Ieee.Format.sub
  rw [read_inf h]
  unfold Ieee.Datum.opposite Ieee.Datum.sum
  cases sg x <;> rfl
theorem inf_eq (x : Nat) : spec_l1Inf.f x = some (decide (rg x = INF)) := by
  unfold spec_l1Inf.f
  rw [feq_self]
  cases hn : isNan x with
  | true =>
    have : INF < rg x := of_decide_eq_true hn
    rw [decide_eq_false (show ¬ rg x = INF by omega)]; rfl
  | false =>
    have hle : ¬ INF < rg x := of_decide_eq_false hn
    simp only [Bool.not_false, if_true]
    by_cases hi : rg x = INF
    · rw [sub_self_inf hi, decide_eq_true hi]; rfl
    · have := sub_self_fin (x := x) (by omega)
      rw [this.1, this.2, decide_eq_false hi, feq_self]
      rfl
theorem spec_nan (x : Nat) : spec_l1Nan.f x = some (isNan x) := by
  unfold spec_l1Nan.f; rw [feq_self]; cases isNan x <;> rfl
theorem spec_kind {x : Nat} (hx : x < 18446744073709551616) : Ev (fun k => spec_KindOf.f k x) (kindN x) := by
  simp only [spec_KindOf.f, spec_nan, inf_eq, Option.bind_some]
  unfold kindN
  cases hn : isNan x with
  | true => exact Ev.ite_pos rfl (Ev.now _)
  | false =>
    have hle : ¬ INF < rg x := of_decide_eq_false hn
    simp only [Bool.false_eq_true, if_false, decide_eq_true_eq]
    by_cases hi : rg x = INF
    · rw [if_pos hi]; exact Ev.ite_pos hi (Ev.now _)
    · rw [if_neg hi]
      refine Ev.ite_neg hi ?_
      rw [feq_eq hn nan_zero, key_zero]
      simp only [decide_eq_true_eq, key_rg_zero]
      by_cases hz : rg x = 0
      · rw [if_pos hz]; exact Ev.ite_pos hz (Ev.now _)
      · rw [if_neg hz]
        refine Ev.ite_neg hz ?_
        obtain ⟨u, q, hu, hu1, hq, hst⟩ := st_of hx (by omega) (by omega)
        rw [hst.val]
        refine Ev.bind (parts_ev hst hu hu1 hq) ?_
        simp only
        by_cases hd : E74 ≤ q
        · rw [if_pos ((odd_dvd hu).mpr hd)]; exact Ev.ite_pos (by omega) (Ev.now _)
        · rw [if_neg (fun w => hd ((odd_dvd hu).mp w))]; exact Ev.ite_neg (by omega) (Ev.now _)
theorem math_nan' (x : Nat) : math_IsNaN.f x = some (isNan x) := by
  unfold math_IsNaN.f; rw [feq_self]; cases isNan x <;> rfl
theorem math_inf' {x : Nat} (hx : x < 18446744073709551616) (hn : isNan x = false) : math_IsInf.f x 0 = some (decide (rg x = INF)) := by
  have hle : ¬ INF < rg x := of_decide_eq_false hn
  have hr := key_rg x
  have hnr : isNan (rg x) = false := by unfold isNan; rw [hr.2]; exact decide_eq_false hle
  have hmx : isNan 9218868437227405311 = false := by decide
  have hkm : key 9218868437227405311 = 9218868437227405311 := by decide
  simp only [math_IsInf.f, math_Abs.f, andNot_sign hx, Option.bind_some, if_true]
  rw [fgt_eq hnr hmx, hkm, hr.1]
  congr 1
  rw [decide_eq_decide]
  unfold INF at *
  omega
/-- A normal number: nothing is done to it. -/
theorem norm_normal {x : Nat} (hx : x < 18446744073709551616) (hf : rg x < INF) (h : 4503599627370496 ≤ rg x) : math_normalize.f x = some (x, 0) := by
  have hr := key_rg x
  have hnr : isNan (rg x) = false := by unfold isNan; rw [hr.2]; exact decide_eq_false (by omega)
  have hn2 : isNan 4503599627370496 = false := by decide
  have hk2 : key 4503599627370496 = 4503599627370496 := by decide
  simp only [math_normalize.f, math_Abs.f, andNot_sign hx, Option.bind_some]
  rw [flt_eq hnr hn2, hk2, hr.1, if_neg (by simp; omega)]
/-- A subnormal one is put 52 places up. -/
theorem norm_sub {x u q : Nat} {s : Bool} (h : St x s u q) (hu0 : 0 < u) (hu : u < 9007199254740992) (hs : rg x < 4503599627370496) : ∃ y, math_normalize.f x = some (y, -52) ∧ St y s u (q + 52) ∧ 4503599627370496 ≤ rg y := by
  have hr := key_rg x
  have hnr : isNan (rg x) = false := by unfold isNan; rw [hr.2]; exact decide_eq_false (by have := h.fin; omega)
  have hn2 : isNan 4503599627370496 = false := by decide
  have hk2 : key 4503599627370496 = 4503599627370496 := by decide
  have h52 : (2 : Nat) ^ 52 = 4503599627370496 := by decide
  have hv : val (rg x) = rg x := by unfold MIeee.val; rw [if_pos hs]
  have e : u * 2 ^ (q + 52) = u * 2 ^ q * 2 ^ 52 := by rw [Nat.pow_add, Nat.mul_assoc]
  have hlt : u * 2 ^ (q + 52) < 2 ^ T98 := by
    rw [e, ← h.val, hv]
    have q1 : rg x * 2 ^ 52 < 2 ^ 52 * 2 ^ 52 := Nat.mul_lt_mul_of_pos_right (by omega) (Nat.two_pow_pos _)
    rw [← Nat.pow_add] at q1
    exact Nat.lt_of_lt_of_le q1 (Nat.pow_le_pow_right (by omega) (by rw [T98_eq]; omega))
  obtain ⟨r, hr0, hrI, hrv⟩ := rung_of (q := q + 52) hu0 hu hlt
  have hm := mul_up (j := 52) pow_52 h.fin h.pos hr0 hrI (by rw [hrv, h.val, e])
  have hok := (mul_pow_ok pow_52 h.nan).1
  rw [h.sg] at hm
  refine ⟨_, ?_, st_word s hr0 hrI hrv, ?_⟩
  · simp only [math_normalize.f, math_Abs.f, andNot_sign h.lt, Option.bind_some]
    rw [flt_eq hnr hn2, hk2, hr.1, if_pos (by simp; omega), if_pos hok, hm]
  · have hI := inf_small
    rw [rg_word s (by omega)]
    apply Classical.byContradiction
    intro hc
    have h1 : val r = r := by unfold MIeee.val; rw [if_pos (by omega)]
    have h2 : val r = rg x * 4503599627370496 := by rw [hrv, e, ← h.val, hv, h52]
    have h3 := h.pos
    have h4 : 1 * 4503599627370496 ≤ rg x * 4503599627370496 := Nat.mul_le_mul_right _ h3
    omega
/-- The fields of a normal number: its fraction is the odd part, shifted. -/
theorem fields {x u q : Nat} {s : Bool} (h : St x s u q) (hu : u % 2 = 1) (hn : 4503599627370496 ≤ rg x) : ∃ e f : Nat, 1 ≤ e ∧ e ≤ 2046 ∧ f < 4503599627370496 ∧ rg x = e * 4503599627370496 + f ∧ e - 1 ≤ q ∧ 4503599627370496 + f = u * 2 ^ (q - (e - 1)) := by
  have hf := h.fin
  unfold INF at hf
  have er : rg x = (rg x / 4503599627370496) * 4503599627370496 + rg x % 4503599627370496 := by omega
  have he1 : 1 ≤ rg x / 4503599627370496 := by omega
  have he2 : rg x / 4503599627370496 ≤ 2046 := by omega
  have hf2 : rg x % 4503599627370496 < 4503599627370496 := Nat.mod_lt _ (by decide)
  have hv := h.val
  rw [er, val_norm he1 hf2] at hv
  generalize rg x / 4503599627370496 = e at *
  generalize rg x % 4503599627370496 = f at *
  have hq : e - 1 ≤ q := by
    apply Classical.byContradiction
    intro hc
    obtain ⟨d, hd⟩ : ∃ d, e - 1 = q + (d + 1) := ⟨e - 1 - q - 1, by omega⟩
    rw [hd, Nat.pow_add, ← Nat.mul_assoc, Nat.mul_comm _ (2 ^ q), Nat.mul_assoc, Nat.mul_comm u] at hv
    have h2 := Nat.eq_of_mul_eq_mul_left (Nat.two_pow_pos _) hv
    rw [Nat.pow_succ, ← Nat.mul_assoc] at h2
    omega
  refine ⟨e, f, he1, he2, hf2, er, hq, ?_⟩
  obtain ⟨d, hd⟩ : ∃ d, q = (e - 1) + d := ⟨q - (e - 1), by omega⟩
  rw [hd, Nat.pow_add, ← Nat.mul_assoc, Nat.mul_comm u, Nat.mul_assoc, Nat.mul_comm] at hv
  have h2 := Nat.eq_of_mul_eq_mul_left (Nat.two_pow_pos _) hv
  rw [hd, Nat.add_sub_cancel_left]
  exact h2
theorem frexp_ev {x u q : Nat} {s : Bool} (h : St x s u q) (hu : u % 2 = 1) (hu1 : u < 9007199254740992) (hq : q < T98) :
    ∃ (f : Nat) (b : Nat) (e : Int), f < 4503599627370496 ∧ 4503599627370496 + f = u * 2 ^ b ∧ e + b = (q : Int) - 1021 ∧ -2000 ≤ e ∧ e ≤ 2000 ∧ b ≤ 53 ∧ Ev (fun k => math_Frexp.f k x) (Ieee.double.word s (1022 * 4503599627370496 + f), e) := by
  have hz : feq x 0 = false := by
    rw [feq_eq h.nan nan_zero, key_zero]
    exact decide_eq_false (fun w => by have := key_rg_zero.mp w; have := h.pos; omega)
  have hi : math_IsInf.f x 0 = some false := by
    rw [math_inf' h.lt h.nan, decide_eq_false (by have := h.fin; omega)]
  have hT := T98_eq
  -- the number made normal, and by how many places
  have key : ∃ (y : Nat) (n : Nat), math_normalize.f x = some (y, -(n : Int)) ∧ St y s u (q + n) ∧ 4503599627370496 ≤ rg y ∧ n ≤ 52 := by
    by_cases hs : rg x < 4503599627370496
    · obtain ⟨y, hy, hst, hr⟩ := norm_sub h (by omega) hu1 hs
      exact ⟨y, 52, hy, hst, hr, by omega⟩
    · exact ⟨x, 0, norm_normal h.lt h.fin (by omega), h, by omega, by omega⟩
  obtain ⟨y, n, hy, hst, hr, hn⟩ := key
  obtain ⟨e, f, he1, he2, hf, er, heq, hm⟩ := fields hst hu hr
  have hb : q + n - (e - 1) ≤ 53 := by
    apply Classical.byContradiction
    intro hc
    have h1 : (2 : Nat) ^ 54 ≤ 2 ^ (q + n - (e - 1)) := Nat.pow_le_pow_right (by omega) (by omega)
    have h2 : 2 ^ (q + n - (e - 1)) ≤ u * 2 ^ (q + n - (e - 1)) := Nat.le_mul_of_pos_left _ (by omega)
    have h3 : (2 : Nat) ^ 54 = 18014398509481984 := by decide
    omega
  have hgs := set_exp (e := 1022) hst.lt (by omega)
  rw [show ((1022 * 4503599627370496 : Nat) : Int) = 4602678819172646912 from rfl, hst.sg] at hgs
  have hmod : rg y % 4503599627370496 = f := by rw [er]; omega
  have hdiv : rg y / 4503599627370496 = e := by rw [er]; omega
  rw [hmod] at hgs
  have hge := get_exp hst.lt
  rw [hdiv] at hge
  refine ⟨f, q + n - (e - 1), -(n : Int) + ((e : Int) - 1023 + 1), hf, hm, by omega, by omega, by omega, hb, ?_⟩
  refine Ev.congr (f := fun k => math_frexp.f k x) (fun k => by simp only [math_Frexp.f]; cases math_frexp.f k x <;> rfl) ?_
  simp only [math_frexp.f, hi, math_nan', h.nan, Option.bind_some]
  refine Ev.ite_neg (by simp [hz]) (Ev.ite_neg (by simp) ?_)
  refine Ev.step (f := fun _ => some (Ieee.double.word s (1022 * 4503599627370496 + f), -(n : Int) + ((e : Int) - 1023 + 1))) (fun k => ?_) (Ev.now _)
  simp only [math_frexp.j0, hy, Option.bind_some]
  rw [if_neg (by simp), hgs, hge, wrap_id (n := (e : Int)) (by omega) (by omega), wrap_id (n := (e : Int) - 1023) (by omega) (by omega), wrap_id (n := (e : Int) - 1023 + 1) (by omega) (by omega), wrap_id (by omega) (by omega)]
/-- What ldexp makes of a normal number. -/
def ldN (s : Bool) (e f : Nat) (n : Int) : Nat :=
  if n + ((e : Int) - 1023) < -1075 then Ieee.double.word s 0
  else if n + ((e : Int) - 1023) > 1023 then Ieee.double.word s INF
  else if n + ((e : Int) - 1023) < -1022 then fmul 4368491638549381120 (Ieee.double.word s ((n + (e : Int) + 53).toNat * 4503599627370496 + f))
  else Ieee.double.word s ((n + (e : Int)).toNat * 4503599627370496 + f)
theorem copy_zero {x : Nat} (hx : x < 18446744073709551616) : math_Copysign.f 0 x = some (Ieee.double.word (sg x) 0) := by
  have h63 : (2 : Nat) ^ 63 = 9223372036854775808 := by decide
  unfold math_Copysign.f
  congr 1
  have e1 := bits_andNot 0 9223372036854775808 (by omega) (by omega)
  have e2 := bits_and x 9223372036854775808 hx (by omega)
  rw [show ((0 : Nat) : Int) = 0 from rfl, show ((9223372036854775808 : Nat) : Int) = 9223372036854775808 from rfl, Nat.zero_and] at e1
  rw [show ((9223372036854775808 : Nat) : Int) = 9223372036854775808 from rfl] at e2
  have e3 : x &&& 9223372036854775808 = 2 ^ 63 * (if sg x = true then 1 else 0) := by
    apply Nat.eq_of_testBit_eq
    intro j
    have hx3 := word3 hx
    have hr := rg_lt x
    have hsb : (if sg x = true then 1 else 0) < 2 := by split <;> omega
    rw [Nat.testBit_and, show (9223372036854775808 : Nat) = 2 ^ 63 * 1 + (2 ^ 52 * 0 + 0) from by decide, tb3 _ _ _ _ (by omega) (by omega)]
    have e5 : (2 : Nat) ^ 63 * (if sg x = true then 1 else 0) = 2 ^ 63 * (if sg x = true then 1 else 0) + (2 ^ 52 * 0 + 0) := by simp
    rw [e5, tb3 _ _ _ _ (by omega) (by omega)]
    conv => lhs; lhs; rw [hx3]
    rw [tb3 _ _ _ _ (by omega) (by omega)]
    by_cases h : j < 63
    · rw [if_pos h, if_pos h, if_pos h]; split <;> simp
    · rw [if_neg h, if_neg h, if_neg h]
      generalize (if sg x = true then 1 else 0) = a at hsb
      rcases (show a = 0 ∨ a = 1 by omega) with rfl | rfl <;> simp
  rw [e2, e3]
  have e4 := bits_or 0 (2 ^ 63 * (if sg x = true then 1 else 0)) (by omega) (by rw [h63]; split <;> omega)
  rw [show ((0 : Nat) : Int) = 0 from rfl, Nat.zero_or] at e4
  rw [show ((0 : Nat) : Int) = 0 from rfl, e1, show ((0 : Nat) : Int) = 0 from rfl, e4, Int.toNat_natCast]
  unfold Ieee.Format.word
  rw [double_sign, h63]
  cases sg x <;> rfl
theorem ldexp_norm {x e f : Nat} {s : Bool} (hx : x = Ieee.double.word s (e * 4503599627370496 + f)) (he1 : 1 ≤ e) (he2 : e ≤ 2046) (hf : f < 4503599627370496) (n : Int) (hn : -3000 ≤ n ∧ n ≤ 3000) : math_Ldexp.f x n = some (ldN s e f n) := by
  have hI : INF = 9218868437227405312 := rfl
  have hr : rg x = e * 4503599627370496 + f := by rw [hx, rg_word s (by omega)]
  have hs : sg x = s := by rw [hx, sg_word s (by omega)]
  have hlt : x < 18446744073709551616 := by rw [hx]; exact word_lt s (by omega)
  have hfin : rg x < INF := by rw [hr, hI]; omega
  have hnan := fin_nan hfin
  have hz : feq x 0 = false := by
    rw [feq_eq hnan nan_zero, key_zero]
    exact decide_eq_false (fun w => by have := key_rg_zero.mp w; omega)
  have hi : math_IsInf.f x 0 = some false := by
    rw [math_inf' hlt hnan, decide_eq_false (by omega)]
  have hno := norm_normal hlt hfin (by omega)
  have hw : wrap64 ((x : Int) / 4503599627370496) = (x : Int) / 4503599627370496 := wrap_id (by omega) (by omega)
  have hge := get_exp_i64 hlt
  have hdiv : rg x / 4503599627370496 = e := by rw [hr]; omega
  have hmod : rg x % 4503599627370496 = f := by rw [hr]; omega
  rw [hdiv] at hge
  have hE : wrap64 (wrap64 (n + 0) + wrap64 ((e : Int) - 1023)) = n + ((e : Int) - 1023) := by
    rw [wrap_id (n := n + 0) (by omega) (by omega), wrap_id (n := (e : Int) - 1023) (by omega) (by omega), wrap_id (by omega) (by omega)]
    omega
  have hneg : flt x 0 = s := by
    rw [flt_eq hnan nan_zero, key_zero]
    unfold key
    rw [hs]
    cases s <;> simp <;> omega
  simp only [math_Ldexp.f, math_ldexp.f, hi, math_nan', hnan, hno, Option.bind_some, hw, hge, hE]
  rw [if_neg (by simp [hz]), if_neg (by simp), if_neg (by simp), copy_zero hlt, hs, hneg]
  unfold ldN
  by_cases c1 : n + ((e : Int) - 1023) < -1075
  · rw [if_pos c1, if_pos c1]; rfl
  · rw [if_neg c1, if_neg c1]
    by_cases c2 : n + ((e : Int) - 1023) > 1023
    · rw [if_pos c2, if_pos c2]
      cases s
      · rfl
      · rfl
    · rw [if_neg c2, if_neg c2]
      by_cases c3 : n + ((e : Int) - 1023) < -1022
      · rw [if_pos c3, if_pos c3]
        obtain ⟨g, hg⟩ : ∃ g : Nat, n + (e : Int) + 53 = (g : Int) := ⟨(n + (e : Int) + 53).toNat, by omega⟩
        have hwr : wrap64 (wrap64 (n + ((e : Int) - 1023) + 53) + 1023) = (g : Int) := by
          rw [wrap_id (n := n + ((e : Int) - 1023) + 53) (by omega) (by omega), wrap_id (by omega) (by omega)]; omega
        have hu : IntKind.u64.wrap (IntKind.u64.wrap (g : Int) * 4503599627370496) = ((g * 4503599627370496 : Nat) : Int) := by
          simp [IntKind.wrap, IntKind.bits, IntKind.signed]; omega
        rw [hwr, hu, set_exp hlt (by omega), hs, hmod, hg, Int.toNat_natCast]
        have hok := (mul_pow_ok' pow_m53 (x := Ieee.double.word s (g * 4503599627370496 + f)) (nan_word s (by rw [hI]; omega))).1
        rw [if_pos hok]
        rfl
      · rw [if_neg c3, if_neg c3]
        obtain ⟨g, hg⟩ : ∃ g : Nat, n + (e : Int) = (g : Int) := ⟨(n + (e : Int)).toNat, by omega⟩
        have hwr : wrap64 (n + ((e : Int) - 1023) + 1023) = (g : Int) := by
          rw [wrap_id (by omega) (by omega)]; omega
        have hu : IntKind.u64.wrap (IntKind.u64.wrap (g : Int) * 4503599627370496) = ((g * 4503599627370496 : Nat) : Int) := by
          simp [IntKind.wrap, IntKind.bits, IntKind.signed]; omega
        rw [hwr, hu, set_exp hlt (by omega), hs, hmod, hg, Int.toNat_natCast]
        have hrg : rg (Ieee.double.word s (g * 4503599627370496 + f)) = g * 4503599627370496 + f := rg_word s (by omega)
        have hsg : sg (Ieee.double.word s (g * 4503599627370496 + f)) = s := sg_word s (by omega)
        have hok := (mul_pow_ok' pow_zero_one (x := Ieee.double.word s (g * 4503599627370496 + f)) (nan_word s (by rw [hI]; omega))).1
        have hmu := mul_up' (j := 0) pow_zero_one (x := Ieee.double.word s (g * 4503599627370496 + f)) (by rw [hrg, hI]; omega) (by rw [hrg]; omega) (r := g * 4503599627370496 + f) (by omega) (by rw [hI]; omega) (by rw [hrg]; simp)
        rw [if_pos hok, hmu, hsg]
        rfl
theorem impl_l0_ev (s : Bool) (u : Nat) (hu : u % 2 = 1) : ∀ (b : Nat) (e : Int), u * 2 ^ b < 2 ^ 62 → -10000 ≤ e → e + b ≤ 10000 → Ev (fun k => impl_PartsOf.l0 k e (sgn s (u * 2 ^ b))) (sgn s u, e + b, true)
  | 0, e, hb, h1, h2 => by
    refine Ev.step (f := fun _ => some (sgn s u, e + (0 : Nat), true)) (fun k => ?_) (Ev.now _)
    simp only [impl_PartsOf.l0]
    rw [Nat.pow_zero, Nat.mul_one, if_neg (by rw [sgn_tmod]; omega)]
    simp
  | b + 1, e, hb, h1, h2 => by
    have e1 : u * 2 ^ (b + 1) = 2 * (u * 2 ^ b) := by rw [Nat.pow_succ]; simp only [Nat.mul_comm, Nat.mul_left_comm]
    have h62 : (2 : Nat) ^ 62 = 4611686018427387904 := by decide
    have ih := impl_l0_ev s u hu b (e + 1) (by omega) (by omega) (by omega)
    rw [show e + 1 + (b : Int) = e + ((b + 1 : Nat) : Int) from by omega] at ih
    refine Ev.step (fun k => ?_) ih
    simp only [impl_PartsOf.l0]
    rw [e1, if_pos (by rw [sgn_tmod]; omega), sgn_tdiv, wrap_id (n := e + 1) (by omega) (by omega), wrap_id]
    · unfold sgn; split <;> omega
    · unfold sgn; split <;> omega
/-- The parts of a number that is finite and not nought. -/
theorem impl_parts_ev {x u q : Nat} {s : Bool} (h : St x s u q) (hu : u % 2 = 1) (hu1 : u < 9007199254740992) (hq : q < T98) : Ev (fun k => impl_PartsOf.f k x) (sgn s u, (q : Int) - E74, true) := by
  have hT := T98_eq
  have hE := E74_eq
  obtain ⟨f, b, e, hf, hm, heb, he1, he2, hb, hfr⟩ := frexp_ev h hu hu1 hq
  have hk : ∃ v, impl_KindOf.f x = some v ∧ (v = 3 ∨ v = 4) := by
    refine ⟨_, impl_kind h.lt, ?_⟩
    unfold kindN
    rw [h.nan, if_neg (by simp), if_neg (by have := h.fin; omega), if_neg (by have := h.pos; omega)]
    split <;> simp
  obtain ⟨v, hv, hv34⟩ := hk
  have hld : math_Ldexp.f (Ieee.double.word s (1022 * 4503599627370496 + f)) 53 = some (Ieee.double.word s (1075 * 4503599627370496 + f)) := by
    rw [ldexp_norm (e := 1022) rfl (by omega) (by omega) hf 53 (by omega)]
    unfold ldN
    rw [if_neg (by decide), if_neg (by decide), if_neg (by decide)]
    rfl
  have hI : INF = 9218868437227405312 := rfl
  have hrg : rg (Ieee.double.word s (1075 * 4503599627370496 + f)) = 1075 * 4503599627370496 + f := rg_word s (by omega)
  have hsg : sg (Ieee.double.word s (1075 * 4503599627370496 + f)) = s := sg_word s (by omega)
  have hfin : rg (Ieee.double.word s (1075 * 4503599627370496 + f)) < INF := by rw [hrg, hI]; omega
  have hwh : whole (Ieee.double.word s (1075 * 4503599627370496 + f)) = u * 2 ^ b := by
    unfold whole
    rw [hrg, val_norm (by omega) hf, show (1075 - 1 : Nat) = E74 from rfl, Nat.mul_div_cancel _ (Nat.two_pow_pos _), hm]
  have hfi := fint_eq hfin (by rw [hwh, ← hm]; omega)
  have hsw : swhole (Ieee.double.word s (1075 * 4503599627370496 + f)) = sgn s (u * 2 ^ b) := by
    unfold swhole sgn; rw [hsg, hwh]
  have hL := impl_l0_ev s u hu b (e - 53) (by rw [← hm, show (2 : Nat) ^ 62 = 4611686018427387904 from by decide]; omega) (by omega) (by omega)
  rw [show e - 53 + (b : Int) = (q : Int) - (E74 : Int) from by omega] at hL
  have hj : Ev (fun k => impl_PartsOf.j0 k x false) (sgn s u, (q : Int) - E74, true) := by
    refine Ev.step (f := fun k => (math_Frexp.f k x).bind fun w => (math_Ldexp.f w.1 53).bind fun y => if fintOk y = true then impl_PartsOf.l0 k (wrap64 (w.2 - 53)) (fint y) else none) (fun k => by simp only [impl_PartsOf.j0]; rw [if_neg (by simp)]) ?_
    refine Ev.bind hfr (Ev.bind (Ev.const hld) (Ev.ite_pos hfi.1 ?_))
    rw [wrap_id (n := e - 53) (by omega) (by omega), hfi.2, hsw]
    exact hL
  refine Ev.congr (fun k => by simp only [impl_PartsOf.f]; rw [hv, Option.bind_some]) ?_
  rcases hv34 with rfl | rfl
  · exact Ev.ite_pos rfl hj
  · exact Ev.ite_neg (by decide) hj
def minus (x : Nat) : Bool := decide (key x < 0) || decide (x = 9223372036854775808)
theorem spec_minus {x : Nat} (hx : x < 18446744073709551616) : spec_IsMinus.f x = some (if isNan x = true then false else minus x) := by
  unfold spec_IsMinus.f
  cases hn : isNan x with
  | true => rw [flt_nan (.inl hn), feq_nan (.inl hn)]; rfl
  | false =>
    rw [flt_eq hn nan_zero, feq_eq hn nan_zero, key_zero]
    unfold minus
    by_cases h : key x < 0
    · simp [h]
    · by_cases h2 : key x = 0
      · rcases zero_cases hx (key_rg_zero.mp h2) with rfl | rfl
        · rw [if_neg (by simp [h]), if_pos (by simp [h2]), if_pos inv_pz.1, inv_pz.2.1]; rfl
        · rw [if_neg (by simp [h]), if_pos (by simp [h2]), if_pos inv_nz.1, inv_nz.2.1]; rfl
      · have : x ≠ 9223372036854775808 := by rintro rfl; exact h2 (by decide)
        simp [h, h2, this]
theorem wrap_neg {x : Nat} (hx : x < 18446744073709551616) : decide (wrap64 ((x : Nat) : Int) < 0) = decide (9223372036854775808 ≤ x) := by
  unfold wrap64
  rw [decide_eq_decide]
  omega
theorem impl_minus {x : Nat} (hx : x < 18446744073709551616) : impl_IsMinus.f x = some (if isNan x = true then false else minus x) := by
  unfold impl_IsMinus.f math_Signbit.f
  rw [wrap_neg hx]
  cases hn : isNan x with
  | true => rw [flt_nan (.inl hn), feq_nan (.inl hn)]; rfl
  | false =>
    rw [flt_eq hn nan_zero, feq_eq hn nan_zero, key_zero]
    unfold minus
    by_cases h : key x < 0
    · simp [h]
    · by_cases h2 : key x = 0
      · rcases zero_cases hx (key_rg_zero.mp h2) with rfl | rfl
        · rw [if_neg (by simp [h]), if_pos (by simp [h2])]; rfl
        · rw [if_neg (by simp [h]), if_pos (by simp [h2])]; rfl
      · have : x ≠ 9223372036854775808 := by rintro rfl; exact h2 (by decide)
        simp [h, h2, this]
/-! ### Texts -/
/-- A text out of its bytes. -/
def bs (l : List UInt8) : ByteArray := ⟨l.toArray⟩
theorem bs_size (l : List UInt8) : (bs l).size = l.length := by simp [bs, ByteArray.size]
theorem cat_bs (a b : List UInt8) : cat (bs a) (bs b) = bs (a ++ b) := by
  apply ByteArray.ext
  show (bs a ++ bs b).data = _
  rw [ByteArray.data_append]
  simp [bs]
theorem catOk_bs {a b : List UInt8} (h : a.length + b.length ≤ 9223372036854775807) : catOk (bs a) (bs b) = true := catOk_of (by rw [bs_size, bs_size]; exact h)
theorem one_num (d : Nat) (h : d < 10) : strOfNums ([(wrap64 (48 + (d : Int))) % 256] : List Int) = bs [UInt8.ofNat (48 + d)] := by
  have e : (wrap64 (48 + (d : Int))) % 256 = ((48 + d : Nat) : Int) := by rw [wrap_id (by omega) (by omega)]; omega
  rw [e]
  rfl
theorem dec_len (n : Nat) (h : (n : Int) ≤ 9223372036854775807) : (Lib.decDigits n).length ≤ 21 := by
  have := Lib.itoa_length_le (n : Int) (by omega) h
  rwa [Lib.itoa_nonneg] at this
theorem num_text : ∀ (n : Nat), (n : Int) ≤ 9223372036854775807 → Ev (fun k => spec_l1Num.f k (n : Int)) (bs (Lib.decDigits n)) := by
  intro n
  induction n using Nat.strongRecOn with
  | ind n ih =>
    intro hn
    by_cases h : n < 10
    · rw [Lib.decDigits_one h]
      refine Ev.step (f := fun _ => some (bs [UInt8.ofNat (48 + n)])) (fun k => ?_) (Ev.now _)
      simp only [spec_l1Num.f]
      rw [if_pos (by omega), one_num n h]
    · have hd : Lib.decDigits n = Lib.decDigits (n / 10) ++ [UInt8.ofNat (48 + n % 10)] := by rw [Lib.decDigits, dif_neg h]
      have hl := dec_len (n / 10) (by omega)
      refine Ev.step (f := fun k => (spec_l1Num.f k ((n / 10 : Nat) : Int)).bind fun t => (if catOk t (strOfNums ([(wrap64 (48 + ((n % 10 : Nat) : Int))) % 256] : List Int)) = true then (some (cat t (strOfNums ([(wrap64 (48 + ((n % 10 : Nat) : Int))) % 256] : List Int)))) else none)) (fun k => ?_) (Ev.bind (ih (n / 10) (by omega) (by omega)) ?_)
      · simp only [spec_l1Num.f]
        rw [if_neg (by omega)]
        have e1 : wrap64 (Int.tdiv (n : Int) 10) = ((n / 10 : Nat) : Int) := by
          have : Int.tdiv (n : Int) 10 = ((n / 10 : Nat) : Int) := rfl
          rw [this, wrap_id] <;> omega
        have e2 : Int.tmod (n : Int) 10 = ((n % 10 : Nat) : Int) := rfl
        rw [e1, e2]
        rfl
      · rw [one_num (n % 10) (by omega), hd]
        refine Ev.ite_pos (catOk_bs (by simp; omega)) ?_
        rw [cat_bs]
        exact Ev.now _
theorem num_text' (n : Int) (h0 : 0 ≤ n) (h1 : n ≤ 9223372036854775807) : Ev (fun k => spec_l1Num.f k n) (bs (Lib.itoa n)) := by
  obtain ⟨m, rfl⟩ : ∃ m : Nat, n = m := ⟨n.toNat, by omega⟩
  rw [Lib.itoa_nonneg]
  exact num_text m h1
theorem itoa_now (n : Int) (h0 : -9223372036854775808 ≤ n) (h1 : n ≤ 9223372036854775807) : strconv_Itoa.f n = some (bs (Lib.itoa n)) := by
  unfold strconv_Itoa.f
  rw [if_pos h0, if_pos h1]
  rfl
theorem sign_text (n : Int) (h0 : -9007199254740992 ≤ n) (h1 : n ≤ 9007199254740992) : Ev (fun k => spec_l1Sign.f k n) (bs (Lib.itoa n)) := by
  simp only [spec_l1Sign.f]
  by_cases h : n < 0
  · rw [wrap_id (n := -n) (by omega) (by omega)]
    have e45 : (⟨#[45]⟩ : ByteArray) = bs [45] := rfl
    have hl := Lib.itoa_length_le (-n) (by omega) (by omega)
    have ei : Lib.itoa n = [45] ++ Lib.itoa (-n) := by
      unfold Lib.itoa
      rw [if_pos h, if_neg (by omega)]
      have : (-n).toNat = n.natAbs := by omega
      rw [this]
      rfl
    refine Ev.ite_pos h (Ev.bind (num_text' (-n) (by omega) (by omega)) ?_)
    rw [e45, ei]
    refine Ev.ite_pos (catOk_bs (by simp only [List.length_cons, List.length_nil]; omega)) ?_
    rw [cat_bs]
    exact Ev.now _
  · exact Ev.ite_neg h (Ev.bind (num_text' n (by omega) (by omega)) (Ev.now _))
theorem impl_parts_some {x u q : Nat} (hx : x < 18446744073709551616) (hu : u % 2 = 1) (hu1 : u < 9007199254740992) (hq : q < T98) (hst : St x (sg x) u q) : Ev (fun k => impl_PartsOf.f k x) (sgn (sg x) u, (q : Int) - E74, true) := impl_parts_ev hst hu hu1 hq
theorem j0_ev {x : Nat} {kd : Int} (b : Bool) {r : ByteArray} (h : Ev (fun k => spec_NumText.j1 k x kd (bs (if b = true then [45] else []))) r) : Ev (fun k => spec_NumText.j0 k x kd (⟨#[]⟩ : ByteArray) b) r := by
  cases b with
  | true => refine Ev.step (fun k => ?_) h; simp only [spec_NumText.j0]; rw [if_pos trivial]; rfl
  | false => refine Ev.step (fun k => ?_) h; simp only [spec_NumText.j0]; rw [if_neg (by simp)]; rfl
theorem E74_le : (E74 : Int) ≤ 2000 ∧ (T98 : Int) ≤ 3000 := by decide
/-- A number's text is one and the same. -/
theorem numtext_same {x : Nat} (hx : x < 18446744073709551616) : ∃ r : List UInt8, r.length ≤ 50 ∧ Ev (fun k => spec_NumText.f k x) (bs r) ∧ Ev (fun k => impl_NumText.f k x) (bs r) := by
  have hsk := spec_kind hx
  have hik := impl_kind hx
  have hsm := spec_minus hx
  have him := impl_minus hx
  by_cases hn : isNan x = true
  · have e : kindN x = 0 := by unfold kindN; rw [if_pos hn]
    rw [e] at hsk hik
    simp only [spec_NumText.f, impl_NumText.f, hik, hsm, him, Option.bind_some]
    refine ⟨[110, 97, 110], by decide, Ev.bind hsk (Ev.ite_pos rfl (j0_ev false ?_)), Ev.ite_pos trivial (Ev.now _)⟩
    refine Ev.step (f := fun _ => some (bs [110, 97, 110])) (fun k => ?_) (Ev.now _)
    simp only [spec_NumText.j1]; rw [if_pos trivial]; rfl
  · have hn' : isNan x = false := by simpa using hn
    by_cases hi : rg x = INF
    · have e : kindN x = 1 := by unfold kindN; rw [if_neg hn, if_pos hi]
      have em : minus x = flt x 0 := by
        rw [flt_eq hn' nan_zero, key_zero]
        have : x ≠ 9223372036854775808 := by rintro rfl; exact absurd hi (by decide)
        simp [minus, this]
      rw [e] at hsk hik
      rw [if_neg hn, em] at hsm him
      simp only [spec_NumText.f, impl_NumText.f, hik, hsm, him, Option.bind_some]
      refine ⟨(if flt x 0 = true then [45] else []) ++ [105, 110, 102], by split <;> decide, Ev.bind hsk (Ev.ite_neg (by omega) (Ev.ite_pos (by omega) (j0_ev _ ?_))), Ev.ite_neg (by omega) (Ev.ite_pos trivial ?_)⟩
      · refine Ev.step (f := fun _ => some (bs ((if flt x 0 = true then [45] else []) ++ [105, 110, 102]))) (fun k => ?_) (Ev.now _)
        have e1 : (⟨#[105, 110, 102]⟩ : ByteArray) = bs [105, 110, 102] := rfl
        simp only [spec_NumText.j1]
        rw [if_neg (by omega), if_pos trivial, e1, if_pos (catOk_bs (by split <;> decide)), cat_bs]
      · cases flt x 0 with
        | true => exact Ev.ite_pos rfl (Ev.now _)
        | false => exact Ev.ite_neg (by simp) (Ev.now _)
    · by_cases hz : rg x = 0
      · have e : kindN x = 2 := by unfold kindN; rw [if_neg hn, if_neg hi, if_pos hz]
        rw [e] at hsk hik
        rw [if_neg hn] at hsm him
        simp only [spec_NumText.f, impl_NumText.f, hik, hsm, him, Option.bind_some]
        refine ⟨(if minus x = true then [45] else []) ++ [48], by split <;> decide, Ev.bind hsk (Ev.ite_neg (by omega) (Ev.ite_pos (by omega) (j0_ev _ ?_))), Ev.ite_neg (by omega) (Ev.ite_neg (by omega) (Ev.ite_pos trivial ?_))⟩
        · refine Ev.step (f := fun _ => some (bs ((if minus x = true then [45] else []) ++ [48]))) (fun k => ?_) (Ev.now _)
          have e1 : (⟨#[48]⟩ : ByteArray) = bs [48] := rfl
          simp only [spec_NumText.j1]
          rw [if_neg (by omega), if_neg (by omega), if_pos trivial, e1, if_pos (catOk_bs (by split <;> decide)), cat_bs]
        · cases minus x with
          | true => exact Ev.ite_pos rfl (Ev.now _)
          | false => exact Ev.ite_neg (by simp) (Ev.now _)
      · have hlt : rg x < INF := by
          have : ¬ INF < rg x := of_decide_eq_false hn'
          omega
        obtain ⟨u, q, hu, hu1, hq, hst⟩ := st_of hx hlt (by omega)
        have e : kindN x = 3 ∨ kindN x = 4 := by
          unfold kindN
          rw [if_neg hn, if_neg hi, if_neg hz]
          split
          · exact .inl rfl
          · exact .inr rfl
        simp only [spec_NumText.f, impl_NumText.f, hik, hsm, him, Option.bind_some]
        have hE := E74_le
        have hq' : (q : Int) < T98 := by omega
        have hs1 : -9007199254740992 ≤ sgn (sg x) u ∧ sgn (sg x) u ≤ 9007199254740992 := by
          unfold sgn
          split <;> omega
        have hx1 : -9007199254740992 ≤ (q : Int) - E74 ∧ (q : Int) - E74 ≤ 9007199254740992 := by omega
        have e112 : (⟨#[112]⟩ : ByteArray) = bs [112] := rfl
        have hl1 := Lib.itoa_length_le (sgn (sg x) u) (by omega) (by omega)
        have hl2 := Lib.itoa_length_le ((q : Int) - E74) (by omega) (by omega)
        refine ⟨Lib.itoa (sgn (sg x) u) ++ [112] ++ Lib.itoa ((q : Int) - E74), by simp only [List.length_append, List.length_cons, List.length_nil]; omega, Ev.bind hsk (Ev.ite_neg (by omega) (Ev.ite_neg (by omega) (j0_ev false ?_))), Ev.ite_neg (by omega) (Ev.ite_neg (by omega) (Ev.ite_neg (by omega) (Ev.bind (impl_parts_some hx hu hu1 hq hst) ?_)))⟩
        · refine Ev.step (f := fun k => (spec_l1Parts.f k x).bind fun bt124 => ((spec_l1Sign.f k bt124.1).bind fun t126 => (if catOk t126 (⟨#[112]⟩ : ByteArray) = true then ((spec_l1Sign.f k bt124.2).bind fun t127 => (if catOk (cat t126 (⟨#[112]⟩ : ByteArray)) t127 = true then (some (cat (cat t126 (⟨#[112]⟩ : ByteArray)) t127)) else (none))) else (none)))) (fun k => ?_) (Ev.bind (parts_ev hst hu hu1 hq) (Ev.bind (sign_text _ hs1.1 hs1.2) ?_))
          · simp only [spec_NumText.j1]
            rw [if_neg (by omega), if_neg (by omega), if_neg (by omega)]
          · rw [e112]
            refine Ev.ite_pos (catOk_bs (by simp only [List.length_cons, List.length_nil]; omega)) (Ev.bind (sign_text _ hx1.1 hx1.2) ?_)
            rw [cat_bs]
            refine Ev.ite_pos (catOk_bs (by simp only [List.length_append, List.length_cons, List.length_nil]; omega)) ?_
            rw [cat_bs]
            exact Ev.now _
        · rw [e112]
          refine Ev.congr (fun k => by rw [itoa_now (sgn (sg x) u) (by omega) (by omega), Option.bind_some]) (Ev.ite_pos (catOk_bs (by simp only [List.length_cons, List.length_nil]; omega)) ?_)
          refine Ev.congr (fun k => by rw [itoa_now ((q : Int) - E74) (by omega) (by omega), Option.bind_some, cat_bs]) (Ev.ite_pos (catOk_bs (by simp only [List.length_append, List.length_cons, List.length_nil]; omega)) ?_)
          rw [cat_bs]
          exact Ev.now _
theorem up_any : ∀ (n x : Nat), n ≤ 2000 → isNan x = false → x < 18446744073709551616 → ∃ y, Ev (fun k => spec_l1Scaled.l0 k x (n : Int)) y ∧ isNan y = false ∧ y < 18446744073709551616
  | 0, x, hn, h1, h2 => by
    refine ⟨x, Ev.step (f := fun k => spec_l1Scaled.l1 k x ((0 : Nat) : Int)) (fun k => ?_) (Ev.step (f := fun _ => some x) (fun k => ?_) (Ev.now _)), h1, h2⟩
    · simp only [spec_l1Scaled.l0]; rw [if_neg (by omega)]
    · simp only [spec_l1Scaled.l1]; rw [if_neg (by omega)]
  | n + 1, x, hn, h1, h2 => by
    have hm := mul_pow_ok pow_two h1
    obtain ⟨y, hy, g1, g2⟩ := up_any n _ (by omega) hm.2.1 hm.2.2
    refine ⟨y, Ev.step (fun k => ?_) hy, g1, g2⟩
    simp only [spec_l1Scaled.l0]
    rw [if_pos (by omega), if_pos hm.1, show wrap64 (((n + 1 : Nat) : Int) - 1) = (n : Int) from by rw [wrap_id] <;> omega]
theorem down_any : ∀ (n x : Nat), n ≤ 2000 → isNan x = false → x < 18446744073709551616 → ∃ y, Ev (fun k => spec_l1Scaled.l1 k x (-(n : Int))) y ∧ isNan y = false ∧ y < 18446744073709551616
  | 0, x, hn, h1, h2 => by
    refine ⟨x, Ev.step (f := fun _ => some x) (fun k => ?_) (Ev.now _), h1, h2⟩
    simp only [spec_l1Scaled.l1]; rw [if_neg (by omega)]
  | n + 1, x, hn, h1, h2 => by
    have hm := half_ok h1
    obtain ⟨y, hy, g1, g2⟩ := down_any n _ (by omega) hm.2.1 hm.2.2
    refine ⟨y, Ev.step (fun k => ?_) hy, g1, g2⟩
    simp only [spec_l1Scaled.l1]
    rw [if_pos (by omega), if_pos hm.1, show wrap64 (-((n + 1 : Nat) : Int) + 1) = -(n : Int) from by rw [wrap_id] <;> omega]
theorem scaled_any (x : Nat) (n : Int) (hn : -2000 ≤ n ∧ n ≤ 2000) (h1 : isNan x = false) (h2 : x < 18446744073709551616) : ∃ y, Ev (fun k => spec_l1Scaled.f k x n) y ∧ isNan y = false ∧ y < 18446744073709551616 := by
  by_cases h : 0 ≤ n
  · obtain ⟨m, rfl⟩ : ∃ m : Nat, n = (m : Int) := ⟨n.toNat, by omega⟩
    exact up_any m x (by omega) h1 h2
  · obtain ⟨m, rfl⟩ : ∃ m : Nat, n = -(m : Int) := ⟨(-n).toNat, by omega⟩
    obtain ⟨y, hy, g⟩ := down_any m x (by omega) h1 h2
    refine ⟨y, Ev.step (fun k => ?_) hy, g⟩
    simp only [spec_l1Scaled.f, spec_l1Scaled.l0]; rw [if_neg (by omega)]
theorem up_st (s : Bool) (u : Nat) (hu0 : 0 < u) (hu : u < 9007199254740992) : ∀ (n t x : Nat), n ≤ 2000 → St x s u t → u * 2 ^ (t + n) < 2 ^ T98 → ∃ y, Ev (fun k => spec_l1Scaled.l0 k x (n : Int)) y ∧ St y s u (t + n)
  | 0, t, x, hn, h, ht => by
    refine ⟨x, Ev.step (f := fun k => spec_l1Scaled.l1 k x ((0 : Nat) : Int)) (fun k => ?_) (Ev.step (f := fun _ => some x) (fun k => ?_) (Ev.now _)), h⟩
    · simp only [spec_l1Scaled.l0]; rw [if_neg (by omega)]
    · simp only [spec_l1Scaled.l1]; rw [if_neg (by omega)]
  | n + 1, t, x, hn, h, ht => by
    have hle : u * 2 ^ (t + 1) ≤ u * 2 ^ (t + (n + 1)) := Nat.mul_le_mul_left _ (Nat.pow_le_pow_right (by omega) (by omega))
    have hm := h.double hu0 hu (Nat.lt_of_le_of_lt hle ht)
    obtain ⟨y, hy, g⟩ := up_st s u hu0 hu n (t + 1) _ (by omega) hm.2 (by rw [show t + 1 + n = t + (n + 1) from by omega]; exact ht)
    rw [show t + 1 + n = t + (n + 1) from by omega] at g
    refine ⟨y, Ev.step (fun k => ?_) hy, g⟩
    simp only [spec_l1Scaled.l0]
    rw [if_pos (by omega), if_pos hm.1, show wrap64 (((n + 1 : Nat) : Int) - 1) = (n : Int) from by rw [wrap_id] <;> omega]
theorem down_st (s : Bool) (u : Nat) (hu0 : 0 < u) (hu : u < 9007199254740992) : ∀ (n t x : Nat), n ≤ 2000 → St x s u (t + n) → ∃ y, Ev (fun k => spec_l1Scaled.l1 k x (-(n : Int))) y ∧ St y s u t
  | 0, t, x, hn, h => by
    refine ⟨x, Ev.step (f := fun _ => some x) (fun k => ?_) (Ev.now _), h⟩
    simp only [spec_l1Scaled.l1]; rw [if_neg (by omega)]
  | n + 1, t, x, hn, h => by
    have hm := St.half (t := t + n) h hu0 hu
    obtain ⟨y, hy, g⟩ := down_st s u hu0 hu n t _ (by omega) hm.2
    refine ⟨y, Ev.step (fun k => ?_) hy, g⟩
    simp only [spec_l1Scaled.l1]
    rw [if_pos (by omega), if_pos hm.1, show wrap64 (-((n + 1 : Nat) : Int) + 1) = -(n : Int) from by rw [wrap_id] <;> omega]
theorem scaled_st {x s u t} (hu0 : 0 < u) (hu : u < 9007199254740992) (h : St x s u t) (n : Int) (hn : -2000 ≤ n ∧ n ≤ 2000) (q : Nat) (hq : (q : Int) = t + n) (ht : u * 2 ^ q < 2 ^ T98) : ∃ y, Ev (fun k => spec_l1Scaled.f k x n) y ∧ St y s u q := by
  by_cases hc : 0 ≤ n
  · obtain ⟨m, rfl⟩ : ∃ m : Nat, n = (m : Int) := ⟨n.toNat, by omega⟩
    have e : q = t + m := by omega
    subst e
    exact up_st s u hu0 hu m t x (by omega) h ht
  · obtain ⟨m, rfl⟩ : ∃ m : Nat, n = -(m : Int) := ⟨(-n).toNat, by omega⟩
    have e : t = q + m := by omega
    subst e
    obtain ⟨y, hy, g⟩ := down_st s u hu0 hu m q x (by omega) h
    refine ⟨y, Ev.step (fun k => ?_) hy, g⟩
    simp only [spec_l1Scaled.f, spec_l1Scaled.l0]; rw [if_neg (by omega)]
theorem sgn_inj {s s' : Bool} {u u' : Nat} (hu : u % 2 = 1) (hu' : u' % 2 = 1) (h : sgn s u = sgn s' u') : s = s' ∧ u = u' := by
  unfold sgn at h
  cases s <;> cases s' <;> simp at h ⊢ <;> omega
theorem St.unique {x y u q : Nat} {s : Bool} (h : St x s u q) (g : St y s u q) : x = y := by
  have hr : rg x = rg y := val_inj.mp (h.val.trans g.val.symm)
  have ex := split_word h.lt
  have ey := split_word g.lt
  rw [h.sg] at ex
  rw [g.sg] at ey
  omega
theorem st_cases {x : Nat} (h : isNan x = false) (hx : x < 18446744073709551616) : rg x = INF ∨ rg x = 0 ∨ ∃ u q, u % 2 = 1 ∧ u < 9007199254740992 ∧ q < T98 ∧ St x (sg x) u q := by
  have hle : ¬ INF < rg x := of_decide_eq_false h
  by_cases hi : rg x = INF
  · exact .inl hi
  · by_cases hz : rg x = 0
    · exact .inr (.inl hz)
    · exact .inr (.inr (st_of hx (by omega) (by omega)))
/-- Whether an odd number times a power of two is a double. -/
def Rep (u : Nat) (n : Int) : Prop := ∃ q : Nat, (q : Int) = n + 1074 ∧ u * 2 ^ q < 2 ^ T98
theorem fofi_st (s : Bool) (u : Nat) (hu0 : 0 < u) (hu : u < 9007199254740992) : St (fofi (sgn s u)) s u E74 := by
  have hab : (sgn s u).natAbs = u := by unfold sgn; split <;> omega
  have hne : sgn s u ≠ 0 := by unfold sgn; split <;> omega
  obtain ⟨r, hr0, hr, hv, he⟩ := fofi_eq (sgn s u) hne (by omega)
  have hs : decide (sgn s u < 0) = s := by unfold sgn; cases s <;> simp <;> omega
  rw [he, hs]
  rw [hab] at hv
  exact st_word s hr0 hr hv
theorem zero_feq {x : Nat} (h : isNan x = false) : feq x 0 = decide (rg x = 0) := by
  rw [feq_eq h nan_zero, key_zero, decide_eq_decide]; exact key_rg_zero
/-- What the spec makes of a number of its kind. -/
theorem spec_end (s : Bool) (u : Nat) (hu : u % 2 = 1) (hu1 : u < 9007199254740992) (n : Int) (hn : -1200 ≤ n ∧ n ≤ 1200) (y : Nat) (h1 : isNan y = false) (h2 : y < 18446744073709551616)
    (hy : Ev (fun k => spec_l1Scaled.f k (fofi (sgn s u)) n) y) :
    (∀ q : Nat, (q : Int) = n + 1074 → St y s u q → Ev (fun k => spec_NumOf.j0 k (sgn s u) n false) (y, true)) ∧ (¬ Rep u n → Ev (fun k => spec_NumOf.j0 k (sgn s u) n false) (0, false)) := by
  have hE := E74_eq
  have hj0 : ∀ k, spec_NumOf.j0 (k+1) (sgn s u) n false = (spec_l1Scaled.f k (fofi (sgn s u)) n).bind fun t => if rg t = INF then spec_NumOf.j1 k (sgn s u) n t true else spec_NumOf.j1 k (sgn s u) n t (feq t 0) := by
    intro k
    simp only [spec_NumOf.j0]
    rw [if_neg (by simp)]
    congr 1
    funext t
    rw [inf_eq, Option.bind_some]
    simp only [decide_eq_true_eq]
  have htrue : ∀ t, Ev (fun k => spec_NumOf.j1 k (sgn s u) n t true) (0, false) := fun t => Ev.step (f := fun _ => some (0, false)) (fun k => by simp only [spec_NumOf.j1]; rw [if_pos trivial]) (Ev.now _)
  have hfin : ∀ (s' : Bool) (u' q' : Nat), u' % 2 = 1 → u' < 9007199254740992 → q' < T98 → St y s' u' q' → Ev (fun k => spec_NumOf.j0 k (sgn s u) n false) (if sgn s' u' = sgn s u ∧ (q' : Int) - E74 = n then (y, true) else (0, false)) := by
    intro s' u' q' hu' hu1' hq' hst
    refine Ev.step hj0 (Ev.bind hy (Ev.ite_neg (by have := hst.fin; omega) ?_))
    rw [zero_feq h1, decide_eq_false (by have := hst.pos; omega)]
    refine Ev.step (f := fun k => (spec_l1Parts.f k y).bind fun b => if b.1 = sgn s u then (if b.2 = n then some (y, true) else some (0, false)) else some (0, false)) (fun k => by simp only [spec_NumOf.j1]; rw [if_neg (by simp)]) ?_
    refine Ev.bind (parts_ev hst hu' hu1' hq') ?_
    simp only
    by_cases c1 : sgn s' u' = sgn s u
    · by_cases c2 : (q' : Int) - E74 = n
      · have e0 : (if sgn s' u' = sgn s u ∧ (q' : Int) - E74 = n then (y, true) else (0, false)) = (y, true) := if_pos ⟨c1, c2⟩
        rw [e0]; exact Ev.ite_pos c1 (Ev.ite_pos c2 (Ev.now _))
      · have e0 : (if sgn s' u' = sgn s u ∧ (q' : Int) - E74 = n then (y, true) else (0, false)) = (0, false) := if_neg (fun w => c2 w.2)
        rw [e0]; exact Ev.ite_pos c1 (Ev.ite_neg c2 (Ev.now _))
    · have e0 : (if sgn s' u' = sgn s u ∧ (q' : Int) - E74 = n then (y, true) else (0, false)) = (0, false) := if_neg (fun w => c1 w.1)
      rw [e0]; exact Ev.ite_neg c1 (Ev.now _)
  constructor
  · intro q hq hst
    have hqT : q < T98 := by
      have h3 := hst.top
      have h4 : 2 ^ q ≤ u * 2 ^ q := Nat.le_mul_of_pos_left _ (by omega)
      exact (Nat.pow_lt_pow_iff_right (by omega)).mp (Nat.lt_of_le_of_lt h4 h3)
    have r := hfin s u q hu hu1 hqT hst
    rw [if_pos ⟨rfl, by omega⟩] at r
    exact r
  · intro hR
    rcases st_cases h1 h2 with hi | hz | ⟨u', q', hu', hu1', hq', hst⟩
    · exact Ev.step hj0 (Ev.bind hy (Ev.ite_pos hi (htrue y)))
    · refine Ev.step hj0 (Ev.bind hy (Ev.ite_neg (by rw [hz]; decide) ?_))
      rw [zero_feq h1, decide_eq_true hz]
      exact htrue y
    · have r := hfin _ u' q' hu' hu1' hq' hst
      rw [if_neg] at r
      · exact r
      · rintro ⟨c1, c2⟩
        have := sgn_inj hu' hu c1
        exact hR ⟨q', by omega, by rw [← this.2]; exact hst.top⟩
theorem ldN_ok (s : Bool) (e f : Nat) (n : Int) (he : e ≤ 2046) (hf : f < 4503599627370496) : isNan (ldN s e f n) = false ∧ ldN s e f n < 18446744073709551616 := by
  have hI : INF = 9218868437227405312 := rfl
  unfold ldN
  split
  · exact ⟨nan_word s (by omega), word_lt s (by omega)⟩
  · split
    · exact ⟨nan_word s (by omega), word_lt s (by omega)⟩
    · split
      · have := mul_pow_ok' pow_m53 (x := Ieee.double.word s ((n + (e : Int) + 53).toNat * 4503599627370496 + f)) (nan_word s (by omega))
        exact this.2
      · exact ⟨nan_word s (by omega), word_lt s (by omega)⟩
/-- Where the number is a double, ldexp gives it. -/
theorem ldN_st (s : Bool) (u : Nat) (hu : u % 2 = 1) (hu1 : u < 9007199254740992) (n : Int) (q : Nat) (hq : (q : Int) = n + 1074) (ht : u * 2 ^ q < 2 ^ T98) (e f : Nat) (he1 : 1 ≤ e) (heE : e - 1 ≤ E74) (hf : f < 4503599627370496) (hm : 4503599627370496 + f = u * 2 ^ (E74 - (e - 1))) :
    St (ldN s e f n) s u q := by
  have hE := E74_eq
  have hT := T98_eq
  have hI : INF = 9218868437227405312 := rfl
  have hb : E74 - (e - 1) ≤ 52 := by
    apply Classical.byContradiction
    intro hc
    have h1 : (2 : Nat) ^ 53 ≤ 2 ^ (E74 - (e - 1)) := Nat.pow_le_pow_right (by omega) (by omega)
    have h2 : 2 ^ (E74 - (e - 1)) ≤ u * 2 ^ (E74 - (e - 1)) := Nat.le_mul_of_pos_left _ (by omega)
    have h3 : (2 : Nat) ^ 53 = 9007199254740992 := by decide
    omega
  have hup : n + (e : Int) ≤ 2046 := by
    apply Classical.byContradiction
    intro hc
    obtain ⟨d, hd⟩ : ∃ d, q = (E74 - (e - 1)) + d ∧ 2046 ≤ d := ⟨q - (E74 - (e - 1)), by omega, by omega⟩
    rw [hd.1, Nat.pow_add, ← Nat.mul_assoc, ← hm] at ht
    have h4 : 2 ^ 52 * 2 ^ d ≤ (4503599627370496 + f) * 2 ^ d := Nat.mul_le_mul_right _ (by rw [show (2 : Nat) ^ 52 = 4503599627370496 from by decide]; omega)
    rw [← Nat.pow_add] at h4
    have h5 : 52 + d < T98 := (Nat.pow_lt_pow_iff_right (by omega)).mp (Nat.lt_of_le_of_lt h4 ht)
    omega
  unfold ldN
  rw [if_neg (by omega), if_neg (by omega)]
  by_cases c : n + ((e : Int) - 1023) < -1022
  · rw [if_pos c]
    obtain ⟨g, hg⟩ : ∃ g : Nat, n + (e : Int) + 53 = (g : Int) := ⟨(n + (e : Int) + 53).toNat, by omega⟩
    rw [hg, Int.toNat_natCast]
    have hrg : rg (Ieee.double.word s (g * 4503599627370496 + f)) = g * 4503599627370496 + f := rg_word s (by omega)
    have hsg : sg (Ieee.double.word s (g * 4503599627370496 + f)) = s := sg_word s (by omega)
    obtain ⟨r, hr0, hr, hv⟩ := rung_of (q := q) (by omega) hu1 ht
    have hval : val (g * 4503599627370496 + f) = u * 2 ^ q * 2 ^ 53 := by
      rw [val_norm (by omega) hf, hm, Nat.mul_assoc, Nat.mul_assoc, ← Nat.pow_add, ← Nat.pow_add]
      congr 2
      omega
    have hmd := mul_down' (j := 53) pow_m53 (x := Ieee.double.word s (g * 4503599627370496 + f)) (by rw [hrg]; omega) (by rw [hrg]; omega) hr0 hr (by rw [hrg, hval, hv])
    rw [hmd, hsg]
    exact st_word s hr0 hr hv
  · rw [if_neg c]
    obtain ⟨g, hg⟩ : ∃ g : Nat, n + (e : Int) = (g : Int) := ⟨(n + (e : Int)).toNat, by omega⟩
    rw [hg, Int.toNat_natCast]
    refine st_word s (by omega) (by omega) ?_
    rw [val_norm (by omega) hf, hm, Nat.mul_assoc, ← Nat.pow_add]
    congr 2
    omega
theorem impl_end (s : Bool) (u : Nat) (hu : u % 2 = 1) (hu1 : u < 9007199254740992) (n : Int) (hn : -1200 ≤ n ∧ n ≤ 1200) :
    (∀ q : Nat, (q : Int) = n + 1074 → u * 2 ^ q < 2 ^ T98 → ∃ y, St y s u q ∧ Ev (fun k => impl_NumOf.j0 k (sgn s u) n false) (y, true)) ∧ (¬ Rep u n → Ev (fun k => impl_NumOf.j0 k (sgn s u) n false) (0, false)) := by
  have hE := E74_eq
  have hI : INF = 9218868437227405312 := rfl
  have hst0 := fofi_st s u (by omega) hu1
  have hnorm : 4503599627370496 ≤ rg (fofi (sgn s u)) := by
    apply Classical.byContradiction
    intro hc
    have h1 : val (rg (fofi (sgn s u))) = rg (fofi (sgn s u)) := by unfold MIeee.val; rw [if_pos (by omega)]
    have h2 := hst0.val
    rw [h1] at h2
    have h3 : (2 : Nat) ^ 52 ≤ 2 ^ E74 := Nat.pow_le_pow_right (by omega) (by omega)
    have h4 : 2 ^ E74 ≤ u * 2 ^ E74 := Nat.le_mul_of_pos_left _ (by omega)
    have h5 : (2 : Nat) ^ 52 = 4503599627370496 := by decide
    omega
  obtain ⟨e, f, he1, he2, hf, er, heE, hm⟩ := fields hst0 hu hnorm
  have hw : fofi (sgn s u) = Ieee.double.word s (e * 4503599627370496 + f) := by
    have := word_of hst0.lt
    rw [hst0.sg, er] at this
    exact this
  have hld := ldexp_norm hw he1 he2 hf n (by omega)
  have hok := ldN_ok s e f n he2 hf
  have hj0 : ∀ k, impl_NumOf.j0 (k+1) (sgn s u) n false = (impl_PartsOf.f k (ldN s e f n)).bind fun b => if b.2.2 = true then (if b.1 = sgn s u then (if b.2.1 = n then some (ldN s e f n, true) else some (0, false)) else some (0, false)) else some (0, false) := by
    intro k
    simp only [impl_NumOf.j0]
    rw [if_neg (by simp), hld, Option.bind_some]
  have hfin : ∀ (s' : Bool) (u' q' : Nat), u' % 2 = 1 → u' < 9007199254740992 → q' < T98 → St (ldN s e f n) s' u' q' → Ev (fun k => impl_NumOf.j0 k (sgn s u) n false) (if sgn s' u' = sgn s u ∧ (q' : Int) - E74 = n then (ldN s e f n, true) else (0, false)) := by
    intro s' u' q' hu' hu1' hq' hst
    refine Ev.step hj0 (Ev.bind (impl_parts_ev hst hu' hu1' hq') (Ev.ite_pos rfl ?_))
    simp only
    by_cases c1 : sgn s' u' = sgn s u
    · by_cases c2 : (q' : Int) - E74 = n
      · have e0 : (if sgn s' u' = sgn s u ∧ (q' : Int) - E74 = n then (ldN s e f n, true) else (0, false)) = (ldN s e f n, true) := if_pos ⟨c1, c2⟩
        rw [e0]; exact Ev.ite_pos c1 (Ev.ite_pos c2 (Ev.now _))
      · have e0 : (if sgn s' u' = sgn s u ∧ (q' : Int) - E74 = n then (ldN s e f n, true) else (0, false)) = (0, false) := if_neg (fun w => c2 w.2)
        rw [e0]; exact Ev.ite_pos c1 (Ev.ite_neg c2 (Ev.now _))
    · have e0 : (if sgn s' u' = sgn s u ∧ (q' : Int) - E74 = n then (ldN s e f n, true) else (0, false)) = (0, false) := if_neg (fun w => c1 w.1)
      rw [e0]; exact Ev.ite_neg c1 (Ev.now _)
  constructor
  · intro q hq ht
    have hst := ldN_st s u hu hu1 n q hq ht e f he1 heE hf hm
    have hqT : q < T98 := by
      have h4 : 2 ^ q ≤ u * 2 ^ q := Nat.le_mul_of_pos_left _ (by omega)
      exact (Nat.pow_lt_pow_iff_right (by omega)).mp (Nat.lt_of_le_of_lt h4 ht)
    have r := hfin s u q hu hu1 hqT hst
    rw [if_pos ⟨rfl, by omega⟩] at r
    exact ⟨_, hst, r⟩
  · intro hR
    have hno : (rg (ldN s e f n) = INF ∨ rg (ldN s e f n) = 0) → Ev (fun k => impl_PartsOf.f k (ldN s e f n)) (0, 0, false) := by
      intro hz
      have hk : kindN (ldN s e f n) < 3 := by
        unfold kindN
        rw [hok.1, if_neg (by simp)]
        rcases hz with hz | hz
        · rw [if_pos hz]; omega
        · rw [hz, if_neg (by decide), if_pos rfl]; omega
      refine Ev.congr (fun k => by simp only [impl_PartsOf.f]; rw [impl_kind hok.2, Option.bind_some]) ?_
      refine Ev.ite_neg (by omega) ?_
      have e4 : (kindN (ldN s e f n) != 4) = true := by simp; omega
      rw [e4]
      refine Ev.step (f := fun _ => some (0, 0, false)) (fun k => ?_) (Ev.now _)
      simp only [impl_PartsOf.j0]; rw [if_pos trivial]
    rcases st_cases hok.1 hok.2 with hi | hz | ⟨u', q', hu', hu1', hq', hst⟩
    · exact Ev.step hj0 (Ev.bind (hno (.inl hi)) (Ev.ite_neg (by simp) (Ev.now _)))
    · exact Ev.step hj0 (Ev.bind (hno (.inr hz)) (Ev.ite_neg (by simp) (Ev.now _)))
    · have r := hfin _ u' q' hu' hu1' hq' hst
      rw [if_neg] at r
      · exact r
      · rintro ⟨c1, c2⟩
        have := sgn_inj hu' hu c1
        exact hR ⟨q', by omega, by rw [← this.2]; exact hst.top⟩
theorem l1In_dec (a b c : Int) : spec_l1In.f a b c = some (decide (b ≤ a ∧ a ≤ c)) := by
  unfold spec_l1In.f
  by_cases h : b ≤ a
  · rw [if_pos h]; simp [h]
  · rw [if_neg h]; simp [h]
theorem in_dec (a b c : Int) : impl_in.f a b c = some (decide (b ≤ a ∧ a ≤ c)) := l1In_dec a b c
theorem num_same (man n : Int) : ∃ y b, y < 18446744073709551616 ∧ Ev (fun k => spec_NumOf.f k man n) (y, b) ∧ Ev (fun k => impl_NumOf.f k man n) (y, b) := by
  have hst : Ev (fun k => spec_NumOf.j0 k man n true) (0, false) := Ev.step (f := fun _ => some (0, false)) (fun k => by simp only [spec_NumOf.j0]; rw [if_pos trivial]) (Ev.now _)
  have hit : Ev (fun k => impl_NumOf.j0 k man n true) (0, false) := Ev.step (f := fun _ => some (0, false)) (fun k => by simp only [impl_NumOf.j0]; rw [if_pos trivial]) (Ev.now _)
  simp only [spec_NumOf.f, impl_NumOf.f, l1In_dec, in_dec, Option.bind_some, decide_eq_true_eq]
  by_cases h1 : Int.tmod man 2 = 0
  · exact ⟨0, false, by omega, Ev.ite_pos h1 hst, Ev.ite_pos h1 hit⟩
  · by_cases h2 : -9007199254740991 ≤ man ∧ man ≤ 9007199254740991
    · by_cases h3 : -1200 ≤ n ∧ n ≤ 1200
      · obtain ⟨s, u, hman, hu1⟩ : ∃ (s : Bool) (u : Nat), man = sgn s u ∧ u < 9007199254740992 := by
          by_cases hneg : man < 0
          · exact ⟨true, man.natAbs, by unfold sgn; simp; omega, by omega⟩
          · exact ⟨false, man.natAbs, by unfold sgn; simp; omega, by omega⟩
        subst hman
        have hu : u % 2 = 1 := by rw [sgn_tmod] at h1; omega
        have hx := fofi_st s u (by omega) hu1
        obtain ⟨y0, hy0, g1, g2⟩ := scaled_any (fofi (sgn s u)) n (by omega) hx.nan hx.lt
        have hS := spec_end s u hu hu1 n h3 y0 g1 g2 hy0
        have hI := impl_end s u hu hu1 n h3
        have e : (!decide (-1200 ≤ n ∧ n ≤ 1200)) = false := by simp [h3]
        by_cases hR : Rep u n
        · obtain ⟨q, hq, ht⟩ := hR
          obtain ⟨y, hyE, hySt⟩ := scaled_st (by omega) hu1 hx n (by omega) q (by have := E74_eq; omega) ht
          have hyy : y0 = y := Ev.unique hy0 hyE
          subst hyy
          obtain ⟨z, hz, hzE⟩ := hI.1 q hq ht
          have := hySt.unique hz
          subst this
          refine ⟨y0, true, g2, Ev.ite_neg h1 (Ev.ite_pos h2 ?_), Ev.ite_neg h1 (Ev.ite_pos h2 ?_)⟩
          · rw [e]; exact hS.1 q hq hySt
          · rw [e]; exact hzE
        · refine ⟨0, false, by omega, Ev.ite_neg h1 (Ev.ite_pos h2 ?_), Ev.ite_neg h1 (Ev.ite_pos h2 ?_)⟩
          · rw [e]; exact hS.2 hR
          · rw [e]; exact hI.2 hR
      · have e : (!decide (-1200 ≤ n ∧ n ≤ 1200)) = true := by simp; omega
        refine ⟨0, false, by omega, Ev.ite_neg h1 (Ev.ite_pos h2 ?_), Ev.ite_neg h1 (Ev.ite_pos h2 ?_)⟩
        · rw [e]; exact hst
        · rw [e]; exact hit
    · exact ⟨0, false, by omega, Ev.ite_neg h1 (Ev.ite_neg h2 hst), Ev.ite_neg h1 (Ev.ite_neg h2 hit)⟩
theorem bt_bs (w : List UInt8) (i : Nat) (h : i < w.length) : bt (bs w) (i : Int) = ((w[i]).toNat : Int) := by
  unfold bt
  rw [dif_pos (by rw [bs_size]; simpa using h)]
  rfl
theorem data_bs (w : List UInt8) : (bs w).data.toList = w := by simp [bs]
/-! ### Decimal digits -/
theorem u8_digit (c : UInt8) (h : 48 ≤ c.toNat ∧ c.toNat ≤ 57) : UInt8.ofNat (48 + (c.toNat - 48)) = c := by
  have : 48 + (c.toNat - 48) = c.toNat := by omega
  rw [this]
  exact UInt8.ofNat_toNat
theorem u8_48 {c : UInt8} (h : c.toNat = 48) : c = 48 := UInt8.toNat_inj.1 (by rw [h]; rfl)
theorem of_digit {d : Nat} (h : d < 10) : (UInt8.ofNat (48 + d)).toNat = 48 + d := by
  rw [UInt8.toNat_ofNat']
  omega
theorem dec_snoc (n d : Nat) (hn : 0 < n) (hd : d < 10) : Lib.decDigits (10 * n + d) = Lib.decDigits n ++ [UInt8.ofNat (48 + d)] := by
  have h1 : (10 * n + d) / 10 = n := by omega
  have h2 : (10 * n + d) % 10 = d := by omega
  rw [Lib.decDigits, dif_neg (by omega), h1, h2]
/-- The value of digits behind a value; none where one is no digit. -/
def dgo : Nat → List UInt8 → Option Nat
  | n, [] => some n
  | n, x :: r => if 48 ≤ x.toNat ∧ x.toNat ≤ 57 then dgo (10 * n + (x.toNat - 48)) r else none
theorem dgo_dec : ∀ (r : List UInt8) (n m : Nat), 0 < n → dgo n r = some m → Lib.decDigits m = Lib.decDigits n ++ r
  | [], n, m, _, h => by
    simp only [dgo, Option.some.injEq] at h
    subst h
    simp
  | x :: r, n, m, hn, h => by
    unfold dgo at h
    by_cases c : 48 ≤ x.toNat ∧ x.toNat ≤ 57
    · rw [if_pos c] at h
      rw [dgo_dec r _ m (by omega) h, dec_snoc n (x.toNat - 48) hn (by omega), u8_digit x c, List.append_assoc]
      rfl
    · rw [if_neg c] at h; cases h
theorem dgo_le : ∀ (r : List UInt8) (n m : Nat), dgo n r = some m → n ≤ m
  | [], n, m, h => by simp only [dgo, Option.some.injEq] at h; omega
  | x :: r, n, m, h => by
    unfold dgo at h
    by_cases c : 48 ≤ x.toNat ∧ x.toNat ≤ 57
    · rw [if_pos c] at h
      have := dgo_le r _ m h
      omega
    · rw [if_neg c] at h; cases h
theorem dgo_digits : ∀ (r : List UInt8) (n m : Nat), dgo n r = some m → ∀ x ∈ r, 48 ≤ x.toNat ∧ x.toNat ≤ 57
  | [], _, _, _, x, hx => by cases hx
  | y :: r, n, m, h, x, hx => by
    unfold dgo at h
    by_cases c : 48 ≤ y.toNat ∧ y.toNat ≤ 57
    · rw [if_pos c] at h
      rcases List.mem_cons.1 hx with rfl | hx
      · exact c
      · exact dgo_digits r _ m h x hx
    · rw [if_neg c] at h; cases h
theorem dgo_snoc : ∀ (l : List UInt8) (a m : Nat) (x : UInt8), dgo a l = some m → 48 ≤ x.toNat ∧ x.toNat ≤ 57 → dgo a (l ++ [x]) = some (10 * m + (x.toNat - 48))
  | [], a, m, x, h, hx => by
    simp only [dgo, Option.some.injEq] at h
    subst h
    simp only [List.nil_append, dgo]
    rw [if_pos hx]
  | y :: l, a, m, x, h, hx => by
    unfold dgo at h
    by_cases c : 48 ≤ y.toNat ∧ y.toNat ≤ 57
    · rw [if_pos c] at h
      rw [List.cons_append]
      unfold dgo
      rw [if_pos c]
      exact dgo_snoc l _ m x h hx
    · rw [if_neg c] at h; cases h
theorem dgo_of_dec (n : Nat) : dgo 0 (Lib.decDigits n) = some n := by
  induction n using Nat.strongRecOn with
  | ind n ih =>
    by_cases h : n < 10
    · rw [Lib.decDigits_one h]
      simp only [dgo]
      rw [of_digit h, if_pos (by omega)]
      congr 1
      omega
    · have hd : Lib.decDigits n = Lib.decDigits (n / 10) ++ [UInt8.ofNat (48 + n % 10)] := by rw [Lib.decDigits, dif_neg h]
      have hm : n % 10 < 10 := by omega
      rw [hd, dgo_snoc _ 0 (n / 10) _ (ih (n / 10) (by omega)) (by rw [of_digit hm]; omega), of_digit hm]
      congr 1
      omega
theorem dec_ne (n : Nat) : Lib.decDigits n ≠ [] := by
  rw [Lib.decDigits]
  split <;> simp
theorem dec_head (n : Nat) (h0 : 0 < n) : (Lib.decDigits n).head? ≠ some 48 := by
  induction n using Nat.strongRecOn with
  | ind n ih =>
    by_cases h : n < 10
    · rw [Lib.decDigits_one h]
      intro q
      simp only [List.head?_cons, Option.some.injEq] at q
      have := of_digit h
      rw [q] at this
      have e : (48 : UInt8).toNat = 48 := rfl
      omega
    · have hd : Lib.decDigits n = Lib.decDigits (n / 10) ++ [UInt8.ofNat (48 + n % 10)] := by rw [Lib.decDigits, dif_neg h]
      have ih' := ih (n / 10) (by omega) (by omega)
      rw [hd]
      cases hq : Lib.decDigits (n / 10) with
      | nil => exact absurd hq (dec_ne _)
      | cons y ys => rw [hq] at ih'; simpa using ih'
theorem dec_len3 {n : Nat} (h : n ≤ 999) : (Lib.decDigits n).length ≤ 3 := by
  by_cases h1 : n < 10
  · rw [Lib.decDigits_one h1]; simp
  · by_cases h2 : n < 100
    · rw [Lib.decDigits_two h1 h2]; simp
    · rw [Lib.decDigits, dif_neg h1]
      have h3 : n / 10 < 100 := by omega
      have h4 : ¬ n / 10 < 10 := by omega
      rw [Lib.decDigits_two h4 h3]
      simp
/-- A number in its one form. -/
def oneForm (w : List UInt8) : Option Nat := if w = [] ∨ 16 < w.length ∨ (w.head? = some 48 ∧ 1 < w.length) then none else dgo 0 w
theorem oneForm_dec {w : List UInt8} {m : Nat} (h : oneForm w = some m) : w = Lib.decDigits m := by
  unfold oneForm at h
  split at h
  · cases h
  · rename_i hc
    cases w with
    | nil => exact absurd (Or.inl rfl) hc
    | cons x r =>
      unfold dgo at h
      by_cases c : 48 ≤ x.toNat ∧ x.toNat ≤ 57
      · rw [if_pos c] at h
        by_cases z : x.toNat = 48
        · have hx := u8_48 z
          have hr : r = [] := by
            have : ¬ 1 < (x :: r).length := fun q => hc (Or.inr (Or.inr ⟨by rw [hx]; rfl, q⟩))
            simp only [List.length_cons] at this
            exact List.length_eq_zero_iff.mp (by omega)
          subst hr
          rw [z] at h
          simp only [dgo, Option.some.injEq] at h
          have : m = 0 := by omega
          subst this
          rw [Lib.decDigits_one (by omega), hx]
          rfl
        · have := dgo_dec r _ m (by omega) h
          rw [this, show 10 * 0 + (x.toNat - 48) = x.toNat - 48 by omega, Lib.decDigits_one (by omega), u8_digit x c]
          rfl
      · rw [if_neg c] at h; cases h
theorem oneForm_of {n : Nat} (h : n ≤ 999) : oneForm (Lib.decDigits n) = some n := by
  unfold oneForm
  have hl := dec_len3 h
  rw [if_neg, dgo_of_dec]
  rintro (q | q | ⟨q1, q2⟩)
  · exact dec_ne n q
  · omega
  · by_cases h0 : 0 < n
    · exact dec_head n h0 q1
    · obtain rfl : n = 0 := by omega
      rw [Lib.decDigits_one (by omega)] at q2
      simp at q2
theorem pow_bound {i n : Nat} (hi : i < 16) (h : n < 10 ^ i) : n < 1000000000000000 := by
  have : (10 : Nat) ^ i ≤ 10 ^ 15 := Nat.pow_le_pow_right (by omega) (by omega)
  have e : (10 : Nat) ^ 15 = 1000000000000000 := by decide
  omega
theorem digits_loop (w : List UInt8) (hw : w.length ≤ 16) : ∀ (d i n : Nat), i + d = w.length → n < 10 ^ i → Ev (fun k => spec_l1Digits.l0 k (bs w) (n : Int) (i : Int)) ((dgo n (w.drop i)).elim (-1) (fun m => (m : Int)))
  | 0, i, n, h, _ => by
    rw [List.drop_eq_nil_of_le (by omega)]
    refine Ev.step (f := fun _ => some (n : Int)) (fun k => ?_) (Ev.now _)
    simp only [spec_l1Digits.l0]
    rw [if_neg (by rw [bs_size]; omega)]
  | d + 1, i, n, h, hn => by
    have hi : i < w.length := by omega
    have hb := pow_bound (by omega) hn
    rw [List.drop_eq_getElem_cons hi]
    have hbt := bt_bs w i hi
    unfold dgo
    by_cases c : 48 ≤ (w[i]).toNat ∧ (w[i]).toNat ≤ 57
    · rw [if_pos c]
      refine Ev.step (fun k => ?_) (digits_loop w hw d (i + 1) (10 * n + ((w[i]).toNat - 48)) (by omega) (by rw [Nat.pow_succ]; omega))
      simp only [spec_l1Digits.l0]
      have e : wrap64 ((wrap64 (10 * (n : Int))) + (((((w[i]).toNat : Int)) - 48) % 256)) = ((10 * n + ((w[i]).toNat - 48) : Nat) : Int) := by
        rw [wrap_id (n := 10 * (n : Int)) (by omega) (by omega)]
        rw [wrap_id] <;> omega
      rw [if_pos (by rw [bs_size]; omega), if_pos (by omega), hbt, if_neg (by omega), if_neg (by omega), e, wrap_id (n := (i : Int) + 1) (by omega) (by omega)]
      rfl
    · rw [if_neg c]
      refine Ev.step (f := fun _ => some (-1)) (fun k => ?_) (Ev.now _)
      simp only [spec_l1Digits.l0]
      rw [if_pos (by rw [bs_size]; omega), if_pos (by omega), hbt]
      by_cases c1 : ((w[i]).toNat : Int) < 48
      · rw [if_pos c1]
      · rw [if_neg c1, if_pos (by omega)]
theorem digits_ev (w : List UInt8) : Ev (fun k => spec_l1Digits.f k (bs w)) ((oneForm w).elim (-1) (fun m => (m : Int))) := by
  have hT : Ev (fun k => spec_l1Digits.j0 k (bs w) true) (-1) := Ev.step (f := fun _ => some (-1)) (fun k => by simp only [spec_l1Digits.j0]; rw [if_pos trivial]) (Ev.now _)
  simp only [spec_l1Digits.f, bs_size]
  unfold oneForm
  by_cases h0 : w.length = 0
  · have : w = [] := List.length_eq_zero_iff.mp h0
    rw [if_pos (Or.inl this)]
    exact Ev.ite_pos (by omega) hT
  · refine Ev.ite_neg (by omega) ?_
    by_cases h1 : 16 < w.length
    · rw [if_pos (Or.inr (Or.inl h1))]
      exact Ev.ite_pos (by omega) hT
    · refine Ev.ite_neg (by omega) (Ev.ite_pos (by omega) ?_)
      have hl := digits_loop w (by omega) w.length 0 0 (by omega) (by simp)
      rw [List.drop_zero] at hl
      have hF : Ev (fun k => spec_l1Digits.j0 k (bs w) false) ((dgo 0 w).elim (-1) (fun m => (m : Int))) := Ev.step (fun k => by simp only [spec_l1Digits.j0]; rw [if_neg (by simp)]; rfl) hl
      have hne : w ≠ [] := fun q => h0 (by rw [q]; rfl)
      cases w with
      | nil => exact absurd rfl hne
      | cons x r =>
        have hb := bt_bs (x :: r) 0 (by simp)
        have hb' : bt (bs (x :: r)) 0 = (x.toNat : Int) := hb
        by_cases hx : x.toNat = 48
        · refine Ev.ite_pos (by rw [hb', hx]; rfl) ?_
          by_cases h2 : 1 < (x :: r).length
          · rw [if_pos (Or.inr (Or.inr ⟨by rw [u8_48 hx]; rfl, h2⟩)), decide_eq_true (by omega)]
            exact hT
          · rw [if_neg, decide_eq_false (by omega)]
            · exact hF
            · rintro (q | q | ⟨_, q⟩)
              · exact hne q
              · omega
              · omega
        · refine Ev.ite_neg (by rw [hb']; omega) ?_
          rw [if_neg]
          · exact hF
          · rintro (q | q | ⟨q, _⟩)
            · exact hne q
            · omega
            · simp only [List.head?_cons, Option.some.injEq] at q
              rw [q] at hx
              exact hx rfl
theorem parse_of_dgo : ∀ (l : List UInt8) (a m : Nat), dgo a l = some m → m ≤ 999 → Lib.parseUint10 a l = .ok m
  | [], a, m, h, _ => by
    simp only [dgo, Option.some.injEq] at h
    subst h
    rfl
  | x :: r, a, m, h, hm => by
    have hle := dgo_le _ _ _ h
    unfold dgo at h
    by_cases c : 48 ≤ x.toNat ∧ x.toNat ≤ 57
    · rw [if_pos c] at h
      have hle2 := dgo_le _ _ _ h
      unfold Lib.parseUint10
      rw [if_pos c, if_neg (by omega), if_neg (by omega), Nat.mul_comm a 10]
      exact parse_of_dgo r _ m h hm
    · rw [if_neg c] at h; cases h
theorem atoi_dec {n : Nat} (h : n ≤ 999) : Go.Proofs.YthdpiceiemkjlaaDoor.MRead.atoiN (Lib.decDigits n) = ((n : Int), true) := by
  have hp := parse_of_dgo _ 0 n (dgo_of_dec n) h
  have hd := dgo_digits _ 0 n (dgo_of_dec n)
  have hne := dec_ne n
  unfold Go.Proofs.YthdpiceiemkjlaaDoor.MRead.atoiN
  have e : Lib.atoiAll (Lib.decDigits n) = .ok (n : Int) := by
    generalize hw : Lib.decDigits n = w at hp hd hne
    cases w with
    | nil => exact absurd rfl hne
    | cons x r =>
      have hx := hd x List.mem_cons_self
      have hpm : Lib.parseMag (x :: r) = .ok n := by unfold Lib.parseMag; rw [if_neg (by simp)]; exact hp
      unfold Lib.atoiAll
      simp only
      rw [if_neg (by omega), hpm]
      simp only
      rw [if_neg (by omega), if_neg (by omega), if_neg (by omega)]
  rw [e]
theorem read_ok {n : Nat} (h : n ≤ 999) : Go.Proofs.YthdpiceiemkjlaaDoor.MRead.readN (bs (Lib.decDigits n)) 999 = ((n : Int), true) := by
  unfold Go.Proofs.YthdpiceiemkjlaaDoor.MRead.readN
  rw [data_bs, atoi_dec h]
  simp only [Lib.itoa_nonneg, decide_true, Bool.and_self, Bool.true_and]
  rw [decide_eq_true (by omega)]
theorem read_bad {w : List UInt8} (h : ∀ n, n ≤ 999 → w ≠ Lib.decDigits n) : (Go.Proofs.YthdpiceiemkjlaaDoor.MRead.readN (bs w) 999).2 = false := by
  unfold Go.Proofs.YthdpiceiemkjlaaDoor.MRead.readN
  rw [data_bs]
  generalize Go.Proofs.YthdpiceiemkjlaaDoor.MRead.atoiN w = q
  cases hb : (q.2 && decide (Lib.itoa q.1 = w) && decide (0 ≤ q.1 ∧ q.1 ≤ 999)) with
  | false => rfl
  | true =>
    simp only [Bool.and_eq_true, decide_eq_true_eq] at hb
    obtain ⟨⟨_, h1⟩, h2⟩ := hb
    exfalso
    apply h q.1.toNat (by omega)
    have e : q.1 = ((q.1.toNat : Nat) : Int) := by omega
    have e2 : Lib.itoa q.1 = Lib.decDigits q.1.toNat := by
      conv => lhs; rw [e]
      rw [Lib.itoa_nonneg]
    rw [← h1, e2]
theorem cut_bs (l : List UInt8) (i j : Nat) : cutS (bs l) i j = bs ((l.take j).drop i) := by
  apply ByteArray.ext
  unfold cutS
  rw [ByteArray.data_extract]
  apply Array.toList_inj.1
  rw [Array.toList_extract]
  simp [bs, List.extract_eq_take_drop, List.drop_take]
/-! what the library's index says of one byte -/
theorem occ_iff (l : List UInt8) (b : UInt8) (i : Nat) : Lib.occAt l [b] i = true ↔ l[i]? = some b := by
  constructor
  · exact fun h => Lib.occAt_head rfl h
  · intro h
    have hi : i < l.length := (List.getElem?_eq_some_iff.1 h).1
    have e : l[i] = b := (List.getElem?_eq_some_iff.1 h).2
    unfold Lib.occAt
    rw [List.drop_eq_getElem_cons hi, e]
    simp [List.isPrefixOf]
theorem index_byte (l : List UInt8) (b : UInt8) : (Lib.index l [b] = -1 ∧ b ∉ l) ∨ ∃ a r, l = a ++ b :: r ∧ b ∉ a ∧ Lib.index l [b] = (a.length : Int) := by
  rcases Lib.index_spec l [b] with ⟨h1, h2⟩ | ⟨i, h1, h2, h3, h4⟩
  · refine Or.inl ⟨h1, fun hm => ?_⟩
    obtain ⟨j, hj, e⟩ := List.getElem_of_mem hm
    have := (occ_iff l b j).2 (by rw [List.getElem?_eq_getElem hj, e])
    rw [h2 j (by omega)] at this
    cases this
  · have hib := (occ_iff l b i).1 h3
    have hi : i < l.length := (List.getElem?_eq_some_iff.1 hib).1
    have e : l[i] = b := (List.getElem?_eq_some_iff.1 hib).2
    refine Or.inr ⟨l.take i, l.drop (i + 1), ?_, fun hm => ?_, by rw [h1, List.length_take]; omega⟩
    · rw [← e, ← List.drop_eq_getElem_cons hi, List.take_append_drop]
    · obtain ⟨j, hj, ej⟩ := List.mem_take_iff_getElem.1 hm
      have := (occ_iff l b j).2 (by rw [List.getElem?_eq_getElem (by omega), ej])
      have h5 := h4 j (by omega)
      rw [h5] at this
      cases this
/-! ### A number's text, read back -/
theorem tl_bs (l : List UInt8) : (bs l).toList = l := by rw [ByteArray.toList_eq]; simp [bs]
theorem num_same' (man n : Int) : ∃ y b, y < 18446744073709551616 ∧ Ev (fun k => spec_NumOf.f k man n) (y, b) ∧ Ev (fun k => impl_NumOf.f k man n) (y, b) ∧ (b = false → y = 0) ∧ (b = true → ∃ s u q, St y s u q ∧ u % 2 = 1 ∧ u < 9007199254740992 ∧ q < T98 ∧ man = sgn s u ∧ n = (q : Int) - E74 ∧ -1200 ≤ n ∧ n ≤ 1200) := by
  have hst : Ev (fun k => spec_NumOf.j0 k man n true) (0, false) := Ev.step (f := fun _ => some (0, false)) (fun k => by simp only [spec_NumOf.j0]; rw [if_pos trivial]) (Ev.now _)
  have hit : Ev (fun k => impl_NumOf.j0 k man n true) (0, false) := Ev.step (f := fun _ => some (0, false)) (fun k => by simp only [impl_NumOf.j0]; rw [if_pos trivial]) (Ev.now _)
  simp only [spec_NumOf.f, impl_NumOf.f, l1In_dec, in_dec, Option.bind_some, decide_eq_true_eq]
  by_cases h1 : Int.tmod man 2 = 0
  · exact ⟨0, false, by omega, Ev.ite_pos h1 hst, Ev.ite_pos h1 hit, fun _ => rfl, fun h => by cases h⟩
  · by_cases h2 : -9007199254740991 ≤ man ∧ man ≤ 9007199254740991
    · by_cases h3 : -1200 ≤ n ∧ n ≤ 1200
      · obtain ⟨s, u, hman, hu1⟩ : ∃ (s : Bool) (u : Nat), man = sgn s u ∧ u < 9007199254740992 := by
          by_cases hneg : man < 0
          · exact ⟨true, man.natAbs, by unfold sgn; simp; omega, by omega⟩
          · exact ⟨false, man.natAbs, by unfold sgn; simp; omega, by omega⟩
        subst hman
        have hu : u % 2 = 1 := by rw [sgn_tmod] at h1; omega
        have hx := fofi_st s u (by omega) hu1
        obtain ⟨y0, hy0, g1, g2⟩ := scaled_any (fofi (sgn s u)) n (by omega) hx.nan hx.lt
        have hS := spec_end s u hu hu1 n h3 y0 g1 g2 hy0
        have hI := impl_end s u hu hu1 n h3
        have e : (!decide (-1200 ≤ n ∧ n ≤ 1200)) = false := by simp [h3]
        by_cases hR : Rep u n
        · obtain ⟨q, hq, ht⟩ := hR
          obtain ⟨y, hyE, hySt⟩ := scaled_st (by omega) hu1 hx n (by omega) q (by have := E74_eq; omega) ht
          have hyy : y0 = y := Ev.unique hy0 hyE
          subst hyy
          obtain ⟨z, hz, hzE⟩ := hI.1 q hq ht
          have := hySt.unique hz
          subst this
          have hqT : q < T98 := by
            have h1 : 2 ^ q ≤ u * 2 ^ q := Nat.le_mul_of_pos_left _ (by omega)
            exact (Nat.pow_lt_pow_iff_right (by omega)).mp (Nat.lt_of_le_of_lt h1 ht)
          refine ⟨y0, true, g2, Ev.ite_neg h1 (Ev.ite_pos h2 ?_), Ev.ite_neg h1 (Ev.ite_pos h2 ?_), (fun h => by cases h), fun _ => ⟨s, u, q, hySt, hu, hu1, hqT, rfl, by have := E74_eq; omega, h3⟩⟩
          · rw [e]; exact hS.1 q hq hySt
          · rw [e]; exact hzE
        · refine ⟨0, false, by omega, Ev.ite_neg h1 (Ev.ite_pos h2 ?_), Ev.ite_neg h1 (Ev.ite_pos h2 ?_), fun _ => rfl, fun h => by cases h⟩
          · rw [e]; exact hS.2 hR
          · rw [e]; exact hI.2 hR
      · have e : (!decide (-1200 ≤ n ∧ n ≤ 1200)) = true := by simp; omega
        refine ⟨0, false, by omega, Ev.ite_neg h1 (Ev.ite_pos h2 ?_), Ev.ite_neg h1 (Ev.ite_pos h2 ?_), fun _ => rfl, fun h => by cases h⟩
        · rw [e]; exact hst
        · rw [e]; exact hit
    · exact ⟨0, false, by omega, Ev.ite_neg h1 (Ev.ite_neg h2 hst), Ev.ite_neg h1 (Ev.ite_neg h2 hit), fun _ => rfl, fun h => by cases h⟩
theorem E74_le' : (E74 : Int) ≤ 2000 ∧ (T98 : Int) ≤ 3000 := by decide
/-- The text of a number that is neither nought nor infinite. -/
theorem text_st {x u q : Nat} {s : Bool} (h : St x s u q) (hu : u % 2 = 1) (hu1 : u < 9007199254740992) (hq : q < T98) : Ev (fun k => impl_NumText.f k x) (bs (Lib.itoa (sgn s u) ++ [112] ++ Lib.itoa ((q : Int) - E74))) := by
  have hik := impl_kind h.lt
  have hI := inf_small
  have hfin := h.fin
  have hpos := h.pos
  have e : kindN x = 3 ∨ kindN x = 4 := by
    unfold kindN
    rw [h.nan, if_neg (by simp), if_neg (by omega), if_neg (by omega)]
    split
    · exact .inl rfl
    · exact .inr rfl
  simp only [impl_NumText.f, hik, Option.bind_some]
  have hE := E74_le'
  have hs1 : -9007199254740992 ≤ sgn s u ∧ sgn s u ≤ 9007199254740992 := by
    unfold sgn
    split <;> omega
  have e112 : (⟨#[112]⟩ : ByteArray) = bs [112] := rfl
  have hl1 := Lib.itoa_length_le (sgn s u) (by omega) (by omega)
  have hl2 := Lib.itoa_length_le ((q : Int) - E74) (by omega) (by omega)
  refine Ev.ite_neg (by omega) (Ev.ite_neg (by omega) (Ev.ite_neg (by omega) (Ev.bind (impl_parts_ev h hu hu1 hq) ?_)))
  rw [e112]
  refine Ev.congr (fun k => by rw [itoa_now (sgn s u) (by omega) (by omega), Option.bind_some]) (Ev.ite_pos (catOk_bs (by simp only [List.length_cons, List.length_nil]; omega)) ?_)
  refine Ev.congr (fun k => by rw [itoa_now ((q : Int) - E74) (by omega) (by omega), Option.bind_some, cat_bs]) (Ev.ite_pos (catOk_bs (by simp only [List.length_append, List.length_cons, List.length_nil]; omega)) ?_)
  rw [cat_bs]
  exact Ev.now _
/-! numbers with a sign -/
theorem dgo_lt : ∀ (r : List UInt8) (n m i : Nat), dgo n r = some m → n < 10 ^ i → m < 10 ^ (i + r.length)
  | [], n, m, i, h, hn => by
    simp only [dgo, Option.some.injEq] at h
    subst h
    simpa using hn
  | x :: r, n, m, i, h, hn => by
    unfold dgo at h
    by_cases c : 48 ≤ x.toNat ∧ x.toNat ≤ 57
    · rw [if_pos c] at h
      have := dgo_lt r _ m (i + 1) h (by rw [Nat.pow_succ]; omega)
      rw [List.length_cons, show i + (r.length + 1) = i + 1 + r.length by omega]
      exact this
    · rw [if_neg c] at h; cases h
theorem one_lt {w : List UInt8} {m : Nat} (h : oneForm w = some m) : m < 10000000000000000 := by
  unfold oneForm at h
  split at h
  · cases h
  · rename_i hc
    have h16 : w.length ≤ 16 := by
      rcases Nat.lt_or_ge 16 w.length with q | q
      · exact absurd (Or.inr (Or.inl q)) hc
      · exact q
    have h1 := dgo_lt w 0 m 0 h (by simp)
    have h2 : (10 : Nat) ^ (0 + w.length) ≤ 10 ^ 16 := Nat.pow_le_pow_right (by omega) (by omega)
    have e : (10 : Nat) ^ 16 = 10000000000000000 := by decide
    omega
theorem dec_len_pow : ∀ (k m : Nat), 0 < k → m < 10 ^ k → (Lib.decDigits m).length ≤ k
  | 0, _, h, _ => by omega
  | k + 1, m, _, h => by
    by_cases c : m < 10
    · rw [Lib.decDigits_one c]; simp
    · rw [Lib.decDigits, dif_neg c, List.length_append]
      have hk : 0 < k := by
        rcases Nat.eq_zero_or_pos k with rfl | q
        · simp at h; omega
        · exact q
      have := dec_len_pow k (m / 10) hk (by rw [Nat.pow_succ] at h; omega)
      simp only [List.length_cons, List.length_nil]
      omega
theorem one_dec {m : Nat} (h : m < 10000000000000000) : oneForm (Lib.decDigits m) = some m := by
  unfold oneForm
  have hl := dec_len_pow 16 m (by omega) (by have e : (10 : Nat) ^ 16 = 10000000000000000 := by decide
                                             omega)
  rw [if_neg, dgo_of_dec]
  rintro (q | q | ⟨q1, q2⟩)
  · exact dec_ne m q
  · omega
  · by_cases h0 : 0 < m
    · exact dec_head m h0 q1
    · obtain rfl : m = 0 := by omega
      rw [Lib.decDigits_one (by omega)] at q2
      simp at q2
def od (w : List UInt8) : Int := (oneForm w).elim (-1) (fun m => (m : Int))
theorem od_lt (w : List UInt8) : -1 ≤ od w ∧ od w < 10000000000000000 := by
  unfold od
  cases h : oneForm w with
  | none => simp
  | some m => have := one_lt h; simp; omega
def sgd : List UInt8 → Int × Bool
  | [] => (-1, false)
  | c :: r => if c.toNat = 45 then (-(od r), decide (od r > 0)) else (od (c :: r), decide (od (c :: r) ≥ 0))
theorem sgd_cons (c : UInt8) (r : List UInt8) : sgd (c :: r) = if c.toNat = 45 then (-(od r), decide (od r > 0)) else (od (c :: r), decide (od (c :: r) ≥ 0)) := rfl
theorem signed_ev (w : List UInt8) (hw : w.length ≤ 1048576) : Ev (fun k => spec_l1Signed.f k (bs w)) (sgd w) := by
  cases w with
  | nil =>
    have hd := digits_ev []
    simp only [spec_l1Signed.f, bs_size]
    refine Ev.ite_neg (by simp) (Ev.step (fun k => by simp only [spec_l1Signed.j0]; rw [if_neg (by simp)]) (Ev.bind hd ?_))
    exact Ev.now _
  | cons c r =>
    have hb : bt (bs (c :: r)) 0 = (c.toNat : Int) := bt_bs (c :: r) 0 (by simp)
    simp only [spec_l1Signed.f, bs_size]
    refine Ev.ite_pos (by simp) (Ev.ite_pos (by simp) ?_)
    rw [hb]
    rw [sgd_cons]
    by_cases h : c.toNat = 45
    · rw [if_pos h, h]
      have hd := digits_ev r
      have hl := od_lt r
      refine Ev.step (f := fun k => (spec_l1Digits.f k (bs r)).bind fun t => some (wrap64 (-t), decide (t > 0))) (fun k => ?_) (Ev.bind hd ?_)
      · simp only [spec_l1Signed.j0, bs_size]
        rw [if_pos (by rfl), if_pos (by simp only [List.length_cons]; omega), cut_bs]
        simp
      · show Ev (fun _ => some (wrap64 (-(od r)), decide (od r > 0))) _
        rw [wrap_id (by omega) (by omega)]
        exact Ev.now _
    · rw [if_neg h]
      have hd := digits_ev (c :: r)
      refine Ev.step (fun k => by simp only [spec_l1Signed.j0]; rw [if_neg (by simp; omega)]) (Ev.bind hd ?_)
      exact Ev.now _
theorem sgd_ok {w : List UInt8} (h : (sgd w).2 = true) : w = Lib.itoa (sgd w).1 ∧ -10000000000000000 < (sgd w).1 ∧ (sgd w).1 < 10000000000000000 := by
  cases w with
  | nil => cases h
  | cons c r =>
    rw [sgd_cons] at h ⊢
    by_cases hc : c.toNat = 45
    · rw [if_pos hc] at h ⊢
      have h0 := of_decide_eq_true h
      unfold od at h0 ⊢
      cases ho : oneForm r with
      | none => rw [ho] at h0; simp at h0
      | some m =>
        rw [ho] at h0
        simp only [Option.elim] at h0 ⊢
        have := one_lt ho
        have ed := oneForm_dec ho
        refine ⟨?_, by omega, by omega⟩
        unfold Lib.itoa
        rw [if_pos (by omega), show (-(m : Int)).natAbs = m by omega, ← ed]
        congr 1
        exact UInt8.toNat_inj.1 (by rw [hc]; rfl)
    · rw [if_neg hc] at h ⊢
      have h0 := of_decide_eq_true h
      unfold od at h0 ⊢
      cases ho : oneForm (c :: r) with
      | none => rw [ho] at h0; simp at h0
      | some m =>
        simp only [Option.elim]
        have := one_lt ho
        have ed := oneForm_dec ho
        refine ⟨?_, by omega, by omega⟩
        rw [Lib.itoa_nonneg]
        exact ed
theorem sgd_itoa {n : Int} (h : -10000000000000000 < n ∧ n < 10000000000000000) : sgd (Lib.itoa n) = (n, true) := by
  unfold Lib.itoa
  by_cases hn : n < 0
  · rw [if_pos hn]
    rw [sgd_cons, if_pos (by rfl)]
    have : od (Lib.decDigits n.natAbs) = (n.natAbs : Int) := by unfold od; rw [one_dec (by omega)]; rfl
    rw [this, decide_eq_true (by omega)]
    congr 1
    omega
  · rw [if_neg hn]
    have ho : od (Lib.decDigits n.toNat) = n := by unfold od; rw [one_dec (by omega)]; simp only [Option.elim]; omega
    have hd := dgo_digits _ 0 n.toNat (dgo_of_dec n.toNat)
    cases hw : Lib.decDigits n.toNat with
    | nil => exact absurd hw (dec_ne _)
    | cons c r =>
      have hc := hd c (by rw [hw]; exact List.mem_cons_self)
      rw [sgd_cons, if_neg (by omega), ← hw, ho, decide_eq_true (by omega)]
theorem parse_dgo : ∀ (l : List UInt8) (a m : Nat), dgo a l = some m → m ≤ 100000000000000000 → Lib.parseUint10 a l = .ok m
  | [], a, m, h, _ => by
    simp only [dgo, Option.some.injEq] at h
    subst h
    rfl
  | x :: r, a, m, h, hm => by
    have hle := dgo_le _ _ _ h
    unfold dgo at h
    by_cases c : 48 ≤ x.toNat ∧ x.toNat ≤ 57
    · rw [if_pos c] at h
      have hle2 := dgo_le _ _ _ h
      unfold Lib.parseUint10
      rw [if_pos c, if_neg (by omega), if_neg (by omega), Nat.mul_comm a 10]
      exact parse_dgo r _ m h hm
    · rw [if_neg c] at h; cases h
theorem atoi_itoa {n : Int} (h : -10000000000000000 < n ∧ n < 10000000000000000) : Go.Proofs.YthdpiceiemkjlaaDoor.MRead.atoiN (Lib.itoa n) = (n, true) := by
  have key : ∀ m : Nat, m < 10000000000000000 → Lib.parseMag (Lib.decDigits m) = .ok m := by
    intro m hm
    have hp := parse_dgo _ 0 m (dgo_of_dec m) (by omega)
    have hne := dec_ne m
    generalize Lib.decDigits m = w at hp hne
    cases w with
    | nil => exact absurd rfl hne
    | cons x r => unfold Lib.parseMag; rw [if_neg (by simp)]; exact hp
  unfold Go.Proofs.YthdpiceiemkjlaaDoor.MRead.atoiN
  have e : Lib.atoiAll (Lib.itoa n) = .ok n := by
    unfold Lib.itoa
    by_cases hn : n < 0
    · rw [if_pos hn]
      have hk := key n.natAbs (by omega)
      unfold Lib.atoiAll
      simp only
      rw [if_pos (Or.inr (by rfl)), hk]
      simp only
      rw [if_neg (by simp), if_neg (by omega), if_pos (by rfl)]
      congr 1
      omega
    · rw [if_neg hn]
      have hk := key n.toNat (by omega)
      have hd := dgo_digits _ 0 n.toNat (dgo_of_dec n.toNat)
      cases hw : Lib.decDigits n.toNat with
      | nil => exact absurd hw (dec_ne _)
      | cons x r =>
        have hx := hd x (by rw [hw]; exact List.mem_cons_self)
        rw [hw] at hk
        unfold Lib.atoiAll
        simp only
        rw [if_neg (by omega), hk]
        simp only
        rw [if_neg (by omega), if_neg (by omega), if_neg (by omega)]
        congr 1
        omega
  rw [e]
theorem no_p (n : Int) : (112 : UInt8) ∉ Lib.itoa n := by
  intro hm
  have hdig : ∀ m : Nat, (112 : UInt8) ∉ Lib.decDigits m := by
    intro m hm
    have := dgo_digits _ 0 m (dgo_of_dec m) 112 hm
    exact absurd this.2 (by decide)
  unfold Lib.itoa at hm
  split at hm
  · rcases List.mem_cons.1 hm with q | q
    · exact absurd q (by decide)
    · exact hdig _ q
  · exact hdig _ hm
/-! the two ways -/
theorem spec_miss (l : List UInt8) (hl : l.length ≤ 1048576) (hm : (112 : UInt8) ∉ l ∨ 40 < l.length) : ∀ d i : Nat, i + d = l.length → Ev (fun k => spec_ReadNum.l0 k (bs l) (i : Int)) (0, false)
  | 0, i, h => by
    refine Ev.step (fun k => by simp only [spec_ReadNum.l0, bs_size]; rw [if_neg (by omega)]) ?_
    exact Ev.step (f := fun _ => some (0, false)) (fun k => by simp only [spec_ReadNum.j1]; rw [if_neg (by simp)]) (Ev.now _)
  | d + 1, i, h => by
    have hi : i < l.length := by omega
    have hb := bt_bs l i hi
    refine Ev.step (fun k => by simp only [spec_ReadNum.l0, bs_size]; rw [if_pos (by omega)]) ?_
    by_cases c : (l.length : Int) ≤ 40
    · rw [decide_eq_true c]
      have hne : ¬ bt (bs l) (i : Int) = 112 := by
        rw [hb]
        intro q
        have q2 : l[i] = 112 := UInt8.toNat_inj.1 (by have : (l[i]).toNat = 112 := by omega
                                                      rw [this]; rfl)
        rcases hm with z | z
        · exact z (q2 ▸ List.getElem_mem hi)
        · omega
      refine Ev.step (fun k => ?_) (spec_miss l hl hm d (i + 1) (by omega))
      simp only [spec_ReadNum.j1, bs_size]
      rw [if_pos trivial, if_pos (by omega), if_pos (by omega), if_neg hne, wrap_id (n := (i : Int) + 1) (by omega) (by omega)]
      rfl
    · rw [decide_eq_false c]
      exact Ev.step (f := fun _ => some (0, false)) (fun k => by simp only [spec_ReadNum.j1]; rw [if_neg (by simp)]) (Ev.now _)
theorem spec_hit (a r : List UInt8) (h40 : (a ++ 112 :: r).length ≤ 40) (ha : (112 : UInt8) ∉ a) {R : Nat × Bool}
    (hR : Ev (fun k => if (sgd a).2 = true then (if (sgd r).2 = true then ((spec_NumOf.f k (sgd a).1 (sgd r).1).bind fun bt113 => (some (bt113.1, bt113.2))) else (some (0, false))) else (some (0, false))) R) :
    ∀ d i : Nat, i + d = a.length → Ev (fun k => spec_ReadNum.l0 k (bs (a ++ 112 :: r)) (i : Int)) R
  | 0, i, h => by
    obtain rfl : i = a.length := by omega
    have hi : a.length < (a ++ 112 :: r).length := by simp
    have hb := bt_bs (a ++ 112 :: r) a.length hi
    have hb2 : bt (bs (a ++ 112 :: r)) (a.length : Int) = 112 := by rw [hb]; simp
    have s1 := signed_ev a (by simp at h40; omega)
    have s2 := signed_ev r (by simp at h40; omega)
    have e1 : ((a ++ 112 :: r).take a.length).drop 0 = a := by simp
    have e2 : ((a ++ 112 :: r).take (a ++ 112 :: r).length).drop (a.length + 1) = r := by
      rw [List.take_length, List.drop_append]
      simp
    refine Ev.step (fun k => by simp only [spec_ReadNum.l0, bs_size]; rw [if_pos (by omega), decide_eq_true (by omega)]) ?_
    refine Ev.step (f := fun k => (spec_l1Signed.f k (bs a)).bind fun bt109 => ((spec_l1Signed.f k (bs r)).bind fun bt111 => (if bt109.2 = true then (if bt111.2 = true then ((spec_NumOf.f k bt109.1 bt111.1).bind fun bt113 => (some (bt113.1, bt113.2))) else (some (0, false))) else (some (0, false))))) (fun k => ?_) (Ev.bind s1 (Ev.bind s2 hR))
    have hw : wrap64 ((a.length : Int) + 1) = ((a.length + 1 : Nat) : Int) := by rw [wrap_id] <;> omega
    simp only [spec_ReadNum.j1, bs_size, hb2, hw, Int.toNat_natCast, cut_bs, e1, e2]
    rw [if_pos trivial, if_pos (by omega), if_pos (by omega), if_pos trivial, if_pos (by omega)]
    simp only [if_pos (show (0 : Int) ≤ ((a.length + 1 : Nat) : Int) by omega), if_pos (show ((a.length + 1 : Nat) : Int) ≤ ((a ++ 112 :: r).length : Int) by omega)]
  | d + 1, i, h => by
    have hi : i < (a ++ 112 :: r).length := by simp; omega
    have hb := bt_bs (a ++ 112 :: r) i hi
    have hne : ¬ bt (bs (a ++ 112 :: r)) (i : Int) = 112 := by
      rw [hb]
      intro q
      have e : (a ++ 112 :: r)[i] = a[i] := List.getElem_append_left (by omega)
      rw [e] at q
      have q2 : a[i] = 112 := UInt8.toNat_inj.1 (by have : (a[i]).toNat = 112 := by omega
                                                    rw [this]; rfl)
      exact ha (q2 ▸ List.getElem_mem (by omega))
    refine Ev.step (fun k => by simp only [spec_ReadNum.l0, bs_size]; rw [if_pos (by omega), decide_eq_true (by omega)]) ?_
    refine Ev.step (fun k => ?_) (spec_hit a r h40 ha hR d (i + 1) (by omega))
    simp only [spec_ReadNum.j1, bs_size]
    rw [if_pos trivial, if_pos (by omega), if_pos (by omega), if_neg hne, wrap_id (n := (i : Int) + 1) (by omega) (by omega)]
    rfl
theorem text_lit {x : Nat} {t : List UInt8} (h : ∀ k, impl_NumText.f k x = some (bs t)) (l : List UInt8) (hl : l = t) : Ev (fun k => impl_ReadNum.t k (bs l) x) (x, true) := by
  subst hl
  refine Ev.congr (fun k => ?_) (Ev.now _)
  unfold impl_ReadNum.t
  rw [h, Option.bind_some, if_pos rfl]
theorem nt_kind {x : Nat} (hx : x < 18446744073709551616) (k : Nat) {t : ByteArray} (h : (if kindN x = 0 then some (⟨#[110, 97, 110]⟩ : ByteArray) else if kindN x = 1 then (if flt x 0 = true then some (⟨#[45, 105, 110, 102]⟩ : ByteArray) else some (⟨#[105, 110, 102]⟩ : ByteArray)) else if kindN x = 2 then ((impl_IsMinus.f x).bind fun t148 => (if t148 = true then (some (⟨#[45, 48]⟩ : ByteArray)) else (some (⟨#[48]⟩ : ByteArray)))) else none) = some t) : impl_NumText.f k x = some t := by
  simp only [impl_NumText.f, impl_kind hx, Option.bind_some]
  split at h
  · rename_i c; rw [if_pos c]; exact h
  · rename_i c; rw [if_neg c]
    split at h
    · rename_i c; rw [if_pos c]; exact h
    · rename_i c; rw [if_neg c]
      split at h
      · rename_i c; rw [if_pos c]; exact h
      · cases h
theorem split_unique {b : UInt8} : ∀ {a a' r r' : List UInt8}, b ∉ a → b ∉ a' → a ++ b :: r = a' ++ b :: r' → a = a' ∧ r = r'
  | [], [], r, r', _, _, h => ⟨rfl, by simpa using h⟩
  | [], x :: a', r, r', _, h2, h => by
    simp only [List.nil_append, List.cons_append, List.cons.injEq] at h
    exact absurd (h.1 ▸ List.mem_cons_self) h2
  | x :: a, [], r, r', h1, _, h => by
    simp only [List.nil_append, List.cons_append, List.cons.injEq] at h
    exact absurd (h.1 ▸ List.mem_cons_self) h1
  | x :: a, y :: a', r, r', h1, h2, h => by
    simp only [List.cons_append, List.cons.injEq] at h
    obtain ⟨e1, e2⟩ := split_unique (fun q => h1 (List.mem_cons_of_mem _ q)) (fun q => h2 (List.mem_cons_of_mem _ q)) h.2
    exact ⟨by rw [h.1, e1], e2⟩
theorem t_ev (l : List UInt8) {x u q : Nat} {s : Bool} (h : St x s u q) (hu : u % 2 = 1) (hu1 : u < 9007199254740992) (hq : q < T98) : Ev (fun k => impl_ReadNum.t k (bs l) x) (if Lib.itoa (sgn s u) ++ [112] ++ Lib.itoa ((q : Int) - E74) = l then (x, true) else (0, false)) := by
  have ht := text_st h hu hu1 hq
  unfold impl_ReadNum.t
  refine Ev.bind ht ?_
  rw [tl_bs, tl_bs]
  by_cases c : Lib.itoa (sgn s u) ++ [112] ++ Lib.itoa ((q : Int) - E74) = l
  · simp only [if_pos c]; exact Ev.now _
  · simp only [if_neg c]; exact Ev.now _
/-- What both read, but for the NaN. -/
theorem readnum_same (l : List UInt8) (hl : l.length ≤ 1048576) (hn : l ≠ [110, 97, 110]) : ∃ x b, x < 18446744073709551616 ∧ Ev (fun k => spec_ReadNum.f k (bs l)) (x, b) ∧ Ev (fun k => impl_ReadNum.f k (bs l)) (x, b) := by
  simp only [spec_ReadNum.f, impl_ReadNum.f, tl_bs, bs_size]
  have lit : ∀ t : List UInt8, t.length ≤ 4 → l = t → ¬ (l.length : Int) > 40 := fun t ht e => by rw [e]; omega
  by_cases h1 : l = [105, 110, 102]
  · refine ⟨9218868437227405312, true, by omega, ?_, ?_⟩
    · exact Ev.ite_neg hn (Ev.ite_pos h1 (Ev.ite_pos (by decide +kernel) (Ev.const (by kernel_rfl))))
    · refine Ev.ite_neg (lit _ (by decide) h1) (Ev.ite_neg hn (Ev.ite_pos h1 ?_))
      exact Ev.bind (Ev.const (show math_Inf.f 1 = some 9218868437227405312 from by kernel_rfl)) (text_lit (fun k => nt_kind (by omega) k (by kernel_rfl)) l h1)
  · by_cases h2 : l = [45, 105, 110, 102]
    · refine ⟨18442240474082181120, true, by omega, ?_, ?_⟩
      · exact Ev.ite_neg hn (Ev.ite_neg h1 (Ev.ite_pos h2 (Ev.ite_pos (by decide +kernel) (Ev.const (by kernel_rfl)))))
      · refine Ev.ite_neg (lit _ (by decide) h2) (Ev.ite_neg hn (Ev.ite_neg h1 (Ev.ite_pos h2 ?_)))
        exact Ev.bind (Ev.const (show math_Inf.f (-1) = some 18442240474082181120 from by kernel_rfl)) (text_lit (fun k => nt_kind (by omega) k (by kernel_rfl)) l h2)
    · by_cases h3 : l = [48]
      · refine ⟨0, true, by omega, Ev.ite_neg hn (Ev.ite_neg h1 (Ev.ite_neg h2 (Ev.ite_pos h3 (Ev.now _)))), ?_⟩
        have h4 : ¬ l = [45, 48] := by rw [h3]; decide
        refine Ev.ite_neg (lit _ (by decide) h3) (Ev.ite_neg hn (Ev.ite_neg h1 (Ev.ite_neg h2 (Ev.ite_neg h4 (Ev.ite_pos h3 ?_)))))
        exact text_lit (fun k => nt_kind (by omega) k (by kernel_rfl)) l h3
      · by_cases h4 : l = [45, 48]
        · refine ⟨9223372036854775808, true, by omega, Ev.ite_neg hn (Ev.ite_neg h1 (Ev.ite_neg h2 (Ev.ite_neg h3 (Ev.ite_pos h4 (Ev.const (by kernel_rfl)))))), ?_⟩
          refine Ev.ite_neg (lit _ (by decide) h4) (Ev.ite_neg hn (Ev.ite_neg h1 (Ev.ite_neg h2 (Ev.ite_pos h4 ?_))))
          exact Ev.bind (Ev.const (show math_Copysign.f 0 13830554455654793216 = some 9223372036854775808 from by kernel_rfl)) (text_lit (fun k => nt_kind (by omega) k (by kernel_rfl)) l h4)
        · -- parts
          have hsp : ∀ {R}, Ev (fun k => spec_ReadNum.l0 k (bs l) 0) R → Ev (fun k => if l = [110, 97, 110] then (if fdivOk 0 0 = true then (some (fdiv 0 0, true)) else (none)) else (if l = [105, 110, 102] then (if fdivOk 4607182418800017408 0 = true then (some (fdiv 4607182418800017408 0, true)) else (none)) else (if l = [45, 105, 110, 102] then (if fdivOk 13830554455654793216 0 = true then (some (fdiv 13830554455654793216 0, true)) else (none)) else (if l = [48] then (some (0, true)) else (if l = [45, 48] then (some (fneg 0, true)) else (spec_ReadNum.l0 k (bs l) 0)))))) R := fun h => Ev.ite_neg hn (Ev.ite_neg h1 (Ev.ite_neg h2 (Ev.ite_neg h3 (Ev.ite_neg h4 h))))
          by_cases c40 : (l.length : Int) > 40
          · exact ⟨0, false, by omega, hsp (spec_miss l hl (Or.inr (by omega)) l.length 0 (by omega)), Ev.ite_pos c40 (Ev.now _)⟩
          · have hcut : strings_Cut.f (bs l) (⟨#[112]⟩ : ByteArray) = some (bs (Lib.cut l [112]).1, bs (Lib.cut l [112]).2.1, (Lib.cut l [112]).2.2) := by
              unfold strings_Cut.f
              rw [if_pos (by rw [bs_size]; omega), data_bs]
              rfl
            rw [hcut]
            simp only [Option.bind_some, data_bs]
            rcases index_byte l 112 with ⟨g1, g2⟩ | ⟨a, r, e, g2, g3⟩
            · have hc : Lib.cut l [112] = (l, [], false) := by unfold Lib.cut; rw [if_neg (by omega)]
              rw [hc]
              obtain ⟨y, b, hy, _, hi, _⟩ := num_same' (Go.Proofs.YthdpiceiemkjlaaDoor.MRead.atoiN l).1 (Go.Proofs.YthdpiceiemkjlaaDoor.MRead.atoiN []).1
              refine ⟨0, false, by omega, hsp (spec_miss l hl (Or.inl g2) l.length 0 (by omega)), ?_⟩
              refine Ev.ite_neg c40 (Ev.ite_neg hn (Ev.ite_neg h1 (Ev.ite_neg h2 (Ev.ite_neg h4 (Ev.ite_neg h3 (Ev.bind hi ?_))))))
              have e0 : (Go.Proofs.YthdpiceiemkjlaaDoor.MRead.atoiN []).2 = false := rfl
              rw [e0]
              by_cases q : (Go.Proofs.YthdpiceiemkjlaaDoor.MRead.atoiN l).2 = true
              · exact Ev.ite_pos q (Ev.ite_neg (by simp) (Ev.now _))
              · exact Ev.ite_neg q (Ev.now _)
            · have hc : Lib.cut l [112] = (a, r, true) := by
                rw [e]
                unfold Lib.cut
                rw [← e, if_pos (by omega), g3, e]
                simp
              rw [hc]
              simp only
              obtain ⟨y, b, hy, hs, hi, hb0, hb⟩ := num_same' (Go.Proofs.YthdpiceiemkjlaaDoor.MRead.atoiN a).1 (Go.Proofs.YthdpiceiemkjlaaDoor.MRead.atoiN r).1
              have hhit : ∀ {R}, Ev (fun k => if (sgd a).2 = true then (if (sgd r).2 = true then ((spec_NumOf.f k (sgd a).1 (sgd r).1).bind fun bt113 => (some (bt113.1, bt113.2))) else (some (0, false))) else (some (0, false))) R → Ev (fun k => spec_ReadNum.l0 k (bs l) 0) R := fun h => by
                rw [e]
                exact spec_hit a r (by rw [← e]; omega) g2 h a.length 0 (by omega)
              by_cases hok : (sgd a).2 = true ∧ (sgd r).2 = true
              · obtain ⟨k1, k2⟩ := hok
                obtain ⟨ea, ra⟩ := sgd_ok k1
                obtain ⟨er, rr⟩ := sgd_ok k2
                have ta := atoi_itoa ra
                have tr := atoi_itoa rr
                rw [← ea] at ta
                rw [← er] at tr
                rw [ta, tr] at hs hi hb
                rw [ta, tr]
                simp only at hs hi hb
                refine ⟨y, b, hy, hsp (hhit (Ev.ite_pos k1 (Ev.ite_pos k2 (Ev.bind hs (Ev.now _))))), ?_⟩
                refine Ev.ite_neg c40 (Ev.ite_neg hn (Ev.ite_neg h1 (Ev.ite_neg h2 (Ev.ite_neg h4 (Ev.ite_neg h3 (Ev.bind hi (Ev.ite_pos rfl (Ev.ite_pos rfl ?_))))))))
                cases b with
                | false => rw [hb0 rfl]; exact Ev.ite_neg (by simp) (Ev.now _)
                | true =>
                  obtain ⟨s, u, q, hst, hu, hu1, hq, em, en, _⟩ := hb rfl
                  have ht := t_ev l hst hu hu1 hq
                  rw [← em, ← en, ← ea, ← er, if_pos (by rw [e]; simp)] at ht
                  exact Ev.ite_pos rfl ht
              · have hR : Ev (fun k => if (sgd a).2 = true then (if (sgd r).2 = true then ((spec_NumOf.f k (sgd a).1 (sgd r).1).bind fun bt113 => (some (bt113.1, bt113.2))) else (some (0, false))) else (some (0, false))) ((0, false) : Nat × Bool) := by
                  by_cases k1 : (sgd a).2 = true
                  · exact Ev.ite_pos k1 (Ev.ite_neg (fun k2 => hok ⟨k1, k2⟩) (Ev.now _))
                  · exact Ev.ite_neg k1 (Ev.now _)
                refine ⟨0, false, by omega, hsp (hhit hR), ?_⟩
                refine Ev.ite_neg c40 (Ev.ite_neg hn (Ev.ite_neg h1 (Ev.ite_neg h2 (Ev.ite_neg h4 (Ev.ite_neg h3 (Ev.bind hi ?_))))))
                by_cases q1 : (Go.Proofs.YthdpiceiemkjlaaDoor.MRead.atoiN a).2 = true
                · refine Ev.ite_pos q1 ?_
                  by_cases q2 : (Go.Proofs.YthdpiceiemkjlaaDoor.MRead.atoiN r).2 = true
                  · refine Ev.ite_pos q2 ?_
                    cases b with
                    | false => exact Ev.ite_neg (by simp) (Ev.now _)
                    | true =>
                      obtain ⟨s, u, q, hst, hu, hu1, hq, em, en, hn1, hn2⟩ := hb rfl
                      have ht := t_ev l hst hu hu1 hq
                      rw [← em, ← en] at ht
                      have hne : ¬ Lib.itoa (Go.Proofs.YthdpiceiemkjlaaDoor.MRead.atoiN a).1 ++ [112] ++ Lib.itoa (Go.Proofs.YthdpiceiemkjlaaDoor.MRead.atoiN r).1 = l := by
                        intro z
                        rw [e, List.append_assoc, List.singleton_append] at z
                        obtain ⟨z1, z2⟩ := split_unique (no_p _) g2 z
                        have hm : -10000000000000000 < (Go.Proofs.YthdpiceiemkjlaaDoor.MRead.atoiN a).1 ∧ (Go.Proofs.YthdpiceiemkjlaaDoor.MRead.atoiN a).1 < 10000000000000000 := by
                          rw [em]; unfold sgn; split <;> omega
                        apply hok
                        refine ⟨?_, ?_⟩
                        · rw [← z1, sgd_itoa hm]
                        · rw [← z2, sgd_itoa (by omega)]
                      rw [if_neg hne] at ht
                      exact Ev.ite_pos rfl ht
                  · exact Ev.ite_neg q2 (Ev.now _)
                · exact Ev.ite_neg q1 (Ev.now _)

end Go.Proofs.YthdpiceiemkjlaaDoor.Pure

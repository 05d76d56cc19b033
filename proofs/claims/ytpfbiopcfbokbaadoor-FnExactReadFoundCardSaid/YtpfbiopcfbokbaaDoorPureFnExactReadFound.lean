/- The pure statement of FnExactReadFound: a sign, a colon, and numbers in their one form. -/
import Derived.Test.YtpfbiopcfbokbaaDoorQFnExactReadFound
import Derived.Test.YtpfbiopcfbokbaaDoorMBase
import Derived.KernelRfl
import Derived.Lib.ItoaLen
import Derived.Lib.ItoaMem
import Derived.Lib.AtoiAll
import Derived.Lib.Split
set_option linter.unusedVariables false
set_option linter.unusedSimpArgs false
namespace Go.Proofs.YtpfbiopcfbokbaaDoor.Pure
open Go.RowKit Go.Proofs.YtpfbiopcfbokbaaDoor.GReadFound Go.Proofs.YtpfbiopcfbokbaaDoorW.PrintWords Go.Proofs.YtpfbiopcfbokbaaDoorW.PrintLast Go.Proofs.YtpfbiopcfbokbaaDoorW.PrintMore Go.Proofs.YtpfbiopcfbokbaaDoor.MBase
theorem eqIntS_l0 (xs : List Int) (hx : xs.length ≤ 1048576) : ∀ (d i : Nat), i + d = xs.length → Ev (fun k => laws_eqIntS.l0 k xs xs (i : Int)) true
  | 0, i, h => by
    refine Ev.step (f := fun _ => some true) (fun k => ?_) (Ev.now _)
    simp only [laws_eqIntS.l0]
    rw [if_neg (by omega)]
  | d + 1, i, h => by
    refine Ev.step (fun k => ?_) (eqIntS_l0 xs hx d (i + 1) (by omega))
    simp only [laws_eqIntS.l0]
    rw [if_pos (by omega), if_pos (by omega), if_pos (by omega), if_pos trivial, wrap_id (by omega) (by omega)]
    rfl
theorem eqIntS_ev (xs : List Int) (hx : xs.length ≤ 1048576) : Ev (fun k => laws_eqIntS.f k xs xs) true := by
  refine Ev.congr (fun k => ?_) (eqIntS_l0 xs hx xs.length 0 (by omega))
  simp only [laws_eqIntS.f]
  rw [if_pos trivial]
  rfl
theorem markIntS_l0 (n : Nat) (hn : n ≤ 1048576) : ∀ (d i : Nat) (xs : List Int) (a : Int), i + d = n → xs.length = n → 0 ≤ a → a + (d : Int) ≤ 5000000000000000000 →
    Ev (fun k => laws_markIntS.l0 k xs a (i : Int)) (a + d, xs.take i ++ iota a d)
  | 0, i, xs, a, h, hl, h0, h1 => by
    have e : xs.take i ++ iota a 0 = xs := by rw [List.take_of_length_le (by omega), iota, List.append_nil]
    rw [e]
    refine Ev.step (f := fun _ => some (a, xs)) (fun k => ?_) ⟨0, fun _ _ => by simp⟩
    simp only [laws_markIntS.l0]
    rw [if_neg (by omega)]
  | d + 1, i, xs, a, h, hl, h0, h1 => by
    have ih := markIntS_l0 n hn d (i + 1) (xs.set i a) (a + 1) (by omega) (by simpa using hl) (by omega) (by omega)
    have e : (xs.set i a).take (i + 1) ++ iota (a + 1) d = xs.take i ++ iota a (d + 1) := by
      rw [List.take_succ_eq_append_getElem (by simp; omega), List.getElem_set_self, List.take_set, List.set_eq_of_length_le (by simp; omega), List.append_assoc]
      rfl
    rw [e, show a + 1 + (d : Int) = a + ((d + 1 : Nat) : Int) from by omega] at ih
    refine Ev.step (fun k => ?_) ih
    simp only [laws_markIntS.l0]
    rw [if_pos (by omega), if_pos (by omega), wrap_id (by omega) (by omega), wrap_id (by omega) (by omega)]
    rfl
theorem markIntS_ev (xs : List Int) (a : Int) (hn : xs.length ≤ 1048576) (h0 : 0 ≤ a) (h1 : a ≤ 4611686018427387000) : Ev (fun k => laws_markIntS.f k xs a) (a + xs.length, iota a xs.length) := by
  have h := markIntS_l0 xs.length hn xs.length 0 xs a (by omega) rfl h0 (by omega)
  simp only [List.take_zero, List.nil_append] at h
  exact h
theorem heldIntS_l0 (n : Nat) (hn : n ≤ 1048576) (a : Int) (h0 : 0 ≤ a) (h1 : a ≤ 4611686018427387000) : ∀ (d i : Nat), i + d = n →
    Ev (fun k => laws_heldIntS.l0 k (iota a n) (a + i) (i : Int)) (a + n)
  | 0, i, h => by
    obtain rfl : i = n := by omega
    refine Ev.step (f := fun _ => some (a + (i : Int))) (fun k => ?_) (Ev.now _)
    simp only [laws_heldIntS.l0, iota_length]
    rw [if_neg (by omega)]
  | d + 1, i, h => by
    refine Ev.step (fun k => ?_) (heldIntS_l0 n hn a h0 h1 d (i + 1) (by omega))
    simp only [laws_heldIntS.l0, iota_length]
    rw [if_pos (by omega), if_pos (by omega), if_pos (by rw [rd_nat, iota_getD _ _ _ (by omega)]), wrap_id (by omega) (by omega), wrap_id (by omega) (by omega), show a + (i : Int) + 1 = a + ((i + 1 : Nat) : Int) from by omega]
    rfl
theorem heldIntS_ev (n : Nat) (a : Int) (hn : n ≤ 1048576) (h0 : 0 ≤ a) (h1 : a ≤ 4611686018427387000) : Ev (fun k => laws_heldIntS.f k (iota a n) a) (a + n) := by
  have h := heldIntS_l0 n hn a h0 h1 n 0 (by omega)
  simp only [Int.ofNat_zero, Int.add_zero, Int.natCast_zero] at h
  exact h
/-! ### Texts -/
/-- A text out of its bytes. -/
def bs (l : List UInt8) : ByteArray := ⟨l.toArray⟩
theorem bs_size (l : List UInt8) : (bs l).size = l.length := by simp [bs, ByteArray.size]
theorem cat_bs (a b : List UInt8) : cat (bs a) (bs b) = bs (a ++ b) := by
  apply ByteArray.ext
  show (bs a ++ bs b).data = _
  rw [ByteArray.data_append]
  simp [bs]
theorem catOk_bs {a b : List UInt8} (h : a.length + b.length ≤ 9223372036854775807) : catOk (bs a) (bs b) = true := catOk_of (by rw [bs_size, bs_size]; exact h)
theorem bt_bs (w : List UInt8) (i : Nat) (h : i < w.length) : bt (bs w) (i : Int) = ((w[i]).toNat : Int) := by
  unfold bt
  rw [dif_pos (by rw [bs_size]; simpa using h)]
  rfl
theorem data_bs (w : List UInt8) : (bs w).data.toList = w := by simp [bs]
/-! ### Decimal digits -/
theorem u8_digit (c : UInt8) (h : 48 ≤ c.toNat ∧ c.toNat ≤ 57) : UInt8.ofNat (48 + (c.toNat - 48)) = c := by
  have : 48 + (c.toNat - 48) = c.toNat := by omega
  rw [this]
  exact UInt8.ofNat_toNat
theorem u8_48 {c : UInt8} (h : c.toNat = 48) : c = 48 := UInt8.toNat_inj.1 (by rw [h]; rfl)
theorem of_digit {d : Nat} (h : d < 10) : (UInt8.ofNat (48 + d)).toNat = 48 + d := by
  rw [UInt8.toNat_ofNat']
  omega
theorem dec_snoc (n d : Nat) (hn : 0 < n) (hd : d < 10) : Lib.decDigits (10 * n + d) = Lib.decDigits n ++ [UInt8.ofNat (48 + d)] := by
  have h1 : (10 * n + d) / 10 = n := by omega
  have h2 : (10 * n + d) % 10 = d := by omega
  rw [Lib.decDigits, dif_neg (by omega), h1, h2]
/-- The value of digits behind a value; none where one is no digit. -/
def dgo : Nat → List UInt8 → Option Nat
  | n, [] => some n
  | n, x :: r => if 48 ≤ x.toNat ∧ x.toNat ≤ 57 then dgo (10 * n + (x.toNat - 48)) r else none
theorem dgo_dec : ∀ (r : List UInt8) (n m : Nat), 0 < n → dgo n r = some m → Lib.decDigits m = Lib.decDigits n ++ r
  | [], n, m, _, h => by
    simp only [dgo, Option.some.injEq] at h
    subst h
    simp
  | x :: r, n, m, hn, h => by
    unfold dgo at h
    by_cases c : 48 ≤ x.toNat ∧ x.toNat ≤ 57
    · rw [if_pos c] at h
      rw [dgo_dec r _ m (by omega) h, dec_snoc n (x.toNat - 48) hn (by omega), u8_digit x c, List.append_assoc]
      rfl
    · rw [if_neg c] at h; cases h
theorem dgo_le : ∀ (r : List UInt8) (n m : Nat), dgo n r = some m → n ≤ m
  | [], n, m, h => by simp only [dgo, Option.some.injEq] at h; omega
  | x :: r, n, m, h => by
    unfold dgo at h
    by_cases c : 48 ≤ x.toNat ∧ x.toNat ≤ 57
    · rw [if_pos c] at h
      have := dgo_le r _ m h
      omega
    · rw [if_neg c] at h; cases h
theorem dgo_digits : ∀ (r : List UInt8) (n m : Nat), dgo n r = some m → ∀ x ∈ r, 48 ≤ x.toNat ∧ x.toNat ≤ 57
  | [], _, _, _, x, hx => by cases hx
  | y :: r, n, m, h, x, hx => by
    unfold dgo at h
    by_cases c : 48 ≤ y.toNat ∧ y.toNat ≤ 57
    · rw [if_pos c] at h
      rcases List.mem_cons.1 hx with rfl | hx
      · exact c
      · exact dgo_digits r _ m h x hx
    · rw [if_neg c] at h; cases h
theorem dgo_snoc : ∀ (l : List UInt8) (a m : Nat) (x : UInt8), dgo a l = some m → 48 ≤ x.toNat ∧ x.toNat ≤ 57 → dgo a (l ++ [x]) = some (10 * m + (x.toNat - 48))
  | [], a, m, x, h, hx => by
    simp only [dgo, Option.some.injEq] at h
    subst h
    simp only [List.nil_append, dgo]
    rw [if_pos hx]
  | y :: l, a, m, x, h, hx => by
    unfold dgo at h
    by_cases c : 48 ≤ y.toNat ∧ y.toNat ≤ 57
    · rw [if_pos c] at h
      rw [List.cons_append]
      unfold dgo
      rw [if_pos c]
      exact dgo_snoc l _ m x h hx
    · rw [if_neg c] at h; cases h
theorem dgo_of_dec (n : Nat) : dgo 0 (Lib.decDigits n) = some n := by
  induction n using Nat.strongRecOn with
  | ind n ih =>
    by_cases h : n < 10
    · rw [Lib.decDigits_one h]
      simp only [dgo]
      rw [of_digit h, if_pos (by omega)]
      congr 1
      omega
    · have hd : Lib.decDigits n = Lib.decDigits (n / 10) ++ [UInt8.ofNat (48 + n % 10)] := by rw [Lib.decDigits, dif_neg h]
      have hm : n % 10 < 10 := by omega
      rw [hd, dgo_snoc _ 0 (n / 10) _ (ih (n / 10) (by omega)) (by rw [of_digit hm]; omega), of_digit hm]
      congr 1
      omega
theorem dec_ne (n : Nat) : Lib.decDigits n ≠ [] := by
  rw [Lib.decDigits]
  split <;> simp
theorem dec_head (n : Nat) (h0 : 0 < n) : (Lib.decDigits n).head? ≠ some 48 := by
  induction n using Nat.strongRecOn with
  | ind n ih =>
    by_cases h : n < 10
    · rw [Lib.decDigits_one h]
      intro q
      simp only [List.head?_cons, Option.some.injEq] at q
      have := of_digit h
      rw [q] at this
      have e : (48 : UInt8).toNat = 48 := rfl
      omega
    · have hd : Lib.decDigits n = Lib.decDigits (n / 10) ++ [UInt8.ofNat (48 + n % 10)] := by rw [Lib.decDigits, dif_neg h]
      have ih' := ih (n / 10) (by omega) (by omega)
      rw [hd]
      cases hq : Lib.decDigits (n / 10) with
      | nil => exact absurd hq (dec_ne _)
      | cons y ys => rw [hq] at ih'; simpa using ih'
theorem dec_len3 {n : Nat} (h : n ≤ 999) : (Lib.decDigits n).length ≤ 3 := by
  by_cases h1 : n < 10
  · rw [Lib.decDigits_one h1]; simp
  · by_cases h2 : n < 100
    · rw [Lib.decDigits_two h1 h2]; simp
    · rw [Lib.decDigits, dif_neg h1]
      have h3 : n / 10 < 100 := by omega
      have h4 : ¬ n / 10 < 10 := by omega
      rw [Lib.decDigits_two h4 h3]
      simp
/-- A number in its one form. -/
def oneForm (w : List UInt8) : Option Nat := if w = [] ∨ 16 < w.length ∨ (w.head? = some 48 ∧ 1 < w.length) then none else dgo 0 w
theorem oneForm_dec {w : List UInt8} {m : Nat} (h : oneForm w = some m) : w = Lib.decDigits m := by
  unfold oneForm at h
  split at h
  · cases h
  · rename_i hc
    cases w with
    | nil => exact absurd (Or.inl rfl) hc
    | cons x r =>
      unfold dgo at h
      by_cases c : 48 ≤ x.toNat ∧ x.toNat ≤ 57
      · rw [if_pos c] at h
        by_cases z : x.toNat = 48
        · have hx := u8_48 z
          have hr : r = [] := by
            have : ¬ 1 < (x :: r).length := fun q => hc (Or.inr (Or.inr ⟨by rw [hx]; rfl, q⟩))
            simp only [List.length_cons] at this
            exact List.length_eq_zero_iff.mp (by omega)
          subst hr
          rw [z] at h
          simp only [dgo, Option.some.injEq] at h
          have : m = 0 := by omega
          subst this
          rw [Lib.decDigits_one (by omega), hx]
          rfl
        · have := dgo_dec r _ m (by omega) h
          rw [this, show 10 * 0 + (x.toNat - 48) = x.toNat - 48 by omega, Lib.decDigits_one (by omega), u8_digit x c]
          rfl
      · rw [if_neg c] at h; cases h
theorem oneForm_of {n : Nat} (h : n ≤ 999) : oneForm (Lib.decDigits n) = some n := by
  unfold oneForm
  have hl := dec_len3 h
  rw [if_neg, dgo_of_dec]
  rintro (q | q | ⟨q1, q2⟩)
  · exact dec_ne n q
  · omega
  · by_cases h0 : 0 < n
    · exact dec_head n h0 q1
    · obtain rfl : n = 0 := by omega
      rw [Lib.decDigits_one (by omega)] at q2
      simp at q2
theorem pow_bound {i n : Nat} (hi : i < 16) (h : n < 10 ^ i) : n < 1000000000000000 := by
  have : (10 : Nat) ^ i ≤ 10 ^ 15 := Nat.pow_le_pow_right (by omega) (by omega)
  have e : (10 : Nat) ^ 15 = 1000000000000000 := by decide
  omega
theorem digits_loop (w : List UInt8) (hw : w.length ≤ 16) : ∀ (d i n : Nat), i + d = w.length → n < 10 ^ i → Ev (fun k => spec_l1Digits.l0 k (bs w) (n : Int) (i : Int)) ((dgo n (w.drop i)).elim (-1) (fun m => (m : Int)))
  | 0, i, n, h, _ => by
    rw [List.drop_eq_nil_of_le (by omega)]
    refine Ev.step (f := fun _ => some (n : Int)) (fun k => ?_) (Ev.now _)
    simp only [spec_l1Digits.l0]
    rw [if_neg (by rw [bs_size]; omega)]
  | d + 1, i, n, h, hn => by
    have hi : i < w.length := by omega
    have hb := pow_bound (by omega) hn
    rw [List.drop_eq_getElem_cons hi]
    have hbt := bt_bs w i hi
    unfold dgo
    by_cases c : 48 ≤ (w[i]).toNat ∧ (w[i]).toNat ≤ 57
    · rw [if_pos c]
      refine Ev.step (fun k => ?_) (digits_loop w hw d (i + 1) (10 * n + ((w[i]).toNat - 48)) (by omega) (by rw [Nat.pow_succ]; omega))
      simp only [spec_l1Digits.l0]
      have e : wrap64 ((wrap64 (10 * (n : Int))) + (((((w[i]).toNat : Int)) - 48) % 256)) = ((10 * n + ((w[i]).toNat - 48) : Nat) : Int) := by
        rw [wrap_id (n := 10 * (n : Int)) (by omega) (by omega)]
        rw [wrap_id] <;> omega
      rw [if_pos (by rw [bs_size]; omega), if_pos (by omega), hbt, if_neg (by omega), if_neg (by omega), e, wrap_id (n := (i : Int) + 1) (by omega) (by omega)]
      rfl
    · rw [if_neg c]
      refine Ev.step (f := fun _ => some (-1)) (fun k => ?_) (Ev.now _)
      simp only [spec_l1Digits.l0]
      rw [if_pos (by rw [bs_size]; omega), if_pos (by omega), hbt]
      by_cases c1 : ((w[i]).toNat : Int) < 48
      · rw [if_pos c1]
      · rw [if_neg c1, if_pos (by omega)]
theorem digits_ev (w : List UInt8) : Ev (fun k => spec_l1Digits.f k (bs w)) ((oneForm w).elim (-1) (fun m => (m : Int))) := by
  have hT : Ev (fun k => spec_l1Digits.j0 k (bs w) true) (-1) := Ev.step (f := fun _ => some (-1)) (fun k => by simp only [spec_l1Digits.j0]; rw [if_pos trivial]) (Ev.now _)
  simp only [spec_l1Digits.f, bs_size]
  unfold oneForm
  by_cases h0 : w.length = 0
  · have : w = [] := List.length_eq_zero_iff.mp h0
    rw [if_pos (Or.inl this)]
    exact Ev.ite_pos (by omega) hT
  · refine Ev.ite_neg (by omega) ?_
    by_cases h1 : 16 < w.length
    · rw [if_pos (Or.inr (Or.inl h1))]
      exact Ev.ite_pos (by omega) hT
    · refine Ev.ite_neg (by omega) (Ev.ite_pos (by omega) ?_)
      have hl := digits_loop w (by omega) w.length 0 0 (by omega) (by simp)
      rw [List.drop_zero] at hl
      have hF : Ev (fun k => spec_l1Digits.j0 k (bs w) false) ((dgo 0 w).elim (-1) (fun m => (m : Int))) := Ev.step (fun k => by simp only [spec_l1Digits.j0]; rw [if_neg (by simp)]; rfl) hl
      have hne : w ≠ [] := fun q => h0 (by rw [q]; rfl)
      cases w with
      | nil => exact absurd rfl hne
      | cons x r =>
        have hb := bt_bs (x :: r) 0 (by simp)
        have hb' : bt (bs (x :: r)) 0 = (x.toNat : Int) := hb
        by_cases hx : x.toNat = 48
        · refine Ev.ite_pos (by rw [hb', hx]; rfl) ?_
          by_cases h2 : 1 < (x :: r).length
          · rw [if_pos (Or.inr (Or.inr ⟨by rw [u8_48 hx]; rfl, h2⟩)), decide_eq_true (by omega)]
            exact hT
          · rw [if_neg, decide_eq_false (by omega)]
            · exact hF
            · rintro (q | q | ⟨_, q⟩)
              · exact hne q
              · omega
              · omega
        · refine Ev.ite_neg (by rw [hb']; omega) ?_
          rw [if_neg]
          · exact hF
          · rintro (q | q | ⟨q, _⟩)
            · exact hne q
            · omega
            · simp only [List.head?_cons, Option.some.injEq] at q
              rw [q] at hx
              exact hx rfl
theorem parse_of_dgo : ∀ (l : List UInt8) (a m : Nat), dgo a l = some m → m ≤ 999 → Lib.parseUint10 a l = .ok m
  | [], a, m, h, _ => by
    simp only [dgo, Option.some.injEq] at h
    subst h
    rfl
  | x :: r, a, m, h, hm => by
    have hle := dgo_le _ _ _ h
    unfold dgo at h
    by_cases c : 48 ≤ x.toNat ∧ x.toNat ≤ 57
    · rw [if_pos c] at h
      have hle2 := dgo_le _ _ _ h
      unfold Lib.parseUint10
      rw [if_pos c, if_neg (by omega), if_neg (by omega), Nat.mul_comm a 10]
      exact parse_of_dgo r _ m h hm
    · rw [if_neg c] at h; cases h
theorem atoi_dec {n : Nat} (h : n ≤ 999) : Go.Proofs.YtpfbiopcfbokbaaDoor.MRead.atoiN (Lib.decDigits n) = ((n : Int), true) := by
  have hp := parse_of_dgo _ 0 n (dgo_of_dec n) h
  have hd := dgo_digits _ 0 n (dgo_of_dec n)
  have hne := dec_ne n
  unfold Go.Proofs.YtpfbiopcfbokbaaDoor.MRead.atoiN
  have e : Lib.atoiAll (Lib.decDigits n) = .ok (n : Int) := by
    generalize hw : Lib.decDigits n = w at hp hd hne
    cases w with
    | nil => exact absurd rfl hne
    | cons x r =>
      have hx := hd x List.mem_cons_self
      have hpm : Lib.parseMag (x :: r) = .ok n := by unfold Lib.parseMag; rw [if_neg (by simp)]; exact hp
      unfold Lib.atoiAll
      simp only
      rw [if_neg (by omega), hpm]
      simp only
      rw [if_neg (by omega), if_neg (by omega), if_neg (by omega)]
  rw [e]
theorem read_ok {n : Nat} (h : n ≤ 999) : Go.Proofs.YtpfbiopcfbokbaaDoor.MRead.readN (bs (Lib.decDigits n)) 999 = ((n : Int), true) := by
  unfold Go.Proofs.YtpfbiopcfbokbaaDoor.MRead.readN
  rw [data_bs, atoi_dec h]
  simp only [Lib.itoa_nonneg, decide_true, Bool.and_self, Bool.true_and]
  rw [decide_eq_true (by omega)]
theorem read_bad {w : List UInt8} (h : ∀ n, n ≤ 999 → w ≠ Lib.decDigits n) : (Go.Proofs.YtpfbiopcfbokbaaDoor.MRead.readN (bs w) 999).2 = false := by
  unfold Go.Proofs.YtpfbiopcfbokbaaDoor.MRead.readN
  rw [data_bs]
  generalize Go.Proofs.YtpfbiopcfbokbaaDoor.MRead.atoiN w = q
  cases hb : (q.2 && decide (Lib.itoa q.1 = w) && decide (0 ≤ q.1 ∧ q.1 ≤ 999)) with
  | false => rfl
  | true =>
    simp only [Bool.and_eq_true, decide_eq_true_eq] at hb
    obtain ⟨⟨_, h1⟩, h2⟩ := hb
    exfalso
    apply h q.1.toNat (by omega)
    have e : q.1 = ((q.1.toNat : Nat) : Int) := by omega
    have e2 : Lib.itoa q.1 = Lib.decDigits q.1.toNat := by
      conv => lhs; rw [e]
      rw [Lib.itoa_nonneg]
    rw [← h1, e2]
/-! ### Parts at a byte -/
/-- The parts that a text falls into at a byte; p stands ahead of the first. -/
def gl (b : UInt8) : List UInt8 → List UInt8 → List (List UInt8)
  | p, [] => [p]
  | p, x :: r => if x = b then p :: gl b [] r else gl b (p ++ [x]) r
theorem gl_miss (b : UInt8) : ∀ (l p : List UInt8), b ∉ l → gl b p l = [p ++ l]
  | [], p, _ => by simp [gl]
  | x :: r, p, h => by
    have h1 : x ≠ b := fun e => h (e ▸ List.mem_cons_self)
    unfold gl
    rw [if_neg h1, gl_miss b r _ (fun q => h (List.mem_cons_of_mem _ q)), List.append_assoc]
    rfl
theorem gl_hit (b : UInt8) : ∀ (a p r : List UInt8), b ∉ a → gl b p (a ++ b :: r) = (p ++ a) :: gl b [] r
  | [], p, r, _ => by simp [gl]
  | x :: a, p, r, h => by
    have h1 : x ≠ b := fun e => h (e ▸ List.mem_cons_self)
    rw [List.cons_append]
    conv => lhs; unfold gl
    rw [if_neg h1, gl_hit b a _ r (fun q => h (List.mem_cons_of_mem _ q)), List.append_assoc]
    rfl
theorem gl_pos (b : UInt8) : ∀ (l p : List UInt8), 0 < (gl b p l).length
  | [], p => by simp [gl]
  | x :: r, p => by
    unfold gl
    split
    · simp
    · exact gl_pos b r _
theorem gl_lens (b : UInt8) : ∀ (l p : List UInt8), Lib.lens (gl b p l) + (gl b p l).length = p.length + l.length + 1
  | [], p => by simp [gl, Lib.lens]
  | x :: r, p => by
    unfold gl
    split
    · have := gl_lens b r []
      simp only [Lib.lens, List.map_cons, List.sum_cons, List.length_cons, List.length_nil] at this ⊢
      omega
    · have := gl_lens b r (p ++ [x])
      simp only [List.length_append, List.length_cons, List.length_nil] at this ⊢
      omega
theorem gl_mem (b : UInt8) : ∀ (l p : List UInt8) (x : UInt8), (x ∈ p ∨ x ∈ l) → x ≠ b → ∃ q ∈ gl b p l, x ∈ q
  | [], p, x, h, hx => ⟨p, by simp [gl], by simpa using h⟩
  | y :: r, p, x, h, hx => by
    unfold gl
    split
    · rename_i e
      rcases h with h | h
      · exact ⟨p, List.mem_cons_self, h⟩
      · rcases List.mem_cons.1 h with rfl | h
        · exact absurd e hx
        · obtain ⟨q, h1, h2⟩ := gl_mem b r [] x (Or.inr h) hx
          exact ⟨q, List.mem_cons_of_mem _ h1, h2⟩
    · refine gl_mem b r (p ++ [y]) x ?_ hx
      rcases h with h | h
      · exact Or.inl (List.mem_append_left _ h)
      · rcases List.mem_cons.1 h with rfl | h
        · exact Or.inl (by simp)
        · exact Or.inr h
theorem gl_le (b : UInt8) (l p : List UInt8) : (gl b p l).length ≤ p.length + l.length + 1 := by have := gl_lens b l p; omega
theorem cut_bs (l : List UInt8) (i j : Nat) : cutS (bs l) i j = bs ((l.take j).drop i) := by
  apply ByteArray.ext
  unfold cutS
  rw [ByteArray.data_extract]
  apply Array.toList_inj.1
  rw [Array.toList_extract]
  simp [bs, List.extract_eq_take_drop, List.drop_take]
theorem spec_split (b : UInt8) (l : List UInt8) (hl : l.length ≤ 1048576) : ∀ (d i from_ : Nat) (acc : List ByteArray), i + d = l.length → from_ ≤ i → acc.length ≤ i →
    Ev (fun k => spec_l1Split.l0 k (bs l) (b.toNat : Int) acc (from_ : Int) (i : Int)) (acc ++ (gl b ((l.take i).drop from_) (l.drop i)).map bs)
  | 0, i, from_, acc, h, hf, ha => by
    rw [List.drop_eq_nil_of_le (show l.length ≤ i by omega)]
    refine Ev.step (f := fun _ => some (acc ++ (gl b ((l.take i).drop from_) []).map bs)) (fun k => ?_) (Ev.now _)
    simp only [spec_l1Split.l0, bs_size]
    have e : l.take i = l.take l.length := by rw [List.take_of_length_le (by omega), List.take_of_length_le (by omega)]
    rw [if_neg (by omega), if_pos (by omega), if_pos (by omega), if_pos (by omega), Int.toNat_natCast, cut_bs, e]
    rfl
  | d + 1, i, from_, acc, h, hf, ha => by
    have hi : i < l.length := by omega
    have hbt := bt_bs l i hi
    rw [List.drop_eq_getElem_cons hi]
    unfold gl
    by_cases c : l[i] = b
    · rw [if_pos c]
      have ih := spec_split b l hl d (i + 1) (i + 1) (acc ++ [bs ((l.take i).drop from_)]) (by omega) (by omega) (by simp; omega)
      have e0 : (l.take (i + 1)).drop (i + 1) = [] := List.drop_eq_nil_of_le (by simp; omega)
      rw [e0, List.append_assoc] at ih
      refine Ev.step (fun k => ?_) ih
      simp only [spec_l1Split.l0, bs_size]
      rw [if_pos (by omega), if_pos (by omega), hbt, if_pos (by rw [c]), if_pos (by omega), if_pos (by omega), if_pos (by omega), if_pos (by omega), wrap_id (n := (i : Int) + 1) (by omega) (by omega), Int.toNat_natCast, Int.toNat_natCast, cut_bs]
      rfl
    · rw [if_neg c]
      have ih := spec_split b l hl d (i + 1) from_ acc (by omega) (by omega) (by omega)
      have e : (l.take (i + 1)).drop from_ = (l.take i).drop from_ ++ [l[i]] := by
        have e1 : l.take (i + 1) = l.take i ++ [l[i]] := by rw [List.take_add_one, List.getElem?_eq_getElem hi]; rfl
        rw [e1, List.drop_append_of_le_length (by simp; omega)]
      rw [e] at ih
      refine Ev.step (fun k => ?_) ih
      simp only [spec_l1Split.l0, bs_size]
      rw [if_pos (by omega), if_pos (by omega), hbt, if_neg (fun q => c (UInt8.toNat_inj.1 (by omega))), wrap_id (n := (i : Int) + 1) (by omega) (by omega)]
      rfl
theorem split_ev (b : UInt8) (n : Int) (hn : n = (b.toNat : Int)) (l : List UInt8) (hl : l.length ≤ 1048576) : Ev (fun k => spec_l1Split.f k (bs l) n) ((gl b [] l).map bs) := by
  subst hn
  have h := spec_split b l hl l.length 0 0 [] (by omega) (by omega) (by simp)
  simpa [spec_l1Split.f] using h
/-! what the library's index says of one byte -/
theorem occ_iff (l : List UInt8) (b : UInt8) (i : Nat) : Lib.occAt l [b] i = true ↔ l[i]? = some b := by
  constructor
  · exact fun h => Lib.occAt_head rfl h
  · intro h
    have hi : i < l.length := (List.getElem?_eq_some_iff.1 h).1
    have e : l[i] = b := (List.getElem?_eq_some_iff.1 h).2
    unfold Lib.occAt
    rw [List.drop_eq_getElem_cons hi, e]
    simp [List.isPrefixOf]
theorem index_byte (l : List UInt8) (b : UInt8) : (Lib.index l [b] = -1 ∧ b ∉ l) ∨ ∃ a r, l = a ++ b :: r ∧ b ∉ a ∧ Lib.index l [b] = (a.length : Int) := by
  rcases Lib.index_spec l [b] with ⟨h1, h2⟩ | ⟨i, h1, h2, h3, h4⟩
  · refine Or.inl ⟨h1, fun hm => ?_⟩
    obtain ⟨j, hj, e⟩ := List.getElem_of_mem hm
    have := (occ_iff l b j).2 (by rw [List.getElem?_eq_getElem hj, e])
    rw [h2 j (by omega)] at this
    cases this
  · have hib := (occ_iff l b i).1 h3
    have hi : i < l.length := (List.getElem?_eq_some_iff.1 hib).1
    have e : l[i] = b := (List.getElem?_eq_some_iff.1 hib).2
    refine Or.inr ⟨l.take i, l.drop (i + 1), ?_, fun hm => ?_, by rw [h1, List.length_take]; omega⟩
    · rw [← e, ← List.drop_eq_getElem_cons hi, List.take_append_drop]
    · obtain ⟨j, hj, ej⟩ := List.mem_take_iff_getElem.1 hm
      have := (occ_iff l b j).2 (by rw [List.getElem?_eq_getElem (by omega), ej])
      have h5 := h4 j (by omega)
      rw [h5] at this
      cases this
theorem splitK_gl (b : UInt8) : ∀ (n : Nat) (l : List UInt8), l.length ≤ n → Lib.splitK [b] 0 (Lib.count l [b]) l = gl b [] l ∧ (gl b [] l).length = Lib.count l [b] + 1 := by
  intro n
  induction n with
  | zero =>
    intro l hl
    have : l = [] := List.length_eq_zero_iff.mp (by omega)
    subst this
    have : Lib.count [] [b] = 0 := Lib.count_miss (by rfl)
    rw [this]
    simp [Lib.splitK, gl]
  | succ n ih =>
    intro l hl
    rcases index_byte l b with ⟨h1, h2⟩ | ⟨a, r, rfl, h2, h3⟩
    · rw [Lib.count_miss h1, gl_miss b l [] h2]
      simp [Lib.splitK]
    · have hd : (a ++ b :: r).drop (a.length + [b].length) = r := by simp
      have hc := Lib.count_hit (sub := [b]) (by simp) h3
      rw [hd] at hc
      rw [hc, gl_hit b a [] r h2, Nat.add_comm 1]
      obtain ⟨i1, i2⟩ := ih r (by simp at hl; omega)
      unfold Lib.splitK
      have hne : ¬ (Lib.index (a ++ b :: r) [b] == -1) = true := fun e => by have := beq_iff_eq.1 e; omega
      have ht : (Lib.index (a ++ b :: r) [b]).toNat = a.length := by rw [h3]; rfl
      rw [if_neg hne, ht, hd, i1]
      refine ⟨by simp, by simp only [List.length_cons]; omega⟩
theorem splitL_bs (b : UInt8) (l : List UInt8) : Go.Proofs.YtpfbiopcfbokbaaDoor.MRead.splitL (bs l) (bs [b]) = (gl b [] l).map bs ∧ (gl b [] l).length = Lib.countB (bs l) (bs [b]) + 1 := by
  obtain ⟨h1, h2⟩ := splitK_gl b l.length l (Nat.le_refl _)
  have hd := Lib.splitB_data (bs [b]) 0 (Lib.countB (bs l) (bs [b])) (bs l)
  have e1 : (bs [b]).data.toList = [b] := by simp [bs]
  have e2 : (bs l).data.toList = l := by simp [bs]
  have hcb : Lib.countB (bs l) (bs [b]) = Lib.count l [b] := by unfold Lib.countB; rw [e1, e2]
  rw [e1, e2, hcb, h1] at hd
  refine ⟨?_, by rw [hcb]; exact h2⟩
  unfold Go.Proofs.YtpfbiopcfbokbaaDoor.MRead.splitL
  rw [hcb]
  rw [← hd, List.map_map]
  conv => lhs; rw [← List.map_id (Lib.splitB (bs [b]) 0 (Lib.count l [b]) (bs l))]
  apply List.map_congr_left
  intro x _
  apply ByteArray.ext
  simp [bs]
theorem split_now (b : UInt8) (l : List UInt8) (hl : l.length ≤ 1048576) : strings_Split.f (bs l) (bs [b]) = some ((gl b [] l).map bs) := by
  obtain ⟨h1, h2⟩ := splitL_bs b l
  have h3 := gl_le b l []
  unfold strings_Split.f
  rw [if_pos (by rw [bs_size]; omega), if_pos (by rw [bs_size]; simp), h1, if_pos (by rw [List.length_map]; exact h2), if_pos (by simp only [List.length_nil] at h3; omega)]
theorem l1In_dec (a b c : Int) : spec_l1In.f a b c = some (decide (b ≤ a ∧ a ≤ c)) := by
  unfold spec_l1In.f
  by_cases h : b ≤ a
  · rw [if_pos h]; simp [h]
  · rw [if_neg h]; simp [h]
theorem in_dec (a b c : Int) : impl_in.f a b c = some (decide (b ≤ a ∧ a ≤ c)) := l1In_dec a b c
/-- The numbers that parts tell, where each is one. -/
def nums : List (List UInt8) → Option (List Int)
  | [] => some []
  | w :: r => match oneForm w with
    | some n => if n ≤ 999 then (nums r).map (fun t => (n : Int) :: t) else none
    | none => none
def res (acc : List Int) (o : Option (List Int)) : List Int × Bool := o.elim ([], false) (fun t => (acc ++ t, true))
theorem rdOf_bs (ws : List (List UInt8)) (i : Nat) (h : i < ws.length) : rdOf ByteArray.empty (ws.map bs) (i : Int) = bs ws[i] := by simp [rdOf, h]
theorem spec_nums (ws : List (List UInt8)) (hl : ws.length ≤ 2000000) : ∀ (d i : Nat) (acc : List Int), i + d = ws.length → acc.length ≤ i →
    Ev (fun k => spec_l5List.l0 k acc (ws.map bs) (ws.length : Int) (i : Int)) (res acc (nums (ws.drop i)))
  | 0, i, acc, h, ha => by
    rw [List.drop_eq_nil_of_le (by omega)]
    refine Ev.step (f := fun _ => some (acc, true)) (fun k => ?_) (by simpa [nums, res] using Ev.now (acc, true))
    simp only [spec_l5List.l0]
    rw [if_neg (by omega)]
  | d + 1, i, acc, h, ha => by
    have hi : i < ws.length := by omega
    rw [List.drop_eq_getElem_cons hi]
    have hd := digits_ev ws[i]
    have hst : ∀ k, spec_l5List.l0 (k + 1) acc (ws.map bs) (ws.length : Int) (i : Int) = (spec_l1Digits.f k (bs ws[i])).bind fun t => if decide (0 ≤ t ∧ t ≤ 999) = true then spec_l5List.l0 k (acc ++ [t]) (ws.map bs) (ws.length : Int) ((i + 1 : Nat) : Int) else some ([], false) := by
      intro k
      simp only [spec_l5List.l0, l1In_dec, Option.bind_some]
      rw [if_pos (by omega), if_pos (by omega), if_pos (by rw [List.length_map]; omega), rdOf_bs ws i hi, wrap_id (n := (i : Int) + 1) (by omega) (by omega)]
      congr 1
      funext t
      by_cases c : decide (0 ≤ t ∧ t ≤ 999) = true
      · rw [if_pos c, if_pos c, if_pos (by omega)]; rfl
      · rw [if_neg c, if_neg c]
    unfold nums
    cases hq : oneForm ws[i] with
    | none =>
      rw [hq] at hd
      exact Ev.step hst (Ev.bind hd (Ev.ite_neg (by simp) (Ev.now _)))
    | some n =>
      rw [hq] at hd
      by_cases c : n ≤ 999
      · simp only [if_pos c]
        have ih := spec_nums ws hl d (i + 1) (acc ++ [(n : Int)]) (by omega) (by simp; omega)
        have e : res (acc ++ [(n : Int)]) (nums (ws.drop (i + 1))) = res acc ((nums (ws.drop (i + 1))).map (fun t => (n : Int) :: t)) := by
          cases nums (ws.drop (i + 1)) with
          | none => rfl
          | some t => simp [res]
        rw [e] at ih
        exact Ev.step hst (Ev.bind hd (Ev.ite_pos (decide_eq_true (by simp only [Option.elim]; omega)) ih))
      · simp only [if_neg c]
        exact Ev.step hst (Ev.bind hd (Ev.ite_neg (by rw [decide_eq_true_eq]; show ¬ ((0 : Int) ≤ (n : Int) ∧ (n : Int) ≤ 999); omega) (Ev.now _)))
theorem impl_nums (ws : List (List UInt8)) (hl : ws.length ≤ 2000000) (hs : ∀ w ∈ ws, w.length ≤ 2000000) : ∀ (d i : Nat) (acc : List Int), i + d = ws.length → acc.length ≤ i →
    Ev (fun k => impl_readNumbers.l0 k acc (ws.map bs) (ws.length : Int) (i : Int)) (res acc (nums (ws.drop i)))
  | 0, i, acc, h, ha => by
    rw [List.drop_eq_nil_of_le (by omega)]
    refine Ev.step (f := fun _ => some (acc, true)) (fun k => ?_) (by simpa [nums, res] using Ev.now (acc, true))
    simp only [impl_readNumbers.l0]
    rw [if_neg (by omega)]
  | d + 1, i, acc, h, ha => by
    have hi : i < ws.length := by omega
    rw [List.drop_eq_getElem_cons hi]
    have hst : ∀ k, impl_readNumbers.l0 (k + 1) acc (ws.map bs) (ws.length : Int) (i : Int) = if (Go.Proofs.YtpfbiopcfbokbaaDoor.MRead.readN (bs ws[i]) 999).2 = true then impl_readNumbers.l0 k (acc ++ [(Go.Proofs.YtpfbiopcfbokbaaDoor.MRead.readN (bs ws[i]) 999).1]) (ws.map bs) (ws.length : Int) ((i + 1 : Nat) : Int) else some ([], false) := by
      intro k
      simp only [impl_readNumbers.l0, impl_readNumber.f]
      have hwl := hs _ (List.getElem_mem hi)
      rw [if_pos (by omega), if_pos (by omega), if_pos (by rw [List.length_map]; omega), rdOf_bs ws i hi, if_pos (by rw [bs_size]; omega), Option.bind_some, wrap_id (n := (i : Int) + 1) (by omega) (by omega)]
      by_cases c : (Go.Proofs.YtpfbiopcfbokbaaDoor.MRead.readN (bs ws[i]) 999).2 = true
      · rw [if_pos c, if_pos c, if_pos (by omega)]; rfl
      · rw [if_neg c, if_neg c]
    unfold nums
    have bad : (∀ n, n ≤ 999 → ws[i] ≠ Lib.decDigits n) → Ev (fun k => impl_readNumbers.l0 k acc (ws.map bs) (ws.length : Int) (i : Int)) ([], false) := fun hb => Ev.step hst (Ev.ite_neg (by rw [read_bad hb]; simp) (Ev.now _))
    cases hq : oneForm ws[i] with
    | none =>
      refine bad (fun n hn e => ?_)
      rw [e, oneForm_of hn] at hq
      cases hq
    | some n =>
      by_cases c : n ≤ 999
      · simp only [if_pos c]
        have ih := impl_nums ws hl hs d (i + 1) (acc ++ [(n : Int)]) (by omega) (by simp; omega)
        have e : res (acc ++ [(n : Int)]) (nums (ws.drop (i + 1))) = res acc ((nums (ws.drop (i + 1))).map (fun t => (n : Int) :: t)) := by
          cases nums (ws.drop (i + 1)) with
          | none => rfl
          | some t => simp [res]
        rw [e] at ih
        have hr := read_ok c
        rw [← oneForm_dec hq] at hr
        refine Ev.step hst (Ev.ite_pos (by rw [hr]) ?_)
        rw [hr]
        exact ih
      · simp only [if_neg c]
        refine bad (fun m hm e => ?_)
        rw [e, oneForm_of hm] at hq
        injection hq with hq
        omega
/-- The numbers that a text tells. -/
def listN (l : List UInt8) : List Int × Bool := if l = [] then ([], true) else res [] (nums (gl 44 [] l))
theorem bs_nil (l : List UInt8) : (bs l).toList = ([] : List UInt8) ↔ l = [] := by rw [ByteArray.toList_eq]; simp [bs]
theorem spec_listN (l : List UInt8) (hl : l.length ≤ 1048576) : Ev (fun k => spec_l5List.f k (bs l)) (listN l) := by
  simp only [spec_l5List.f, bs_nil]
  unfold listN
  by_cases h : l = []
  · rw [if_pos h]; exact Ev.ite_pos h (Ev.now _)
  · rw [if_neg h]
    have h3 := gl_le 44 l []
    simp only [List.length_nil] at h3
    have hn := spec_nums (gl 44 [] l) (by omega) (gl 44 [] l).length 0 [] (by omega) (by simp)
    rw [List.drop_zero] at hn
    refine Ev.ite_neg h (Ev.bind (split_ev 44 44 rfl l hl) ?_)
    rw [List.length_map]
    exact hn
theorem piece_le (b : UInt8) (l : List UInt8) (hl : l.length ≤ 1048576) : ∀ w ∈ gl b [] l, w.length ≤ 2000000 := by
  intro w hw
  have h := gl_lens b l []
  have : w.length ≤ Lib.lens (gl b [] l) := by
    generalize gl b [] l = ws at hw
    induction ws with
    | nil => cases hw
    | cons y r ih =>
      simp only [Lib.lens, List.map_cons, List.sum_cons]
      rcases List.mem_cons.1 hw with rfl | hw
      · omega
      · have := ih hw
        simp only [Lib.lens] at this
        omega
  simp only [List.length_nil] at h
  omega
theorem impl_listN (l : List UInt8) (hl : l.length ≤ 1048576) : Ev (fun k => impl_readNumbers.f k (bs l)) (listN l) := by
  simp only [impl_readNumbers.f, bs_nil, Option.bind_some]
  unfold listN
  by_cases h : l = []
  · rw [if_pos h]; exact Ev.ite_pos h (Ev.now _)
  · rw [if_neg h]
    have h3 := gl_le 44 l []
    simp only [List.length_nil] at h3
    have hn := impl_nums (gl 44 [] l) (by omega) (piece_le 44 l hl) (gl 44 [] l).length 0 [] (by omega) (by simp)
    rw [List.drop_zero] at hn
    have e : (⟨#[44]⟩ : ByteArray) = bs [44] := rfl
    refine Ev.ite_neg h ?_
    rw [e]
    refine Ev.congr (fun k => by rw [split_now 44 l hl, Option.bind_some, List.length_map]; rfl) hn
theorem nums_len : ∀ (ws : List (List UInt8)) (xs : List Int), nums ws = some xs → xs.length = ws.length ∧ Lib.lens ws ≤ 3 * ws.length ∧ ∀ w ∈ ws, ∀ x ∈ w, 48 ≤ x.toNat ∧ x.toNat ≤ 57
  | [], xs, h => by
    simp only [nums, Option.some.injEq] at h
    subst h
    exact ⟨rfl, by simp [Lib.lens], fun w hw => by cases hw⟩
  | w :: r, xs, h => by
    unfold nums at h
    cases hq : oneForm w with
    | none => rw [hq] at h; cases h
    | some n =>
      rw [hq] at h
      by_cases c : n ≤ 999
      · simp only [if_pos c] at h
        cases hr : nums r with
        | none => rw [hr] at h; cases h
        | some t =>
          rw [hr] at h
          simp only [Option.map_some, Option.some.injEq] at h
          subst h
          obtain ⟨h1, h2, h3⟩ := nums_len r t hr
          have hw := oneForm_dec hq
          have hl := dec_len3 c
          rw [← hw] at hl
          refine ⟨by simp [h1], by simp only [Lib.lens, List.map_cons, List.sum_cons, List.length_cons] at h2 ⊢; omega, fun v hv => ?_⟩
          rcases List.mem_cons.1 hv with rfl | hv
          · have := dgo_digits _ 0 n (dgo_of_dec n)
            rw [← hw] at this
            exact this
          · exact h3 v hv
      · simp only [if_neg c] at h; cases h
/-- Where numbers are told, the text is short, and has nothing but digits and commas. -/
theorem listN_ok {l : List UInt8} (h : (listN l).2 = true) : l.length ≤ 4 * (listN l).1.length ∧ ∀ x ∈ l, x ≠ 44 → 48 ≤ x.toNat ∧ x.toNat ≤ 57 := by
  unfold listN at h ⊢
  by_cases c : l = []
  · subst c
    exact ⟨by simp, fun x hx => by cases hx⟩
  · rw [if_neg c] at h ⊢
    cases hq : nums (gl 44 [] l) with
    | none => rw [hq] at h; cases h
    | some xs =>
      obtain ⟨h1, h2, h3⟩ := nums_len _ _ hq
      have hg := gl_lens 44 l []
      simp only [List.length_nil] at hg
      refine ⟨?_, fun x hx hne => ?_⟩
      · simp only [res, Option.elim, List.nil_append]
        omega
      · obtain ⟨q, hq1, hq2⟩ := gl_mem 44 l [] x (Or.inr hx) hne
        exact h3 q hq1 x hq2
theorem listN_len (l : List UInt8) (hl : l.length ≤ 1048576) : (listN l).1.length ≤ 1048577 := by
  unfold listN
  split
  · simp
  · have h3 := gl_le 44 l []
    simp only [List.length_nil] at h3
    cases hq : nums (gl 44 [] l) with
    | none => simp [res]
    | some xs =>
      have := (nums_len _ _ hq).1
      simp only [res, Option.elim, List.nil_append]
      omega
theorem listN_len' (l : List UInt8) (hl : l.length < 1048576) : (listN l).1.length ≤ 1048576 := by
  unfold listN
  split
  · simp
  · have h3 := gl_le 44 l []
    simp only [List.length_nil] at h3
    cases hq : nums (gl 44 [] l) with
    | none => simp [res]
    | some xs =>
      have := (nums_len _ _ hq).1
      simp only [res, Option.elim, List.nil_append]
      omega
theorem one_num (d : Nat) (h : d < 10) : strOfNums ([(wrap64 (48 + (d : Int))) % 256] : List Int) = bs [UInt8.ofNat (48 + d)] := by
  have e : (wrap64 (48 + (d : Int))) % 256 = ((48 + d : Nat) : Int) := by rw [wrap_id (by omega) (by omega)]; omega
  rw [e]
  rfl
theorem dec_len (n : Nat) (h : (n : Int) ≤ 9223372036854775807) : (Lib.decDigits n).length ≤ 21 := by
  have := Lib.itoa_length_le (n : Int) (by omega) h
  rwa [Lib.itoa_nonneg] at this
theorem num_text : ∀ (n : Nat), (n : Int) ≤ 9223372036854775807 → Ev (fun k => spec_l1Num.f k (n : Int)) (bs (Lib.decDigits n)) := by
  intro n
  induction n using Nat.strongRecOn with
  | ind n ih =>
    intro hn
    by_cases h : n < 10
    · rw [Lib.decDigits_one h]
      refine Ev.step (f := fun _ => some (bs [UInt8.ofNat (48 + n)])) (fun k => ?_) (Ev.now _)
      simp only [spec_l1Num.f]
      rw [if_pos (by omega), one_num n h]
    · have hd : Lib.decDigits n = Lib.decDigits (n / 10) ++ [UInt8.ofNat (48 + n % 10)] := by rw [Lib.decDigits, dif_neg h]
      have hl := dec_len (n / 10) (by omega)
      refine Ev.step (f := fun k => (spec_l1Num.f k ((n / 10 : Nat) : Int)).bind fun t => (if catOk t (strOfNums ([(wrap64 (48 + ((n % 10 : Nat) : Int))) % 256] : List Int)) = true then (some (cat t (strOfNums ([(wrap64 (48 + ((n % 10 : Nat) : Int))) % 256] : List Int)))) else none)) (fun k => ?_) (Ev.bind (ih (n / 10) (by omega) (by omega)) ?_)
      · simp only [spec_l1Num.f]
        rw [if_neg (by omega)]
        have e1 : wrap64 (Int.tdiv (n : Int) 10) = ((n / 10 : Nat) : Int) := by
          have : Int.tdiv (n : Int) 10 = ((n / 10 : Nat) : Int) := rfl
          rw [this, wrap_id] <;> omega
        have e2 : Int.tmod (n : Int) 10 = ((n % 10 : Nat) : Int) := rfl
        rw [e1, e2]
        rfl
      · rw [one_num (n % 10) (by omega), hd]
        refine Ev.ite_pos (catOk_bs (by simp; omega)) ?_
        rw [cat_bs]
        exact Ev.now _
theorem num_text' (n : Int) (h0 : 0 ≤ n) (h1 : n ≤ 9223372036854775807) : Ev (fun k => spec_l1Num.f k n) (bs (Lib.itoa n)) := by
  obtain ⟨m, rfl⟩ : ∃ m : Nat, n = m := ⟨n.toNat, by omega⟩
  rw [Lib.itoa_nonneg]
  exact num_text m h1
theorem itoa_now (n : Int) (h0 : -9223372036854775808 ≤ n) (h1 : n ≤ 9223372036854775807) : strconv_Itoa.f n = some (bs (Lib.itoa n)) := by
  unfold strconv_Itoa.f
  rw [if_pos h0, if_pos h1]
  rfl
/-! ### Numbers with commas between -/
def listT (l : List Int) : List UInt8 := Lib.join (l.map Lib.itoa) [44]
theorem lens_le (l : List Int) (h : ∀ x ∈ l, -9223372036854775808 ≤ x ∧ x ≤ 9223372036854775807) : Lib.lens (l.map Lib.itoa) ≤ 21 * l.length := by
  induction l with
  | nil => simp [Lib.lens]
  | cons x r ih =>
    have h1 := Lib.itoa_length_le x (h x List.mem_cons_self).1 (h x List.mem_cons_self).2
    have h2 := ih (fun y hy => h y (List.mem_cons_of_mem _ hy))
    simp only [Lib.lens, List.map_cons, List.sum_cons, List.length_cons] at h2 ⊢
    omega
theorem listT_len (l : List Int) (h : ∀ x ∈ l, -9223372036854775808 ≤ x ∧ x ≤ 9223372036854775807) : (listT l).length ≤ 22 * l.length := by
  unfold listT
  cases l with
  | nil => simp [Lib.join_nil]
  | cons x r =>
    rw [List.map_cons, Lib.join_length]
    have := lens_le (x :: r) h
    rw [List.map_cons] at this
    simp only [List.length_map, List.length_cons, List.length_nil] at this ⊢
    omega
theorem joined_step (l : List Int) (i : Nat) (hi : i < l.length) (h0 : 0 < i) : listT (l.take (i + 1)) = listT (l.take i) ++ [44] ++ Lib.itoa (l.getD i 0) := by
  cases l with
  | nil => simp at hi
  | cons x r =>
    obtain ⟨j, rfl⟩ : ∃ j, i = j + 1 := ⟨i - 1, by omega⟩
    simp only [listT, List.take_succ_cons, List.map_cons, Lib.join_cons, List.map_take]
    simp only [List.length_cons] at hi
    have hj : j < r.length := by omega
    rw [Lib.joinTail_take_succ [44] (r.map Lib.itoa) j (Lib.itoa (r.getD j 0)) (by simp [hj])]
    simp only [List.getD_cons_succ, List.append_assoc]
theorem joined_first (l : List Int) (h : 0 < l.length) : listT (l.take 1) = Lib.itoa (l.getD 0 0) := by
  cases l with
  | nil => simp at h
  | cons x r => simp [listT, Lib.join_one]
theorem spec_joined (l : List Int) (hl : l.length ≤ 1048576) (hr : ∀ x ∈ l, 0 ≤ x ∧ x ≤ 9223372036854775807) : ∀ d i : Nat, i + d = l.length → Ev (fun k => spec_l4List.l0 k (bs (listT (l.take i))) l (l.length : Int) (i : Int)) (bs (listT l))
  | 0, i, h => by
    have e : l.take i = l := List.take_of_length_le (by omega)
    rw [e]
    refine Ev.step (f := fun _ => some (bs (listT l))) (fun k => ?_) (Ev.now _)
    simp only [spec_l4List.l0]; rw [if_neg (by omega)]
  | d + 1, i, h => by
    have hil : i < l.length := by omega
    have hr' : ∀ x ∈ l, -9223372036854775808 ≤ x ∧ x ≤ 9223372036854775807 := fun x hx => by have := hr x hx; omega
    have hm : l.getD i 0 ∈ l := by
      have e : l.getD i 0 = l[i] := by simp [hil]
      rw [e]; exact List.getElem_mem hil
    have hx := hr _ hm
    have hxl := Lib.itoa_length_le (l.getD i 0) (by omega) hx.2
    have hacc := listT_len (l.take i) (fun x hx => hr' x (List.mem_of_mem_take hx))
    have htl : (l.take i).length ≤ 1048576 := by simp; omega
    have hn := num_text' (l.getD i 0) hx.1 hx.2
    have ih := spec_joined l hl hr d (i + 1) (by omega)
    by_cases h0 : 0 < i
    · rw [joined_step l i hil h0] at ih
      refine Ev.step (f := fun k => (spec_l1Num.f k (l.getD i 0)).bind fun t => (if catOk (bs (listT (l.take i) ++ [44])) t = true then (spec_l4List.l0 k (cat (bs (listT (l.take i) ++ [44])) t) l (l.length : Int) ((i + 1 : Nat) : Int)) else none)) (fun k => ?_) (Ev.bind hn (Ev.ite_pos (catOk_bs (by simp only [List.length_append, List.length_cons, List.length_nil]; omega)) ?_))
      · simp only [spec_l4List.l0]
        have e44 : (⟨#[44]⟩ : ByteArray) = bs [44] := rfl
        rw [if_pos (by omega), if_pos (by omega), if_pos (by omega), if_pos (by omega), e44, if_pos (catOk_bs (by simp; omega)), cat_bs, rd_nat, wrap_id (n := (i : Int) + 1) (by omega) (by omega)]
        rfl
      · rw [cat_bs]; exact ih
    · obtain rfl : i = 0 := by omega
      rw [joined_first l (by omega)] at ih
      have e0 : listT (l.take 0) = [] := rfl
      rw [e0]
      refine Ev.step (f := fun k => (spec_l1Num.f k (l.getD 0 0)).bind fun t => (if catOk (bs []) t = true then (spec_l4List.l0 k (cat (bs []) t) l (l.length : Int) ((0 + 1 : Nat) : Int)) else none)) (fun k => ?_) (Ev.bind hn (Ev.ite_pos (catOk_bs (by simp only [List.length_append, List.length_cons, List.length_nil]; omega)) ?_))
      · simp only [spec_l4List.l0]
        rw [if_pos (by omega), if_pos (by omega), if_pos (by omega), if_neg (by omega), rd_nat, wrap_id (n := ((0 : Nat) : Int) + 1) (by omega) (by omega)]
        rfl
      · rw [cat_bs]; exact ih
theorem impl_joined (l : List Int) (hl : l.length ≤ 1048576) (hr : ∀ x ∈ l, -9223372036854775808 ≤ x ∧ x ≤ 9223372036854775807) : ∀ d i : Nat, i + d = l.length → Ev (fun k => impl_joinNumbers.l0 k ((l.take i).map fun x => bs (Lib.itoa x)) l (l.length : Int) (i : Int)) (bs (listT l))
  | 0, i, h => by
    have e : l.take i = l := List.take_of_length_le (by omega)
    have hr' : ∀ x ∈ l, -9223372036854775808 ≤ x ∧ x ≤ 9223372036854775807 := fun x hx => by have := hr x hx; omega
    have hlen := listT_len l hr'
    have ej : Lib.join ((l.map fun x => bs (Lib.itoa x)).map (·.data.toList)) ((⟨#[44]⟩ : ByteArray).data.toList) = listT l := by
      unfold listT
      congr 1
      rw [List.map_map]
      apply List.map_congr_left
      intro x _
      simp [bs]
    rw [e]
    refine Ev.step (f := fun _ => some (bs (listT l))) (fun k => ?_) (Ev.now _)
    simp only [impl_joinNumbers.l0, strings_Join.f]
    rw [if_neg (by omega), ej, if_pos (by simp; omega), if_pos (by omega)]
    rfl
  | d + 1, i, h => by
    have hil : i < l.length := by omega
    have hm : l.getD i 0 ∈ l := by
      have e : l.getD i 0 = l[i] := by simp [hil]
      rw [e]; exact List.getElem_mem hil
    have hx := hr _ hm
    have ih := impl_joined l hl hr d (i + 1) (by omega)
    refine Ev.step (fun k => ?_) ih
    simp only [impl_joinNumbers.l0]
    rw [if_pos (by omega), if_pos (by omega), if_pos (by omega), rd_nat, itoa_now _ (by omega) hx.2, Option.bind_some, if_pos (by simp; omega), wrap_id (n := (i : Int) + 1) (by omega) (by omega)]
    have e : (l.take (i + 1)).map (fun x => bs (Lib.itoa x)) = (l.take i).map (fun x => bs (Lib.itoa x)) ++ [bs (Lib.itoa (l.getD i 0))] := by
      have e1 : l.take (i + 1) = l.take i ++ [l[i]] := by rw [List.take_add_one, List.getElem?_eq_getElem hil]; rfl
      have e2 : l.getD i 0 = l[i] := by simp [hil]
      rw [e1, e2, List.map_append]
      rfl
    rw [e]
    rfl
theorem spec_list (l : List Int) (hl : l.length ≤ 1048576) (hr : ∀ x ∈ l, 0 ≤ x ∧ x ≤ 9223372036854775807) : Ev (fun k => spec_l4List.f k l) (bs (listT l)) := spec_joined l hl hr l.length 0 (by omega)
theorem impl_list (l : List Int) (hl : l.length ≤ 1048576) (hr : ∀ x ∈ l, 0 ≤ x ∧ x ≤ 9223372036854775807) : Ev (fun k => impl_joinNumbers.f k l) (bs (listT l)) := impl_joined l hl (fun x hx => by have := hr x hx; omega) l.length 0 (by omega)
theorem impl_listZ (l : List Int) (hl : l.length ≤ 1048576) (hr : ∀ x ∈ l, -9223372036854775808 ≤ x ∧ x ≤ 9223372036854775807) : Ev (fun k => impl_joinNumbers.f k l) (bs (listT l)) := impl_joined l hl hr l.length 0 (by omega)
def inB (lo hi x : Int) : Bool := decide (lo ≤ x ∧ x ≤ hi)
theorem all_loop (lo hi : Int) (xs : List Int) (hx : xs.length ≤ 1048576) : ∀ d i : Nat, i + d = xs.length → Ev (fun k => spec_l1All.l0 k lo hi xs (xs.length : Int) (i : Int)) ((xs.drop i).all (inB lo hi))
  | 0, i, h => by
    rw [List.drop_eq_nil_of_le (by omega)]
    refine Ev.step (f := fun _ => some true) (fun k => ?_) (Ev.now _)
    simp only [spec_l1All.l0]; rw [if_neg (by omega)]
  | d + 1, i, h => by
    have hil : i < xs.length := by omega
    rw [List.drop_eq_getElem_cons hil, List.all_cons]
    have hst : ∀ k, spec_l1All.l0 (k+1) lo hi xs (xs.length : Int) (i : Int) = if inB lo hi xs[i] = true then spec_l1All.l0 k lo hi xs (xs.length : Int) ((i + 1 : Nat) : Int) else some false := by
      intro k
      simp only [spec_l1All.l0, l1In_dec, Option.bind_some]
      rw [if_pos (by omega), if_pos (by omega), if_pos (by omega), rd_nat, wrap_id (n := (i : Int) + 1) (by omega) (by omega)]
      have : xs.getD i 0 = xs[i] := by simp [hil]
      rw [this]
      rfl
    cases hg : inB lo hi xs[i] with
    | true => rw [Bool.true_and]; exact Ev.step hst (Ev.ite_pos hg (all_loop lo hi xs hx d (i + 1) (by omega)))
    | false => rw [Bool.false_and]; exact Ev.step hst (Ev.ite_neg (by simp [hg]) (Ev.now _))
/-! ### What was found, told -/
def okP (l : List Int) : Bool := decide (l.length ≤ 200) && l.all (inB 0 999)
theorem spec_picks (l : List Int) (hl : l.length ≤ 1048576) : Ev (fun k => spec_l4Picks.f k l) (okP l) := by
  simp only [spec_l4Picks.f, spec_l1All.f]
  unfold okP
  by_cases h : l.length ≤ 200
  · rw [decide_eq_true h, Bool.true_and]
    have := all_loop 0 999 l hl l.length 0 (by omega)
    rw [List.drop_zero] at this
    exact Ev.ite_pos (by omega) (Ev.bind this (Ev.now _))
  · rw [decide_eq_false h, Bool.false_and]
    exact Ev.ite_neg (by omega) (Ev.now _)
theorem bad_loop (l : List Int) (hl : l.length ≤ 1048576) : ∀ d i : Nat, i + d = l.length → ∃ n : Int, Ev (fun k => slices_IndexFunc_int_int_impl_arePicks_1.l0 k l (l.length : Int) (i : Int)) n ∧ decide (n ≥ 0) = !((l.drop i).all (inB 0 999))
  | 0, i, h => by
    refine ⟨-1, Ev.step (f := fun _ => some (-1)) (fun k => ?_) (Ev.now _), by rw [List.drop_eq_nil_of_le (by omega)]; rfl⟩
    simp only [slices_IndexFunc_int_int_impl_arePicks_1.l0]; rw [if_neg (by omega)]
  | d + 1, i, h => by
    have hi : i < l.length := by omega
    have hst : ∀ k, slices_IndexFunc_int_int_impl_arePicks_1.l0 (k + 1) l (l.length : Int) (i : Int) = if inB 0 999 l[i] = true then slices_IndexFunc_int_int_impl_arePicks_1.l0 k l (l.length : Int) ((i + 1 : Nat) : Int) else some (i : Int) := by
      intro k
      have er : rd l (i : Int) = l[i] := by rw [rd_nat]; simp [hi]
      simp only [slices_IndexFunc_int_int_impl_arePicks_1.l0, impl_arePicks_1.f, in_dec, Option.bind_some]
      rw [if_pos (by omega), if_pos (by omega), if_pos (by omega), er, wrap_id (n := (i : Int) + 1) (by omega) (by omega)]
      unfold inB
      cases decide (0 ≤ l[i] ∧ l[i] ≤ 999) <;> rfl
    rw [List.drop_eq_getElem_cons hi, List.all_cons]
    cases q : inB 0 999 l[i] with
    | false => exact ⟨(i : Int), Ev.step hst (Ev.ite_neg (by simp [q]) (Ev.now _)), by simp⟩
    | true =>
      obtain ⟨n, h1, h2⟩ := bad_loop l hl d (i + 1) (by omega)
      exact ⟨n, Ev.step hst (Ev.ite_pos q h1), by rw [h2, Bool.true_and]⟩
theorem impl_picks (l : List Int) (hl : l.length ≤ 1048576) : Ev (fun k => impl_arePicks.f k l 200) (okP l) := by
  simp only [impl_arePicks.f, slices_ContainsFunc_int_int_impl_arePicks_1.f, slices_IndexFunc_int_int_impl_arePicks_1.f]
  unfold okP
  by_cases h : l.length ≤ 200
  · rw [decide_eq_true h, Bool.true_and]
    obtain ⟨n, h1, h2⟩ := bad_loop l hl l.length 0 (by omega)
    rw [List.drop_zero] at h2
    refine Ev.ite_pos (by omega) (Ev.bind (Ev.bind h1 (Ev.now _)) ?_)
    rw [h2, Bool.not_not]
    exact Ev.now _
  · rw [decide_eq_false h, Bool.false_and]
    exact Ev.ite_neg (by omega) (Ev.now _)
theorem gl_one (b : UInt8) (l : List UInt8) : decide (((gl b [] l).length : Int) > 1) = decide (b ∈ l) := by
  by_cases h : b ∈ l
  · obtain ⟨a, r, e, ha⟩ : ∃ a r, l = a ++ b :: r ∧ b ∉ a := by
      rcases index_byte l b with ⟨_, h2⟩ | ⟨a, r, e, h2, _⟩
      · exact absurd h h2
      · exact ⟨a, r, e, h2⟩
    have hp := gl_pos b r []
    rw [decide_eq_true h, decide_eq_true_eq, e, gl_hit b a [] r ha, List.length_cons]
    omega
  · rw [decide_eq_false h, gl_miss b l [] h]
    rfl
theorem has_mem (l : List UInt8) : Go.Proofs.YtpfbiopcfbokbaaDoor.MAny.has l = (decide ((58 : UInt8) ∈ l) || decide ((10 : UInt8) ∈ l)) := by
  unfold Go.Proofs.YtpfbiopcfbokbaaDoor.MAny.has
  rw [Bool.eq_iff_iff, List.any_eq_true, Bool.or_eq_true, decide_eq_true_eq, decide_eq_true_eq]
  constructor
  · rintro ⟨x, hx, h⟩
    rw [Bool.or_eq_true, beq_iff_eq, beq_iff_eq] at h
    rcases h with rfl | rfl
    · exact Or.inl hx
    · exact Or.inr hx
  · rintro (h | h)
    · exact ⟨_, h, rfl⟩
    · exact ⟨_, h, rfl⟩
def foundT (s : List UInt8) (l : List Int) : List UInt8 := s ++ [58] ++ listT l
/-- What both give: the text, where it is one. -/
def foundR (s : List UInt8) (l : List Int) : ByteArray × Bool := if (okP l && decide (s.length ≤ 100) && !Go.Proofs.YtpfbiopcfbokbaaDoor.MAny.has s && decide ((foundT s l).length ≤ 600)) = true then (bs (foundT s l), true) else ((⟨#[]⟩ : ByteArray), false)
theorem okP_range {l : List Int} (h : okP l = true) : ∀ x ∈ l, 0 ≤ x ∧ x ≤ 999 := by
  unfold okP at h
  rw [Bool.and_eq_true] at h
  exact fun x hx => of_decide_eq_true (List.all_eq_true.mp h.2 x hx)
theorem spec_found (s : List UInt8) (l : List Int) (hs : s.length ≤ 1048576) (hl : l.length ≤ 1048576) : Ev (fun k => spec_FoundText.f k (bs s) l) (foundR s l) := by
  simp only [spec_FoundText.f, bs_size]
  unfold foundR
  refine Ev.bind (spec_picks l hl) ?_
  cases h1 : okP l with
  | false => exact Ev.ite_neg (by simp) (by simpa using Ev.now ((⟨#[]⟩ : ByteArray), false))
  | true =>
    refine Ev.ite_pos rfl ?_
    rw [Bool.true_and]
    by_cases h2 : s.length ≤ 100
    · rw [decide_eq_true h2, Bool.true_and]
      have s1 := split_ev 58 58 rfl s hs
      have s2 := split_ev 10 10 rfl s hs
      refine Ev.ite_neg (by omega) (Ev.bind s1 ?_)
      rw [has_mem]
      have g1 := gl_one 58 s
      have g2 := gl_one 10 s
      simp only [List.length_map]
      by_cases m1 : (58 : UInt8) ∈ s
      · rw [decide_eq_true m1] at g1 ⊢
        exact Ev.ite_pos (of_decide_eq_true g1) (by simpa using Ev.now ((⟨#[]⟩ : ByteArray), false))
      · rw [decide_eq_false m1] at g1 ⊢
        refine Ev.ite_neg (of_decide_eq_false g1) (Ev.bind s2 ?_)
        simp only [List.length_map]
        by_cases m2 : (10 : UInt8) ∈ s
        · rw [decide_eq_true m2] at g2 ⊢
          exact Ev.ite_pos (of_decide_eq_true g2) (by simpa using Ev.now ((⟨#[]⟩ : ByteArray), false))
        · rw [decide_eq_false m2] at g2 ⊢
          have hr := okP_range h1
          have hll := listT_len l (fun x hx => by have := hr x hx; omega)
          have e58 : (⟨#[58]⟩ : ByteArray) = bs [58] := rfl
          have ht : Ev (fun k => spec_l14Text.f k (bs s) l) (bs (foundT s l)) := by
            simp only [spec_l14Text.f]
            rw [e58]
            refine Ev.ite_pos (catOk_bs (by simp; omega)) (Ev.bind (spec_list l hl (fun x hx => by have := hr x hx; omega)) ?_)
            rw [cat_bs]
            refine Ev.ite_pos (catOk_bs (by simp; omega)) ?_
            rw [cat_bs]
            exact Ev.now _
          refine Ev.ite_neg (of_decide_eq_false g2) (Ev.bind ht ?_)
          rw [bs_size]
          simp only [Bool.or_false, Bool.not_false, Bool.true_and, decide_eq_true_eq]
          by_cases h3 : (foundT s l).length ≤ 600
          · rw [if_pos h3]
            exact Ev.ite_neg (by omega) (Ev.bind ht (Ev.now _))
          · rw [if_neg h3]
            exact Ev.ite_pos (by omega) (Ev.now _)
    · rw [decide_eq_false h2, Bool.false_and]
      exact Ev.ite_pos (by omega) (Ev.now _)
theorem impl_found (s : List UInt8) (l : List Int) (hs : s.length ≤ 1048576) (hl : l.length ≤ 1048576) (hr : ∀ x ∈ l, -9223372036854775808 ≤ x ∧ x ≤ 9223372036854775807) : Ev (fun k => impl_FoundText.f k (bs s) l) (foundR s l) := by
  have hll := listT_len l hr
  have e58 : (⟨#[58]⟩ : ByteArray) = bs [58] := rfl
  have hany : strings_ContainsAny.f (bs s) (⟨#[58, 10]⟩ : ByteArray) = some (Go.Proofs.YtpfbiopcfbokbaaDoor.MAny.has s) := by
    unfold strings_ContainsAny.f
    rw [if_pos rfl, if_pos (by rw [bs_size]; omega), data_bs]
  simp only [impl_FoundText.f, hany, Option.bind_some, bs_size]
  rw [e58]
  refine Ev.ite_pos (catOk_bs (by simp; omega)) (Ev.bind (impl_listZ l hl hr) ?_)
  rw [cat_bs]
  refine Ev.ite_pos (catOk_bs (by simp; omega)) (Ev.bind (impl_picks l hl) ?_)
  rw [cat_bs, bs_size]
  unfold foundR
  cases h1 : okP l with
  | false => exact Ev.ite_neg (by simp) (by simpa using Ev.now ((⟨#[]⟩ : ByteArray), false))
  | true =>
    refine Ev.ite_pos rfl ?_
    rw [Bool.true_and]
    by_cases h2 : s.length ≤ 100
    · rw [decide_eq_true h2, Bool.true_and]
      refine Ev.ite_neg (by omega) ?_
      cases h3 : Go.Proofs.YtpfbiopcfbokbaaDoor.MAny.has s with
      | true => exact Ev.ite_pos rfl (by simpa using Ev.now ((⟨#[]⟩ : ByteArray), false))
      | false =>
        refine Ev.ite_neg (by simp) ?_
        simp only [Bool.not_false, Bool.true_and, decide_eq_true_eq]
        by_cases h4 : (foundT s l).length ≤ 600
        · rw [if_pos h4]
          exact Ev.ite_neg (by unfold foundT at h4; omega) (Ev.now _)
        · rw [if_neg h4]
          exact Ev.ite_pos (by unfold foundT at h4; omega) (Ev.now _)
    · rw [decide_eq_false h2, Bool.false_and]
      exact Ev.ite_pos (by omega) (Ev.now _)
theorem bs_ex (s : ByteArray) : ∃ l : List UInt8, s = bs l := ⟨s.data.toList, by apply ByteArray.ext; simp [bs]⟩
theorem join_cons (p q : List UInt8) (ws : List (List UInt8)) : Lib.join (p :: q :: ws) [44] = p ++ 44 :: Lib.join (q :: ws) [44] := by
  simp [Lib.join, List.intercalate, List.intersperse]
theorem gl_ne (b : UInt8) : ∀ (l p : List UInt8), gl b p l ≠ []
  | l, p => fun h => by have := gl_pos b l p; rw [h] at this; simp at this
theorem join_gl : ∀ (l p : List UInt8), Lib.join (gl 44 p l) [44] = p ++ l
  | [], p => by simp [gl, Lib.join_one]
  | x :: r, p => by
    unfold gl
    by_cases h : x = 44
    · rw [if_pos h]
      have ih := join_gl r []
      cases q : gl 44 [] r with
      | nil => exact absurd q (gl_ne 44 r [])
      | cons y ys =>
        rw [q] at ih
        rw [join_cons, ih, h]
        rfl
    · rw [if_neg h, join_gl r (p ++ [x]), List.append_assoc]
      rfl
theorem nums_itoa : ∀ (ws : List (List UInt8)) (xs : List Int), nums ws = some xs → ws = xs.map Lib.itoa ∧ ∀ x ∈ xs, 0 ≤ x ∧ x ≤ 999
  | [], xs, h => by
    simp only [nums, Option.some.injEq] at h
    subst h
    exact ⟨rfl, fun x hx => by cases hx⟩
  | w :: r, xs, h => by
    unfold nums at h
    cases hq : oneForm w with
    | none => rw [hq] at h; cases h
    | some n =>
      rw [hq] at h
      by_cases c : n ≤ 999
      · simp only [if_pos c] at h
        cases hr : nums r with
        | none => rw [hr] at h; cases h
        | some t =>
          rw [hr] at h
          simp only [Option.map_some, Option.some.injEq] at h
          subst h
          obtain ⟨h1, h2⟩ := nums_itoa r t hr
          refine ⟨?_, fun x hx => ?_⟩
          · rw [List.map_cons, ← h1, oneForm_dec hq, Lib.itoa_nonneg]
          · rcases List.mem_cons.1 hx with rfl | hx
            · omega
            · exact h2 x hx
      · simp only [if_neg c] at h; cases h
/-- Numbers that are told stand in the text as they are. -/
theorem listN_text {r : List UInt8} (h : (listN r).2 = true) : listT (listN r).1 = r ∧ ∀ x ∈ (listN r).1, 0 ≤ x ∧ x ≤ 999 := by
  unfold listN at h ⊢
  by_cases c : r = []
  · rw [if_pos c, c]
    exact ⟨rfl, fun x hx => by cases hx⟩
  · rw [if_neg c] at h ⊢
    cases hq : nums (gl 44 [] r) with
    | none => rw [hq] at h; cases h
    | some xs =>
      obtain ⟨h1, h2⟩ := nums_itoa _ _ hq
      refine ⟨?_, ?_⟩
      · simp only [res, Option.elim, List.nil_append]
        unfold listT
        rw [← h1, join_gl]
        rfl
      · simpa only [res, Option.elim, List.nil_append] using h2
theorem listN_all (r : List UInt8) : ∀ x ∈ (listN r).1, 0 ≤ x ∧ x ≤ 999 := by
  cases h : (listN r).2 with
  | true => exact (listN_text h).2
  | false =>
    intro x hx
    unfold listN at h hx
    by_cases c : r = []
    · rw [if_pos c] at hx; cases hx
    · rw [if_neg c] at h hx
      cases hq : nums (gl 44 [] r) with
      | none => rw [hq] at hx; cases hx
      | some xs => rw [hq] at h; cases h
def none3 : ByteArray × List Int × Bool := ((⟨#[]⟩ : ByteArray), ([] : List Int), false)
theorem read_same (s : List UInt8) (hs : s.length ≤ 1048576) : ∃ r : ByteArray × List Int × Bool, r.2.1.length ≤ 1048576 ∧ Ev (fun k => spec_ReadFound.f k (bs s)) r ∧ Ev (fun k => impl_ReadFound.f k (bs s)) r := by
  have e58 : (⟨#[58]⟩ : ByteArray) = bs [58] := rfl
  have hcut : strings_Cut.f (bs s) (bs [58]) = some (bs (Lib.cut s [58]).1, bs (Lib.cut s [58]).2.1, (Lib.cut s [58]).2.2) := by
    unfold strings_Cut.f
    rw [if_pos (by rw [bs_size]; omega), data_bs, data_bs]
    rfl
  have hsp := split_ev 58 58 rfl s hs
  have hjT : ∀ ws, Ev (fun k => spec_ReadFound.j0 k ws true) none3 := fun ws => Ev.step (f := fun _ => some none3) (fun k => by simp only [spec_ReadFound.j0]; rw [if_pos trivial]; rfl) (Ev.now _)
  simp only [spec_ReadFound.f, impl_ReadFound.f, e58, hcut, Option.bind_some, bs_size]
  rcases index_byte s 58 with ⟨h1, h2⟩ | ⟨a, r, rfl, h2, h3⟩
  · -- no colon
    have hc : Lib.cut s [58] = (s, [], false) := by unfold Lib.cut; rw [if_neg (by omega)]
    have hg : gl 58 [] s = [s] := by rw [gl_miss 58 s [] h2]; rfl
    rw [hg] at hsp
    refine ⟨none3, by simp [none3], Ev.bind hsp (Ev.ite_neg (by simp) (hjT _)), ?_⟩
    rw [hc]
    have hl0 : Ev (fun k => impl_readNumbers.f k (bs [])) ([], true) := impl_listN [] (by simp)
    have hf := impl_found s [] hs (by simp) (fun x hx => by cases hx)
    refine Ev.bind hl0 (Ev.bind hf ?_)
    refine Ev.ite_pos rfl ?_
    by_cases q : (foundR s []).2 = true
    · refine Ev.ite_pos q (Ev.ite_neg ?_ (Ev.now _))
      intro e
      have e2 : foundR s [] = (bs (foundT s []), true) := by
        unfold foundR at q ⊢
        by_cases z : (okP [] && decide (s.length ≤ 100) && !Go.Proofs.YtpfbiopcfbokbaaDoor.MAny.has s && decide ((foundT s []).length ≤ 600)) = true
        · rw [if_pos z]
        · rw [if_neg z] at q; cases q
      rw [e2] at e
      have e3 : foundT s [] = s := by
        have := congrArg (fun l : List UInt8 => l.length) e
        simp only [ByteArray.toList_eq] at e
        simpa [bs] using e
      have e4 := congrArg List.length e3
      simp [foundT] at e4
    · exact Ev.ite_neg q (Ev.now _)
  · have hla : a.length ≤ 1048576 := by simp at hs; omega
    have hlr : r.length ≤ 1048576 := by simp at hs; omega
    have hlr' : r.length < 1048576 := by simp at hs; omega
    have hc : Lib.cut (a ++ 58 :: r) [58] = (a, r, true) := by
      unfold Lib.cut
      rw [if_pos (by omega), h3]
      simp
    have hg : gl 58 [] (a ++ 58 :: r) = a :: gl 58 [] r := by rw [gl_hit 58 a [] r h2]; rfl
    rw [hg] at hsp
    rw [hc]
    have hn := listN_len' r hlr'
    have hall := listN_all r
    have hfi := impl_found a (listN r).1 hla hn (fun x hx => by have := hall x hx; omega)
    have hfs := spec_found a (listN r).1 hla hn
    have hli := impl_listN r hlr
    by_cases q : (58 : UInt8) ∈ r
    · -- two colons
      have hbad : (listN r).2 = false := by
        cases z : (listN r).2 with
        | false => rfl
        | true =>
          have := (listN_ok z).2 58 q (by decide)
          exact absurd this (by decide)
      have hlen : ¬ (((List.map bs (a :: gl 58 [] r)).length : Int) = 2) := by
        rcases index_byte r 58 with ⟨_, z⟩ | ⟨a2, r2, e, z, _⟩
        · exact absurd q z
        · have := gl_pos 58 r2 []
          rw [e, gl_hit 58 a2 [] r2 z]
          simp only [List.length_map, List.length_cons]
          omega
      exact ⟨none3, by simp [none3], Ev.bind hsp (Ev.ite_neg hlen (hjT _)), Ev.bind hli (Ev.bind hfi (Ev.ite_neg (by rw [hbad]; simp) (Ev.now _)))⟩
    · have hg2 : gl 58 [] r = [r] := by rw [gl_miss 58 r [] q]; rfl
      rw [hg2] at hsp
      have hls := spec_listN r hlr
      by_cases h6 : (a ++ 58 :: r).length ≤ 600
      · have hjF : ∀ {x}, Ev (fun k => (spec_l5List.f k (bs r)).bind fun bt151 => ((spec_FoundText.f k (bs a) bt151.1).bind fun bt157 => (if bt151.2 = true then (if bt157.2 = true then (some (bs a, bt151.1, true)) else (some none3)) else (some none3)))) x → Ev (fun k => spec_ReadFound.j0 k (List.map bs [a, r]) false) x := by
          intro x h
          refine Ev.step (fun k => ?_) h
          simp only [spec_ReadFound.j0]
          have hz : (0 : Int) < ((List.map bs [a, r]).length : Int) := by simp
          rw [if_neg (by simp), if_pos (by simp)]
          simp only [if_pos hz]
          rfl
        have hd : decide (((a ++ 58 :: r).length : Int) > 600) = false := decide_eq_false (by omega)
        cases z : (listN r).2 with
        | false =>
          refine ⟨none3, by simp [none3], Ev.bind hsp (Ev.ite_pos rfl ?_), Ev.bind hli (Ev.bind hfi (Ev.ite_neg (by rw [z]; simp) (Ev.now _)))⟩
          rw [hd]
          exact hjF (Ev.bind hls (Ev.bind hfs (Ev.ite_neg (by rw [z]; simp) (Ev.now _))))
        | true =>
          obtain ⟨t1, _⟩ := listN_text z
          by_cases y : (foundR a (listN r).1).2 = true
          · refine ⟨(bs a, (listN r).1, true), hn, Ev.bind hsp (Ev.ite_pos rfl ?_), Ev.bind hli (Ev.bind hfi (Ev.ite_pos z (Ev.ite_pos y (Ev.ite_pos ?_ (Ev.now _)))))⟩
            · rw [hd]
              exact hjF (Ev.bind hls (Ev.bind hfs (Ev.ite_pos z (Ev.ite_pos y (Ev.now _)))))
            · have e2 : foundR a (listN r).1 = (bs (foundT a (listN r).1), true) := by
                unfold foundR at y ⊢
                by_cases zz : (okP (listN r).1 && decide (a.length ≤ 100) && !Go.Proofs.YtpfbiopcfbokbaaDoor.MAny.has a && decide ((foundT a (listN r).1).length ≤ 600)) = true
                · rw [if_pos zz]
                · rw [if_neg zz] at y; cases y
              rw [e2]
              unfold foundT
              rw [t1, List.append_assoc]
              rfl
          · refine ⟨none3, by simp [none3], Ev.bind hsp (Ev.ite_pos rfl ?_), Ev.bind hli (Ev.bind hfi (Ev.ite_pos z (Ev.ite_neg y (Ev.now _))))⟩
            rw [hd]
            exact hjF (Ev.bind hls (Ev.bind hfs (Ev.ite_pos z (Ev.ite_neg y (Ev.now _)))))
      · have hd : decide (((a ++ 58 :: r).length : Int) > 600) = true := decide_eq_true (by omega)
        refine ⟨none3, by simp [none3], Ev.bind hsp (Ev.ite_pos rfl ?_), Ev.bind hli (Ev.bind hfi ?_)⟩
        · rw [hd]; exact hjT _
        · cases z : (listN r).2 with
          | false => exact Ev.ite_neg (by simp) (Ev.now _)
          | true =>
            refine Ev.ite_pos rfl (Ev.ite_neg ?_ (Ev.now _))
            obtain ⟨t1, _⟩ := listN_text z
            have e4 : (foundT a (listN r).1).length = (a ++ 58 :: r).length := by unfold foundT; rw [t1]; simp
            unfold foundR
            rw [e4, decide_eq_false h6, Bool.and_false]
            simp
theorem FnExactReadFound : laws_FnExactReadFound.Pure2 := by
  intro s0 _ hsz
  apply Ev.rounds
  obtain ⟨s, rfl⟩ := bs_ex s0
  simp only [laws_FnExactReadFound.f, bs_size]
  by_cases c : (s.length : Int) > 1048576
  · exact Ev.ite_pos c (Ev.now _)
  · refine Ev.ite_neg c ?_
    obtain ⟨⟨t, xs, b⟩, hx, hS, hI⟩ := read_same s (by omega)
    have he : Ev (fun k => laws_eqFound.f k t xs t xs) true := by
      simp only [laws_eqFound.f]
      exact Ev.ite_pos trivial (Ev.bind (eqIntS_ev xs hx) (Ev.ite_pos rfl (Ev.now _)))
    have hm : Ev (fun k => laws_markFound.f k t xs 1) (1 + xs.length, iota 1 xs.length) := Ev.bind (markIntS_ev xs 1 hx (by omega) (by omega)) (Ev.now _)
    have hh : Ev (fun k => laws_heldFound.f k t (iota 1 xs.length) 1) (1 + (xs.length : Int)) := Ev.bind (heldIntS_ev xs.length 1 hx (by omega) (by omega)) (Ev.ite_neg (by omega) (Ev.now _))
    have hb : (b != b) = false := by simp
    have hj1 : Ev (fun k => laws_FnExactReadFound.j1 k (1 + (xs.length : Int)) (b != b) t (iota 1 xs.length)) true := by
      rw [hb]
      refine Ev.step (fun k => by simp only [laws_FnExactReadFound.j1]; rw [if_neg (by simp)]) ?_
      exact Ev.bind hh (Ev.ite_neg (by omega) (Ev.ite_pos rfl (Ev.now _)))
    have hj0 : Ev (fun k => laws_FnExactReadFound.j0 k (bs s) b (b != b) t xs t xs) true := by
      rw [hb]
      refine Ev.step (fun k => by simp only [laws_FnExactReadFound.j0]; rw [if_neg (by simp)]) ?_
      exact Ev.bind hm (Ev.bind hh (Ev.ite_neg (by omega) (Ev.ite_pos rfl (Ev.bind hI (Ev.bind he (Ev.ite_pos rfl hj1))))))
    exact Ev.bind hS (Ev.bind hI (Ev.bind he (Ev.ite_pos rfl hj0)))

end Go.Proofs.YtpfbiopcfbokbaaDoor.Pure

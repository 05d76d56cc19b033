/- The pure statement of FnExactNewPairs: the pairs that are not had are those that would make the list longer. -/
import Derived.Test.YtpfbiopcfbokbaaQFnExactNewPairs
import Derived.Test.YtpfbiopcfbokbaaMBase
import Derived.KernelRfl
set_option linter.unusedVariables false
set_option linter.unusedSimpArgs false
namespace Go.Proofs.Ytpfbiopcfbokbaa.Pure
open Go.RowKit Go.Proofs.Ytpfbiopcfbokbaa.GNewPairs Go.Proofs.YtpfbiopcfbokbaaW.PrintWords Go.Proofs.YtpfbiopcfbokbaaW.PrintLast Go.Proofs.YtpfbiopcfbokbaaW.PrintMore Go.Proofs.Ytpfbiopcfbokbaa.MBase
/-- A loop that goes on to n with the same result. -/
theorem ev_up {α : Type} (L : Nat → Int → Option α) (n : Nat) (r : α) (hs : ∀ i : Nat, i < n → Ev (fun k => L k ((i + 1 : Nat) : Int)) r → Ev (fun k => L k (i : Int)) r) (he : Ev (fun k => L k (n : Int)) r) :
    ∀ d i : Nat, i + d = n → Ev (fun k => L k (i : Int)) r
  | 0, i, h => by
    have : i = n := by omega
    subst this
    exact he
  | d + 1, i, h => hs i (by omega) (ev_up L n r hs he d (i + 1) (by omega))
/-- A loop that fills a row, place by place. -/
theorem ev_map {α β : Type} (L : Nat → List β → Int → Option (List β)) (xs : List α) (f : α → β) (z : α)
    (hs : ∀ (i : Nat) (acc r : List β), i < xs.length → acc.length = xs.length → Ev (fun k => L k (acc.set i (f (xs.getD i z))) ((i + 1 : Nat) : Int)) r → Ev (fun k => L k acc (i : Int)) r)
    (he : ∀ acc : List β, acc.length = xs.length → Ev (fun k => L k acc (xs.length : Int)) acc) :
    ∀ (d i : Nat) (acc : List β), i + d = xs.length → acc.length = xs.length → Ev (fun k => L k acc (i : Int)) (acc.take i ++ (xs.drop i).map f)
  | 0, i, acc, h, ha => by
    have e : acc.take i ++ (xs.drop i).map f = acc := by rw [List.take_of_length_le (by omega), List.drop_eq_nil_of_le (by omega), List.map_nil, List.append_nil]
    rw [e]
    have : i = xs.length := by omega
    subst this
    exact he acc ha
  | d + 1, i, acc, h, ha => by
    have ih := ev_map L xs f z hs he d (i + 1) (acc.set i (f (xs.getD i z))) (by omega) (by simpa using ha)
    have e : (acc.set i (f (xs.getD i z))).take (i + 1) ++ (xs.drop (i + 1)).map f = acc.take i ++ (xs.drop i).map f := by
      rw [List.take_succ_eq_append_getElem (by simp; omega), List.getElem_set_self, List.take_set, List.set_eq_of_length_le (by simp; omega), List.append_assoc, List.drop_eq_getElem_cons (show i < xs.length by omega), List.map_cons]
      simp [List.getD_eq_getElem?_getD, List.getElem?_eq_getElem (show i < xs.length by omega)]
    rw [e] at ih
    exact hs i acc _ (by omega) ha ih
theorem ev_map_all {α β : Type} (L : Nat → List β → Int → Option (List β)) (xs : List α) (f : α → β) (z : α) (y : β)
    (hs : ∀ (i : Nat) (acc r : List β), i < xs.length → acc.length = xs.length → Ev (fun k => L k (acc.set i (f (xs.getD i z))) ((i + 1 : Nat) : Int)) r → Ev (fun k => L k acc (i : Int)) r)
    (he : ∀ acc : List β, acc.length = xs.length → Ev (fun k => L k acc (xs.length : Int)) acc) :
    Ev (fun k => L k (List.replicate xs.length y) 0) (xs.map f) := by
  have h := ev_map L xs f z hs he xs.length 0 (List.replicate xs.length y) (by omega) (by simp)
  simpa using h
theorem l1In_dec (a b c : Int) : spec_l1In.f a b c = some (decide (b ≤ a ∧ a ≤ c)) := by
  unfold spec_l1In.f
  by_cases h : b ≤ a
  · rw [if_pos h]; simp [h]
  · rw [if_neg h]; simp [h]
theorem in_dec (a b c : Int) : impl_in.f a b c = some (decide (b ≤ a ∧ a ≤ c)) := l1In_dec a b c
/-- The rows of marks that a law writes: n places, each taking c marks. -/
def marksC {α : Type} (m : Int → α) (c : Int) (a : Int) : Nat → List α
  | 0 => []
  | n + 1 => m a :: marksC m c (a + c) n
theorem marksC_length {α : Type} (m : Int → α) (c a : Int) (n : Nat) : (marksC m c a n).length = n := by
  induction n generalizing a with
  | zero => rfl
  | succ n ih => simp [marksC, ih]
theorem marksC_getD {α : Type} (m : Int → α) (z : α) (c a : Int) (n i : Nat) (h : i < n) : (marksC m c a n).getD i z = m (a + c * i) := by
  induction n generalizing a i with
  | zero => omega
  | succ n ih =>
    cases i with
    | zero => simp [marksC]
    | succ i =>
      have := ih (a + c) i (by omega)
      simp only [marksC, List.getD_cons_succ]
      rw [this]
      congr 1
      rw [Int.natCast_add, Int.mul_add]
      simp
      omega
/-- A loop that marks a row: m tells what is written, c how many marks a place takes. -/
theorem ev_mark {α : Type} (L : Nat → List α → Int → Int → Option (Int × List α)) (m : Int → α) (c : Int) (n : Nat) (lim : Int) (hc : 0 ≤ c)
    (hs : ∀ (i : Nat) (xs : List α) (a : Int) (r : Int × List α), i < n → xs.length = n → 0 ≤ a → a + c ≤ lim → Ev (fun k => L k (xs.set i (m a)) (a + c) ((i + 1 : Nat) : Int)) r → Ev (fun k => L k xs a (i : Int)) r)
    (he : ∀ (xs : List α) (a : Int), xs.length = n → Ev (fun k => L k xs a (n : Int)) (a, xs)) :
    ∀ (d i : Nat) (xs : List α) (a : Int), i + d = n → xs.length = n → 0 ≤ a → a + c * (d : Int) ≤ lim → Ev (fun k => L k xs a (i : Int)) (a + c * (d : Int), xs.take i ++ marksC m c a d)
  | 0, i, xs, a, h, hl, h0, h1 => by
    have e : xs.take i ++ marksC m c a 0 = xs := by rw [List.take_of_length_le (by omega), marksC, List.append_nil]
    rw [e]
    have : i = n := by omega
    subst this
    simpa using he xs a hl
  | d + 1, i, xs, a, h, hl, h0, h1 => by
    have hcd : c * ((d + 1 : Nat) : Int) = c + c * (d : Int) := by rw [Int.natCast_add, Int.mul_add]; simp; omega
    have hnn : 0 ≤ c * (d : Int) := Int.mul_nonneg hc (by omega)
    have ih := ev_mark L m c n lim hc hs he d (i + 1) (xs.set i (m a)) (a + c) (by omega) (by simpa using hl) (by omega) (by omega)
    have e : (xs.set i (m a)).take (i + 1) ++ marksC m c (a + c) d = xs.take i ++ marksC m c a (d + 1) := by
      rw [List.take_succ_eq_append_getElem (by simp; omega), List.getElem_set_self, List.take_set, List.set_eq_of_length_le (by simp; omega), List.append_assoc]
      rfl
    rw [e, show a + c + c * (d : Int) = a + c * ((d + 1 : Nat) : Int) from by omega] at ih
    exact hs i xs a _ (by omega) hl h0 (by omega) ih
theorem ev_mark_all {α : Type} (L : Nat → List α → Int → Int → Option (Int × List α)) (m : Int → α) (c : Int) (lim : Int) (hc : 0 ≤ c) (xs : List α)
    (hs : ∀ (i : Nat) (ys : List α) (a : Int) (r : Int × List α), i < xs.length → ys.length = xs.length → 0 ≤ a → a + c ≤ lim → Ev (fun k => L k (ys.set i (m a)) (a + c) ((i + 1 : Nat) : Int)) r → Ev (fun k => L k ys a (i : Int)) r)
    (he : ∀ (ys : List α) (a : Int), ys.length = xs.length → Ev (fun k => L k ys a (xs.length : Int)) (a, ys)) (a : Int) (h0 : 0 ≤ a) (h1 : a + c * (xs.length : Int) ≤ lim) :
    Ev (fun k => L k xs a 0) (a + c * (xs.length : Int), marksC m c a xs.length) := by
  have h := ev_mark L m c xs.length lim hc hs he xs.length 0 xs a (by omega) rfl h0 h1
  simpa using h
/-- A loop that asks whether the marks are held. -/
theorem ev_held (L : Nat → Int → Int → Option Int) (c : Int) (n : Nat) (lim : Int) (a : Int) (hc : 0 ≤ c) (h0 : 0 ≤ a) (h1 : a + c * (n : Int) ≤ lim)
    (hs : ∀ (i : Nat) (r : Int), i < n → a + c * (i : Int) + c ≤ lim → Ev (fun k => L k (a + c * (i : Int) + c) ((i + 1 : Nat) : Int)) r → Ev (fun k => L k (a + c * (i : Int)) (i : Int)) r)
    (he : Ev (fun k => L k (a + c * (n : Int)) (n : Int)) (a + c * (n : Int))) :
    ∀ (d i : Nat), i + d = n → Ev (fun k => L k (a + c * (i : Int)) (i : Int)) (a + c * (n : Int))
  | 0, i, h => by
    have : i = n := by omega
    subst this
    exact he
  | d + 1, i, h => by
    have e : c * ((i + 1 : Nat) : Int) = c * (i : Int) + c := by rw [Int.natCast_add, Int.mul_add]; simp
    have ih := ev_held L c n lim a hc h0 h1 hs he d (i + 1) (by omega)
    rw [e, ← Int.add_assoc] at ih
    have hle : c * ((i + 1 : Nat) : Int) ≤ c * (n : Int) := Int.mul_le_mul_of_nonneg_left (by omega) hc
    exact hs i _ (by omega) (by omega) ih
theorem ev_held_all (L : Nat → Int → Int → Option Int) (c : Int) (n : Nat) (lim : Int) (a : Int) (hc : 0 ≤ c) (h0 : 0 ≤ a) (h1 : a + c * (n : Int) ≤ lim)
    (hs : ∀ (i : Nat) (r : Int), i < n → a + c * (i : Int) + c ≤ lim → Ev (fun k => L k (a + c * (i : Int) + c) ((i + 1 : Nat) : Int)) r → Ev (fun k => L k (a + c * (i : Int)) (i : Int)) r)
    (he : Ev (fun k => L k (a + c * (n : Int)) (n : Int)) (a + c * (n : Int))) : Ev (fun k => L k a 0) (a + c * (n : Int)) := by
  have h := ev_held L c n lim a hc h0 h1 hs he n 0 (by omega)
  simpa using h
def eqb (x y : S105) : Bool := x.f0 == y.f0 && (x.f1 == y.f1 && x.f2 == y.f2)
theorem eqb_comm (x y : S105) : eqb x y = eqb y x := by
  unfold eqb
  rw [Bool.beq_comm (a := x.f0), Bool.beq_comm (a := x.f1), Bool.beq_comm (a := x.f2)]
def has (l : List S105) (x : S105) : Bool := l.any (eqb x)
theorem rd105 (xs : List S105) (i : Nat) (h : i < xs.length) : rd_T105 xs (i : Int) = xs[i] := by simp [rd_T105, h]
theorem rd107 (xs : List S107) (i : Nat) (h : i < xs.length) : rd_T107 xs (i : Int) = xs[i] := by simp [rd_T107, h]
/-! ### what is good -/
def goodP (x : S105) : Bool := decide ((0 ≤ x.f0 ∧ x.f0 ≤ 99) ∧ (0 ≤ x.f1 ∧ x.f1 ≤ 999) ∧ (0 ≤ x.f2 ∧ x.f2 ≤ 999))
def key (x : S105) : Int := x.f0 * 1000000 + x.f1 * 1000 + x.f2
theorem spec_pair (x : S105) : spec_l11Pair.f x.f0 x.f1 x.f2 = some (goodP x) := by
  simp only [spec_l11Pair.f, l1In_dec, Option.bind_some, goodP]
  by_cases h0 : 0 ≤ x.f0 ∧ x.f0 ≤ 99 <;> by_cases h1 : 0 ≤ x.f1 ∧ x.f1 ≤ 999 <;> simp [h0, h1]
theorem impl_pair (x : S105) : impl_Pair_isGood.f x.f0 x.f1 x.f2 = some (goodP x) := by
  simp only [impl_Pair_isGood.f, in_dec, Option.bind_some, goodP]
  by_cases h0 : 0 ≤ x.f0 ∧ x.f0 ≤ 99 <;> by_cases h1 : 0 ≤ x.f1 ∧ x.f1 ≤ 999 <;> simp [h0, h1]
theorem spec_key (x : S105) (h : goodP x = true) : spec_l11Key.f x.f0 x.f1 x.f2 = some (key x) := by
  have h := of_decide_eq_true h
  simp only [spec_l11Key.f, key]
  rw [wrap_id (n := x.f0 * 1000000) (by omega) (by omega), wrap_id (n := x.f1 * 1000) (by omega) (by omega), wrap_id (n := x.f0 * 1000000 + x.f1 * 1000) (by omega) (by omega), wrap_id (by omega) (by omega)]
def cmpI (a b : Int) : Int := if a < b then -1 else if a > b then 1 else 0
theorem cmp_ev (a b : Int) : cmp_Compare_int.f a b = some (cmpI a b) := by
  simp only [cmp_Compare_int.f, cmp_isNaN_int.f, Option.bind_some, cmpI, bne_self_eq_false, Bool.false_eq_true, if_false]
  split
  · rfl
  · split <;> rfl
def orI (p q r : Int) : Int := if p = 0 then (if q = 0 then (if r = 0 then 0 else r) else q) else p
theorem or_ev (p q r : Int) : Ev (fun k => cmp_Or_int.f k [p, q, r]) (orI p q r) := by
  simp only [cmp_Or_int.f]
  have e1 : wrap64 (0 + 1) = 1 := (wrap_id (by omega) (by omega)).trans (by omega)
  have e2 : wrap64 (1 + 1) = 2 := (wrap_id (by omega) (by omega)).trans (by omega)
  have e3 : wrap64 (2 + 1) = 3 := (wrap_id (by omega) (by omega)).trans (by omega)
  have s3 : Ev (fun k => cmp_Or_int.l0 k 0 [p, q, r] (([p, q, r] : List Int).length : Int) 3) 0 := Ev.step (f := fun _ => some 0) (fun k => by simp only [cmp_Or_int.l0]; rw [if_neg (by simp)]) (Ev.now _)
  have s2 : Ev (fun k => cmp_Or_int.l0 k 0 [p, q, r] (([p, q, r] : List Int).length : Int) 2) (if r = 0 then 0 else r) := by
    refine Ev.step (f := fun k => if r = 0 then cmp_Or_int.l0 k 0 [p, q, r] (([p, q, r] : List Int).length : Int) 3 else some r) (fun k => ?_) ?_
    · simp only [cmp_Or_int.l0]
      rw [if_pos (by simp), if_pos (by decide), if_pos (by simp), e3]
      rfl
    · by_cases c : r = 0
      · rw [if_pos c]; exact Ev.ite_pos c s3
      · rw [if_neg c]; exact Ev.ite_neg c (Ev.now _)
  have s1 : Ev (fun k => cmp_Or_int.l0 k 0 [p, q, r] (([p, q, r] : List Int).length : Int) 1) (if q = 0 then (if r = 0 then 0 else r) else q) := by
    refine Ev.step (f := fun k => if q = 0 then cmp_Or_int.l0 k 0 [p, q, r] (([p, q, r] : List Int).length : Int) 2 else some q) (fun k => ?_) ?_
    · simp only [cmp_Or_int.l0]
      rw [if_pos (by simp), if_pos (by decide), if_pos (by simp), e2]
      rfl
    · by_cases c : q = 0
      · rw [if_pos c]; exact Ev.ite_pos c s2
      · rw [if_neg c]; exact Ev.ite_neg c (Ev.now _)
  refine Ev.step (f := fun k => if p = 0 then cmp_Or_int.l0 k 0 [p, q, r] (([p, q, r] : List Int).length : Int) 1 else some p) (fun k => ?_) ?_
  · simp only [cmp_Or_int.l0]
    rw [if_pos (by simp), if_pos (by decide), if_pos (by simp), e1]
    rfl
  · unfold orI
    by_cases c : p = 0
    · rw [if_pos c]; exact Ev.ite_pos c s1
    · rw [if_neg c]; exact Ev.ite_neg c (Ev.now _)
theorem order_ev (x y : S105) : Ev (fun k => impl_Pair_order.f k x.f0 x.f1 x.f2 y.f0 y.f1 y.f2) (orI (cmpI x.f0 y.f0) (cmpI x.f1 y.f1) (cmpI x.f2 y.f2)) := by
  simp only [impl_Pair_order.f, cmp_ev, Option.bind_some]
  exact Ev.bind (or_ev _ _ _) (Ev.now _)
theorem order_key (x y : S105) (hx : goodP x = true) (hy : goodP y = true) : (orI (cmpI x.f0 y.f0) (cmpI x.f1 y.f1) (cmpI x.f2 y.f2) ≥ 0) ↔ key x ≥ key y := by
  have hx := of_decide_eq_true hx
  have hy := of_decide_eq_true hy
  unfold orI cmpI key
  by_cases a0 : x.f0 < y.f0
  · simp only [if_pos a0]
    constructor
    · intro h; rw [if_neg (by decide)] at h; omega
    · intro h; omega
  · simp only [if_neg a0]
    by_cases b0 : x.f0 > y.f0
    · simp only [if_pos b0]
      constructor
      · intro h; omega
      · intro h; rw [if_neg (by decide)]; decide
    · simp only [if_neg b0, if_true]
      by_cases a1 : x.f1 < y.f1
      · simp only [if_pos a1]
        constructor
        · intro h; rw [if_neg (by decide)] at h; omega
        · intro h; omega
      · simp only [if_neg a1]
        by_cases b1 : x.f1 > y.f1
        · simp only [if_pos b1]
          constructor
          · intro h; omega
          · intro h; rw [if_neg (by decide)]; decide
        · simp only [if_neg b1, if_true]
          by_cases a2 : x.f2 < y.f2
          · simp only [if_pos a2]
            constructor
            · intro h; rw [if_neg (by decide)] at h; omega
            · intro h; omega
          · simp only [if_neg a2]
            by_cases b2 : x.f2 > y.f2
            · simp only [if_pos b2]
              constructor
              · intro h; omega
              · intro h; rw [if_neg (by decide)]; decide
            · simp only [if_neg b2, if_true]
              constructor
              · intro h; omega
              · intro h; decide
/-! ### what is rising -/
def risR (xs : List S105) : Nat → Nat → Bool
  | 0, _ => decide ((xs.length : Int) ≤ 200)
  | d + 1, i => if goodP (xs.getD i z105) = true then (if 0 < i ∧ key (xs.getD (i - 1) z105) ≥ key (xs.getD i z105) then false else risR xs d (i + 1)) else false
theorem getD105 (xs : List S105) (i : Nat) (h : i < xs.length) : xs.getD i z105 = xs[i] := by simp [h]
theorem spec_ris (xs : List S105) (hx : xs.length ≤ 1048576) : ∀ d i : Nat, i + d = xs.length → (0 < i → goodP (xs.getD (i - 1) z105) = true) → Ev (fun k => spec_l11Rising.l0 k xs xs (xs.length : Int) (i : Int)) (risR xs d i)
  | 0, i, h, _ => by
    refine Ev.step (f := fun _ => some (decide ((xs.length : Int) ≤ 200))) (fun k => ?_) (Ev.now _)
    simp only [spec_l11Rising.l0]; rw [if_neg (by omega)]
  | d + 1, i, h, hp => by
    have hi : i < xs.length := by omega
    unfold risR
    rw [getD105 xs i hi]
    have h0 : ∀ k, spec_l11Rising.l0 (k + 1) xs xs (xs.length : Int) (i : Int) = if goodP xs[i] = true then (if (i : Int) > 0 then (if 0 ≤ (i : Int) - 1 then (if (i : Int) - 1 < (xs.length : Int) then ((spec_l11Key.f ((rd_T105 xs ((i : Int) - 1)).f0) ((rd_T105 xs ((i : Int) - 1)).f1) ((rd_T105 xs ((i : Int) - 1)).f2)).bind fun t114 => ((spec_l11Key.f (xs[i]).f0 (xs[i]).f1 (xs[i]).f2).bind fun t115 => (if t114 ≥ t115 then (some false) else (spec_l11Rising.l0 k xs xs (xs.length : Int) ((i + 1 : Nat) : Int))))) else none) else none) else spec_l11Rising.l0 k xs xs (xs.length : Int) ((i + 1 : Nat) : Int)) else some false := by
      intro k
      simp only [spec_l11Rising.l0]
      rw [if_pos (by omega), if_pos (by omega), if_pos (by omega), rd105 xs i hi, spec_pair, Option.bind_some, wrap_id (n := (i : Int) - 1) (by omega) (by omega), wrap_id (n := (i : Int) + 1) (by omega) (by omega)]
      rfl
    cases hg : goodP xs[i] with
    | false => rw [if_neg (by simp)]; exact Ev.step h0 (Ev.ite_neg (by simp [hg]) (Ev.now _))
    | true =>
      rw [if_pos rfl]
      have ih := spec_ris xs hx d (i + 1) (by omega) (fun _ => by rw [Nat.add_sub_cancel, getD105 xs i hi]; exact hg)
      by_cases hz : 0 < i
      · have hq := hp hz
        have hpr : rd_T105 xs ((i : Int) - 1) = xs.getD (i - 1) z105 := by
          rw [show (i : Int) - 1 = ((i - 1 : Nat) : Int) by omega]; simp [rd_T105]
        refine Ev.step h0 (Ev.ite_pos hg (Ev.ite_pos (by omega) (Ev.ite_pos (by omega) (Ev.ite_pos (by omega) ?_))))
        rw [hpr, spec_key _ hq, spec_key _ hg]
        refine Ev.bind (Ev.now _) (Ev.bind (Ev.now _) ?_)
        by_cases c : key (xs.getD (i - 1) z105) ≥ key xs[i]
        · rw [if_pos ⟨hz, c⟩]; exact Ev.ite_pos c (Ev.now _)
        · rw [if_neg (fun h => c h.2)]; exact Ev.ite_neg c ih
      · rw [if_neg (fun h => hz h.1)]
        exact Ev.step h0 (Ev.ite_pos hg (Ev.ite_neg (by omega) ih))
theorem impl_ris (xs : List S105) (hx : xs.length ≤ 1048576) : ∀ d i : Nat, i + d = xs.length → (0 < i → goodP (xs.getD (i - 1) z105) = true) → Ev (fun k => impl_areRising.l0 k xs xs (xs.length : Int) (i : Int)) (risR xs d i)
  | 0, i, h, _ => by
    refine Ev.step (f := fun _ => some (decide ((xs.length : Int) ≤ 200))) (fun k => ?_) (Ev.now _)
    simp only [impl_areRising.l0]; rw [if_neg (by omega)]
  | d + 1, i, h, hp => by
    have hi : i < xs.length := by omega
    unfold risR
    rw [getD105 xs i hi]
    have h0 : ∀ k, impl_areRising.l0 (k + 1) xs xs (xs.length : Int) (i : Int) = if goodP xs[i] = true then (if (i : Int) > 0 then (if 0 ≤ (i : Int) - 1 then (if (i : Int) - 1 < (xs.length : Int) then ((impl_Pair_order.f k ((rd_T105 xs ((i : Int) - 1)).f0) ((rd_T105 xs ((i : Int) - 1)).f1) ((rd_T105 xs ((i : Int) - 1)).f2) (xs[i]).f0 (xs[i]).f1 (xs[i]).f2).bind fun t114 => (if t114 ≥ 0 then (some false) else (impl_areRising.l0 k xs xs (xs.length : Int) ((i + 1 : Nat) : Int)))) else none) else none) else impl_areRising.l0 k xs xs (xs.length : Int) ((i + 1 : Nat) : Int)) else some false := by
      intro k
      simp only [impl_areRising.l0]
      rw [if_pos (by omega), if_pos (by omega), if_pos (by omega), rd105 xs i hi, impl_pair, Option.bind_some, wrap_id (n := (i : Int) - 1) (by omega) (by omega), wrap_id (n := (i : Int) + 1) (by omega) (by omega)]
      rfl
    cases hg : goodP xs[i] with
    | false => rw [if_neg (by simp)]; exact Ev.step h0 (Ev.ite_neg (by simp [hg]) (Ev.now _))
    | true =>
      rw [if_pos rfl]
      have ih := impl_ris xs hx d (i + 1) (by omega) (fun _ => by rw [Nat.add_sub_cancel, getD105 xs i hi]; exact hg)
      by_cases hz : 0 < i
      · have hq := hp hz
        have hpr : rd_T105 xs ((i : Int) - 1) = xs.getD (i - 1) z105 := by
          rw [show (i : Int) - 1 = ((i - 1 : Nat) : Int) by omega]; simp [rd_T105]
        refine Ev.step h0 (Ev.ite_pos hg (Ev.ite_pos (by omega) (Ev.ite_pos (by omega) (Ev.ite_pos (by omega) ?_))))
        rw [hpr]
        refine Ev.bind (order_ev _ _) ?_
        by_cases c : key (xs.getD (i - 1) z105) ≥ key xs[i]
        · rw [if_pos ⟨hz, c⟩]; exact Ev.ite_pos ((order_key _ _ hq hg).2 c) (Ev.now _)
        · rw [if_neg (fun h => c h.2)]; exact Ev.ite_neg (fun h => c ((order_key _ _ hq hg).1 h)) ih
      · rw [if_neg (fun h => hz h.1)]
        exact Ev.step h0 (Ev.ite_pos hg (Ev.ite_neg (by omega) ih))
def ris (xs : List S105) : Bool := risR xs xs.length 0
theorem ris_len (xs : List S105) : ∀ d i : Nat, risR xs d i = true → xs.length ≤ 200
  | 0, i, h => by have := of_decide_eq_true h; omega
  | d + 1, i, h => by
    unfold risR at h
    split at h
    · split at h
      · cases h
      · exact ris_len xs d (i + 1) h
    · cases h
/-! ### the pairs -/
theorem index_ev (l : List S105) (hl : l.length ≤ 1048576) (x : S105) : ∀ d i : Nat, i + d = l.length → ∃ r : Int, Ev (fun k => impl_Pair_125.l0 k l (l.length : Int) (i : Int) x.f0 x.f1 x.f2) r ∧ decide (r ≥ 0) = has (l.drop i) x
  | 0, i, h => by
    refine ⟨-1, Ev.step (f := fun _ => some (-1)) (fun k => ?_) (Ev.now _), ?_⟩
    · simp only [impl_Pair_125.l0]; rw [if_neg (by omega)]
    · rw [List.drop_eq_nil_of_le (by omega)]; rfl
  | d + 1, i, h => by
    have hi : i < l.length := by omega
    have h0 : ∀ k, impl_Pair_125.l0 (k + 1) l (l.length : Int) (i : Int) x.f0 x.f1 x.f2 = if eqb x l[i] = true then some (i : Int) else impl_Pair_125.l0 k l (l.length : Int) ((i + 1 : Nat) : Int) x.f0 x.f1 x.f2 := by
      intro k
      simp only [impl_Pair_125.l0]
      rw [if_pos (by omega), if_pos (by omega), if_pos (by omega), rd105 l i hi, wrap_id (n := (i : Int) + 1) (by omega) (by omega)]
      rfl
    rw [List.drop_eq_getElem_cons hi]
    unfold has
    rw [List.any_cons]
    cases hq : eqb x l[i] with
    | true => exact ⟨(i : Int), Ev.step h0 (Ev.ite_pos hq (Ev.now _)), by simp⟩
    | false =>
      obtain ⟨r, h1, h2⟩ := index_ev l hl x d (i + 1) (by omega)
      exact ⟨r, Ev.step h0 (Ev.ite_neg (by simp [hq]) h1), by rw [h2]; rfl⟩
theorem contains_ev (l : List S105) (hl : l.length ≤ 1048576) (x : S105) : Ev (fun k => impl_Pair_81.f k l x.f0 x.f1 x.f2) (has l x) := by
  obtain ⟨r, h1, h2⟩ := index_ev l hl x l.length 0 (by omega)
  rw [List.drop_zero] at h2
  rw [← h2]
  simp only [impl_Pair_81.f, impl_Pair_125.f]
  exact Ev.bind h1 (Ev.now _)
theorem flt_ev (l : List S105) (hl : l.length ≤ 1048576) : ∀ xs : List S105, Ev (fun k => impl_NewPairs.flt k l xs) (xs.filter fun x => !has l x)
  | [] => Ev.now _
  | x :: r => by
    rw [List.filter_cons]
    refine Ev.congr (fun k => by rw [impl_NewPairs.flt]) (Ev.bind (contains_ev l hl x) (Ev.bind (flt_ev l hl r) ?_))
    cases has l x with
    | true => exact Ev.now _
    | false => exact Ev.now _
theorem add_ev (l : List S105) (hl : l.length ≤ 1048576) (x : S105) : ∀ (d i : Nat) (out : List S105) (p : Bool), i + d = l.length → out.length = i + (if p = true then 1 else 0) →
    ∃ r : List S105, Ev (fun k => spec_l11Add.l0 k l out p l (l.length : Int) (i : Int) x.f0 x.f1 x.f2) r ∧ r.length = if has (l.drop i) x = true then l.length else l.length + 1
  | 0, i, out, p, h, ho => by
    rw [List.drop_eq_nil_of_le (by omega)]
    cases p with
    | true =>
      refine ⟨out, Ev.step (f := fun _ => some out) (fun k => ?_) (Ev.now _), ?_⟩
      · simp only [spec_l11Add.l0]; rw [if_neg (by omega), if_pos trivial]
      · rw [if_neg (by simp [has]), ho]; simp; omega
    | false =>
      refine ⟨out ++ [x], Ev.step (f := fun _ => some (out ++ [x])) (fun k => ?_) (Ev.now _), ?_⟩
      · have : out.length < 5864062014805 := by simp at ho; omega
        simp only [spec_l11Add.l0]; rw [if_neg (by omega), if_neg (by simp), if_pos this]
      · rw [if_neg (by simp [has]), List.length_append, ho]; simp; omega
  | d + 1, i, out, p, h, ho => by
    have hi : i < l.length := by omega
    have hol : out.length + 1 < 5864062014805 := by rw [ho]; split <;> omega
    have e0 : ((l[i]).f0 == x.f0 && ((l[i]).f1 == x.f1 && ((l[i]).f2 == x.f2))) = eqb x l[i] := by rw [eqb_comm]; rfl
    rw [List.drop_eq_getElem_cons hi]
    unfold has
    rw [List.any_cons]
    cases hq : eqb x l[i] with
    | true =>
      refine ⟨l, Ev.step (f := fun _ => some l) (fun k => ?_) (Ev.now _), by simp⟩
      simp only [spec_l11Add.l0]
      rw [if_pos (by omega), if_pos (by omega), if_pos (by omega), rd105 l i hi, e0, if_pos hq]
    | false =>
      rw [Bool.false_or]
      cases p with
      | true =>
        obtain ⟨r, h1, h2⟩ := add_ev l hl x d (i + 1) (out ++ [(⟨(l[i]).f0, (l[i]).f1, (l[i]).f2⟩ : S105)]) true (by omega) (by rw [List.length_append, ho]; simp)
        refine ⟨r, Ev.step (fun k => ?_) h1, h2⟩
        simp only [spec_l11Add.l0]
        rw [if_pos (by omega), if_pos (by omega), if_pos (by omega), rd105 l i hi, e0, if_neg (by simp [hq]), if_pos trivial, if_pos (by omega), wrap_id (n := (i : Int) + 1) (by omega) (by omega)]
        rfl
      | false =>
        have hk1 : ∃ a, spec_l11Key.f x.f0 x.f1 x.f2 = some a := ⟨_, rfl⟩
        have hk2 : ∃ b, spec_l11Key.f (l[i]).f0 (l[i]).f1 (l[i]).f2 = some b := ⟨_, rfl⟩
        obtain ⟨a, ha⟩ := hk1
        obtain ⟨b, hb⟩ := hk2
        by_cases c : a < b
        · obtain ⟨r, h1, h2⟩ := add_ev l hl x d (i + 1) ((out ++ [x]) ++ [(⟨(l[i]).f0, (l[i]).f1, (l[i]).f2⟩ : S105)]) true (by omega) (by rw [List.length_append, List.length_append, ho]; simp)
          refine ⟨r, Ev.step (fun k => ?_) h1, h2⟩
          simp only [spec_l11Add.l0]
          rw [if_pos (by omega), if_pos (by omega), if_pos (by omega), rd105 l i hi, e0, if_neg (by simp [hq]), if_neg (by simp), ha, Option.bind_some, hb, Option.bind_some, if_pos c, if_pos (by omega), Option.bind_some, if_pos (by simp; omega), wrap_id (n := (i : Int) + 1) (by omega) (by omega)]
          rfl
        · obtain ⟨r, h1, h2⟩ := add_ev l hl x d (i + 1) (out ++ [(⟨(l[i]).f0, (l[i]).f1, (l[i]).f2⟩ : S105)]) false (by omega) (by rw [List.length_append, ho]; simp)
          refine ⟨r, Ev.step (fun k => ?_) h1, h2⟩
          simp only [spec_l11Add.l0]
          rw [if_pos (by omega), if_pos (by omega), if_pos (by omega), rd105 l i hi, e0, if_neg (by simp [hq]), if_neg (by simp), ha, Option.bind_some, hb, Option.bind_some, if_neg c, if_pos (by omega), wrap_id (n := (i : Int) + 1) (by omega) (by omega)]
          rfl
theorem new_ev (l more : List S105) (hl : l.length ≤ 1048576) (hm : more.length ≤ 1048576) : ∀ (d i : Nat) (out : List S105), i + d = more.length → out.length ≤ i → Ev (fun k => spec_l11New.l0 k l out more (more.length : Int) (i : Int)) (out ++ (more.drop i).filter fun x => !has l x)
  | 0, i, out, h, ho => by
    rw [List.drop_eq_nil_of_le (by omega)]
    refine Ev.step (f := fun _ => some out) (fun k => ?_) (by simpa using Ev.now out)
    simp only [spec_l11New.l0]; rw [if_neg (by omega)]
  | d + 1, i, out, h, ho => by
    have hi : i < more.length := by omega
    rw [List.drop_eq_getElem_cons hi, List.filter_cons]
    obtain ⟨r, h1, h2⟩ := add_ev l hl more[i] l.length 0 [] false (by omega) (by simp)
    rw [List.drop_zero] at h2
    have h0 : ∀ k, spec_l11New.l0 (k + 1) l out more (more.length : Int) (i : Int) = (spec_l11Add.f k l (more[i]).f0 (more[i]).f1 (more[i]).f2).bind fun t => if (t.length : Int) > (l.length : Int) then spec_l11New.l0 k l (out ++ [more[i]]) more (more.length : Int) ((i + 1 : Nat) : Int) else spec_l11New.l0 k l out more (more.length : Int) ((i + 1 : Nat) : Int) := by
      intro k
      simp only [spec_l11New.l0]
      rw [if_pos (by omega), if_pos (by omega), if_pos (by omega), rd105 more i hi, wrap_id (n := (i : Int) + 1) (by omega) (by omega), if_pos (show out.length < 5864062014805 by omega)]
      rfl
    have h1' : Ev (fun k => spec_l11Add.f k l (more[i]).f0 (more[i]).f1 (more[i]).f2) r := h1
    refine Ev.step h0 (Ev.bind h1' ?_)
    cases hh : has l more[i] with
    | true =>
      rw [hh, if_pos rfl] at h2
      rw [if_neg (by simp)]
      exact Ev.ite_neg (by omega) (new_ev l more hl hm d (i + 1) out (by omega) (by omega))
    | false =>
      rw [hh, if_neg (by simp)] at h2
      rw [if_pos (by simp)]
      have ih := new_ev l more hl hm d (i + 1) (out ++ [more[i]]) (by omega) (by rw [List.length_append]; simp; omega)
      rw [List.append_assoc] at ih
      exact Ev.ite_pos (by omega) ih
def newR (l more : List S105) : List S105 × Bool := if ris l = true then (if ris more = true then (more.filter (fun x => !has l x), true) else ([], false)) else ([], false)
theorem spec_new (l more : List S105) (hl : l.length ≤ 1048576) (hm : more.length ≤ 1048576) : Ev (fun k => spec_NewPairs.f k l more) (newR l more) := by
  have h1 : Ev (fun k => spec_l11Rising.f k l) (ris l) := spec_ris l hl l.length 0 (by omega) (by omega)
  have h2 : Ev (fun k => spec_l11Rising.f k more) (ris more) := spec_ris more hm more.length 0 (by omega) (by omega)
  have h3 : Ev (fun k => spec_l11New.f k l more) (more.filter fun x => !has l x) := by
    have := new_ev l more hl hm more.length 0 [] (by omega) (by simp)
    simpa [spec_l11New.f] using this
  simp only [spec_NewPairs.f, newR]
  refine Ev.bind h1 ?_
  by_cases c : ris l = true
  · rw [if_pos c]
    refine Ev.ite_pos c (Ev.bind h2 ?_)
    by_cases c2 : ris more = true
    · rw [if_pos c2]; exact Ev.ite_pos c2 (Ev.bind h3 (Ev.now _))
    · rw [if_neg c2]; exact Ev.ite_neg c2 (Ev.now _)
  · rw [if_neg c]; exact Ev.ite_neg c (Ev.now _)
theorem impl_new (l more : List S105) (hl : l.length ≤ 1048576) (hm : more.length ≤ 1048576) : Ev (fun k => impl_NewPairs.f k l more) (newR l more) := by
  have h1 : Ev (fun k => impl_areRising.f k l) (ris l) := impl_ris l hl l.length 0 (by omega) (by omega)
  have h2 : Ev (fun k => impl_areRising.f k more) (ris more) := impl_ris more hm more.length 0 (by omega) (by omega)
  have h3 : impl_Pair_79.f more = some more := by
    simp only [impl_Pair_79.f, Option.bind_some, List.nil_append]
    rw [if_pos (by simp; omega)]
  simp only [impl_NewPairs.f, newR]
  refine Ev.bind h1 ?_
  by_cases c : ris l = true
  · rw [if_pos c]
    refine Ev.ite_pos c (Ev.bind h2 ?_)
    by_cases c2 : ris more = true
    · rw [if_pos c2]; exact Ev.ite_pos c2 (Ev.bind (Ev.const h3) (Ev.bind (flt_ev l hl more) (Ev.now _)))
    · rw [if_neg c2]; exact Ev.ite_neg c2 (Ev.now _)
  · rw [if_neg c]; exact Ev.ite_neg c (Ev.now _)
theorem newR_len (l more : List S105) : (newR l more).1.length ≤ 200 := by
  unfold newR
  split
  · split
    · rename_i h
      have := ris_len more _ _ h
      have := List.length_filter_le (fun x => !has l x) more
      simp only
      omega
    · simp
  · simp
/-! ### the law's own -/
def cvP (x : S107) : S105 := ⟨x.f0, x.f1, x.f2⟩
theorem toPairS_ev (xs : List S107) (hx : xs.length ≤ 1048576) : Ev (fun k => laws_toPairS.f k xs) (xs.map cvP) := by
  refine Ev.congr (fun k => ?_) (ev_map_all (fun k acc i => laws_toPairS.l0 k xs acc i) xs cvP z107 z105 (fun i acc r hi ha h => ?_) (fun acc ha => ?_))
  · simp only [laws_toPairS.f]
    rw [if_pos (by omega), if_pos (by simp only [Int.toNat_natCast]; omega)]
    simp only [Int.toNat_natCast]
  · refine Ev.step (fun k => ?_) h
    simp only [laws_toPairS.l0, laws_toPair.f, Option.bind_some]
    rw [if_pos (by omega), if_pos (by omega), if_pos (by omega), wrap_id (n := (i : Int) + 1) (by omega) (by omega)]
    rfl
  · refine Ev.step (f := fun _ => some acc) (fun k => ?_) (Ev.now _)
    simp only [laws_toPairS.l0]; rw [if_neg (by omega)]
theorem eqPairS_ev (xs : List S105) (hx : xs.length ≤ 1048576) : Ev (fun k => laws_eqPairS.f k xs xs) true := by
  have h := ev_up (fun k i => laws_eqPairS.l0 k xs xs i) xs.length true (fun i hi h => ?_) ?_ xs.length 0 (by omega)
  · refine Ev.congr (fun k => ?_) h
    simp only [laws_eqPairS.f]; rw [if_pos trivial]; rfl
  · refine Ev.step (fun k => ?_) h
    simp only [laws_eqPairS.l0, laws_eqPair.f]
    rw [if_pos (by omega), if_pos (by omega), if_pos (by omega), wrap_id (n := (i : Int) + 1) (by omega) (by omega), if_pos trivial, if_pos trivial, if_pos trivial, Option.bind_some, if_pos rfl]
    rfl
  · refine Ev.step (f := fun _ => some true) (fun k => ?_) (Ev.now _)
    simp only [laws_eqPairS.l0]; rw [if_neg (by omega)]
theorem szPairS_eq (ys : List S107) (hb : ys.length * 24 ≤ 140737488351232) (a : Int) (h0 : 0 ≤ a) (h1 : a ≤ 1048576) : laws_szPairS.f ys a = some (if a - (ys.length : Int) < 0 then -1 else a - (ys.length : Int)) := by
  simp only [laws_szPairS.f]
  rw [wrap_id (by omega) (by omega)]
  split <;> rfl
def markP (a : Int) : S105 := ⟨a, a + 1, a + 2⟩
theorem rdset (xs : List S105) (i : Nat) (h : i < xs.length) (u : S105) : rd_T105 (xs.set i u) (i : Int) = u := by
  simp [rd_T105, h]
theorem markPairS_ev (xs : List S105) (a : Int) (hn : xs.length ≤ 1048576) (h0 : 0 ≤ a) (h1 : a ≤ 10000000) : Ev (fun k => laws_markPairS.f k xs a) (a + 3 * (xs.length : Int), marksC markP 3 a xs.length) := by
  refine ev_mark_all (fun k ys a i => laws_markPairS.l0 k ys a i) markP 3 100000000 (by omega) xs (fun i ys a r hi hl h0 h1 h => ?_) (fun ys a hl => ?_) a h0 (by omega)
  · refine Ev.step (fun k => ?_) h
    simp only [laws_markPairS.l0, Option.bind_some]
    have hi' : i < ys.length := by omega
    rw [if_pos (by omega), if_pos (by omega)]
    simp only [Int.toNat_natCast]
    simp only [rdset ys i hi', List.set_set]
    rw [wrap_id (n := a + 1) (by omega) (by omega), wrap_id (n := a + 1 + 1) (by omega) (by omega), wrap_id (n := a + 1 + 1 + 1) (by omega) (by omega), wrap_id (n := (i : Int) + 1) (by omega) (by omega)]
    have e2 : a + 1 + 1 = a + 2 := by omega
    have e3 : a + 1 + 1 + 1 = a + 3 := by omega
    rw [e3, e2]
    rfl
  · refine Ev.step (f := fun _ => some (a, ys)) (fun k => ?_) (Ev.now _)
    simp only [laws_markPairS.l0]
    rw [if_neg (by omega)]
theorem heldPairS_ev (n : Nat) (a : Int) (hn : n ≤ 1048576) (h0 : 0 ≤ a) (h1 : a ≤ 1000) : Ev (fun k => laws_heldPairS.f k (marksC markP 3 a n) a) (a + 3 * (n : Int)) := by
  refine ev_held_all (fun k b i => laws_heldPairS.l0 k (marksC markP 3 a n) b i) 3 n 100000000 a (by omega) h0 (by omega) (fun i r hi hb h => ?_) ?_
  · refine Ev.step (fun k => ?_) h
    have hr : rd_T105 (marksC markP 3 a n) (i : Int) = markP (a + 3 * (i : Int)) := by
      have := marksC_getD markP z105 3 a n i hi
      simpa [rd_T105] using this
    simp only [laws_heldPairS.l0, marksC_length]
    generalize hx : a + 3 * (i : Int) = x at hr hb h ⊢
    rw [if_pos (by omega), if_pos (by omega), hr]
    rw [wrap_id (n := x + 1) (by omega) (by omega), wrap_id (n := x + 1 + 1) (by omega) (by omega), wrap_id (n := x + 1 + 1 + 1) (by omega) (by omega), wrap_id (n := (i : Int) + 1) (by omega) (by omega)]
    have e2 : x + 1 + 1 = x + 2 := by omega
    have e3 : x + 1 + 1 + 1 = x + 3 := by omega
    rw [e3, e2]
    show (if x = x then _ else _) = _
    rw [if_pos rfl]
    show (if x + 1 = x + 1 then _ else _) = _
    rw [if_pos rfl]
    show (if x + 2 = x + 2 then _ else _) = _
    rw [if_pos rfl]
    rfl
  · refine Ev.step (f := fun _ => some (a + 3 * (n : Int))) (fun k => ?_) (Ev.now _)
    simp only [laws_heldPairS.l0, marksC_length]
    rw [if_neg (by omega)]
theorem FnExactNewPairs : laws_FnExactNewPairs.Pure2 := by
  intro us vs _ hbu _ hbv
  apply Ev.rounds
  simp only [laws_FnExactNewPairs.f]
  refine Ev.bind (Ev.const (szPairS_eq us hbu 1048576 (by omega) (by omega))) ?_
  by_cases h : 1048576 - (us.length : Int) < 0
  · rw [if_pos h]; exact Ev.ite_pos (by omega) (Ev.now _)
  · rw [if_neg h]
    refine Ev.ite_neg h (Ev.bind (Ev.const (szPairS_eq vs hbv _ (by omega) (by omega))) ?_)
    by_cases h' : 1048576 - (us.length : Int) - (vs.length : Int) < 0
    · rw [if_pos h']; exact Ev.ite_pos (by omega) (Ev.now _)
    · rw [if_neg h']
      refine Ev.ite_neg h' ?_
      have htu := toPairS_ev us (by omega)
      have htv := toPairS_ev vs (by omega)
      have hlu : (us.map cvP).length ≤ 1048576 := by simp; omega
      have hlv : (vs.map cvP).length ≤ 1048576 := by simp; omega
      have hs := spec_new _ _ hlu hlv
      have hi := impl_new _ _ hlu hlv
      have hz := newR_len (us.map cvP) (vs.map cvP)
      generalize newR (us.map cvP) (vs.map cvP) = R at hs hi hz
      obtain ⟨zs, b⟩ := R
      have hz : zs.length ≤ 200 := hz
      have he := eqPairS_ev zs (by omega)
      have hxu := eqPairS_ev _ hlu
      have hxv := eqPairS_ev _ hlv
      have hmk := markPairS_ev zs 1 (by omega) (by omega) (by omega)
      have hhd := heldPairS_ev zs.length 1 (by omega) (by omega) (by omega)
      have hmu := markPairS_ev (us.map cvP) 1 hlu (by omega) (by omega)
      have hmv := markPairS_ev (vs.map cvP) (1 + 3 * ((us.map cvP).length : Int)) hlv (by omega) (by omega)
      refine Ev.bind htu (Ev.bind htv (Ev.bind hs (Ev.bind htu (Ev.bind htv (Ev.bind hi (Ev.bind he (Ev.ite_pos rfl ?_)))))))
      have hbb : (b != b) = false := by simp
      have hj2 : Ev (fun k => laws_FnExactNewPairs.j2 k (marksC markP 3 1 zs.length) (1 + 3 * (zs.length : Int)) (b != b)) true := by
        rw [hbb]
        refine Ev.step (fun k => by simp only [laws_FnExactNewPairs.j2]; rw [if_neg (by simp)]) ?_
        exact Ev.bind hhd (Ev.ite_neg (by omega) (Ev.ite_pos rfl (Ev.now _)))
      have hj1 : Ev (fun k => laws_FnExactNewPairs.j1 k us vs zs b zs (b != b)) true := by
        rw [hbb]
        refine Ev.step (fun k => by simp only [laws_FnExactNewPairs.j1]; rw [if_neg (by simp)]) ?_
        exact Ev.bind hmk (Ev.bind hhd (Ev.ite_neg (by omega) (Ev.ite_pos rfl (Ev.bind htu (Ev.bind htv (Ev.bind hi (Ev.bind he (Ev.ite_pos rfl hj2))))))))
      show Ev (fun k => laws_FnExactNewPairs.j0 k us vs zs b (us.map cvP) (vs.map cvP) zs b (b != b)) true
      rw [hbb]
      refine Ev.step (fun k => by simp only [laws_FnExactNewPairs.j0]; rw [if_neg (by simp)]) ?_
      exact Ev.bind htu (Ev.bind hxu (Ev.ite_pos rfl (Ev.bind htv (Ev.bind hxv (Ev.ite_pos rfl (Ev.bind hmu (Ev.bind hmv (Ev.ite_neg (by simp only; omega) (Ev.bind he (Ev.ite_pos rfl hj1))))))))))

end Go.Proofs.Ytpfbiopcfbokbaa.Pure

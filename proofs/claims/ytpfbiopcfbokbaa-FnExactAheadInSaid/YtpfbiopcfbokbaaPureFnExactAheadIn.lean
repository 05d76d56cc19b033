/- The pure statement of FnExactAheadIn: sets of places as four words of bits, or as rows of truth values. -/
import Derived.Test.YtpfbiopcfbokbaaQFnExactAheadIn
import Derived.Test.YtpfbiopcfbokbaaMBase
import Derived.KernelRfl
import Derived.Laws.Bits64b
set_option linter.unusedVariables false
set_option linter.unusedSimpArgs false
namespace Go.Proofs.Ytpfbiopcfbokbaa.Pure
open Go.RowKit Go.Proofs.Ytpfbiopcfbokbaa.GAheadIn Go.Proofs.YtpfbiopcfbokbaaW.PrintWords Go.Proofs.YtpfbiopcfbokbaaW.PrintLast Go.Proofs.YtpfbiopcfbokbaaW.PrintMore Go.Proofs.Ytpfbiopcfbokbaa.MBase
theorem dec_of {b : Bool} {P : Prop} [Decidable P] (h : b = true ↔ P) : some b = some (decide P) := by
  congr 1
  cases hb : b
  · rw [hb] at h; simp at h; simp [h]
  · rw [hb] at h; simp at h; simp [h]
theorem l1In_dec (a b c : Int) : spec_l1In.f a b c = some (decide (b ≤ a ∧ a ≤ c)) := by
  unfold spec_l1In.f
  by_cases h : b ≤ a
  · rw [if_pos h]; simp [h]
  · rw [if_neg h]; simp [h]
theorem in_dec (a b c : Int) : impl_in.f a b c = some (decide (b ≤ a ∧ a ≤ c)) := l1In_dec a b c
def EvOk (a b c d e : Int) : Prop := (0 ≤ a ∧ a ≤ 4) ∧ (1 ≤ b ∧ b ≤ 12) ∧ (-1 ≤ c ∧ c ≤ 99) ∧ (-1 ≤ d ∧ d ≤ 99) ∧ (0 ≤ e ∧ e ≤ 99) ∧ ¬((2 ≤ b ∧ b ≤ 10) ∧ c < 0) ∧ ¬((b = 8 ∨ b = 9) ∧ d < 0)
instance (a b c d e : Int) : Decidable (EvOk a b c d e) := by unfold EvOk; infer_instance
theorem spec_ev (k : Nat) (a b c d e : Int) : spec_l6Event.f (k+1) a b c d e = some (decide (EvOk a b c d e)) := by
  unfold spec_l6Event.f spec_l6Event.j0
  simp only [l1In_dec, Option.bind_some, decide_eq_true_eq]
  repeat' split
  all_goals refine dec_of ?_
  all_goals simp only [EvOk, decide_eq_true_eq, beq_iff_eq, bne_iff_ne, Bool.false_eq_true, true_iff, false_iff, ne_eq, reduceCtorEq, not_true_eq_false, not_false_eq_true] at *
  all_goals omega
theorem good_ev (a b c d e : Int) : impl_Event_isGood.f a b c d e = some (decide (EvOk a b c d e)) := by
  unfold impl_Event_isGood.f
  simp only [in_dec, Option.bind_some, decide_eq_true_eq]
  repeat' split
  all_goals refine dec_of ?_
  all_goals simp only [EvOk, decide_eq_true_eq, beq_iff_eq, bne_iff_ne, Bool.false_eq_true, true_iff, false_iff, ne_eq, reduceCtorEq, not_true_eq_false, not_false_eq_true] at *
  all_goals omega
/-- A loop that goes on to n with the same result. -/
theorem ev_up {α : Type} (L : Nat → Int → Option α) (n : Nat) (r : α) (hs : ∀ i : Nat, i < n → Ev (fun k => L k ((i + 1 : Nat) : Int)) r → Ev (fun k => L k (i : Int)) r) (he : Ev (fun k => L k (n : Int)) r) :
    ∀ d i : Nat, i + d = n → Ev (fun k => L k (i : Int)) r
  | 0, i, h => by
    have : i = n := by omega
    subst this
    exact he
  | d + 1, i, h => hs i (by omega) (ev_up L n r hs he d (i + 1) (by omega))
/-- A loop that fills a row, place by place. -/
theorem ev_map {α β : Type} (L : Nat → List β → Int → Option (List β)) (xs : List α) (f : α → β) (z : α)
    (hs : ∀ (i : Nat) (acc r : List β), i < xs.length → acc.length = xs.length → Ev (fun k => L k (acc.set i (f (xs.getD i z))) ((i + 1 : Nat) : Int)) r → Ev (fun k => L k acc (i : Int)) r)
    (he : ∀ acc : List β, acc.length = xs.length → Ev (fun k => L k acc (xs.length : Int)) acc) :
    ∀ (d i : Nat) (acc : List β), i + d = xs.length → acc.length = xs.length → Ev (fun k => L k acc (i : Int)) (acc.take i ++ (xs.drop i).map f)
  | 0, i, acc, h, ha => by
    have e : acc.take i ++ (xs.drop i).map f = acc := by rw [List.take_of_length_le (by omega), List.drop_eq_nil_of_le (by omega), List.map_nil, List.append_nil]
    rw [e]
    have : i = xs.length := by omega
    subst this
    exact he acc ha
  | d + 1, i, acc, h, ha => by
    have ih := ev_map L xs f z hs he d (i + 1) (acc.set i (f (xs.getD i z))) (by omega) (by simpa using ha)
    have e : (acc.set i (f (xs.getD i z))).take (i + 1) ++ (xs.drop (i + 1)).map f = acc.take i ++ (xs.drop i).map f := by
      rw [List.take_succ_eq_append_getElem (by simp; omega), List.getElem_set_self, List.take_set, List.set_eq_of_length_le (by simp; omega), List.append_assoc, List.drop_eq_getElem_cons (show i < xs.length by omega), List.map_cons]
      simp [List.getD_eq_getElem?_getD, List.getElem?_eq_getElem (show i < xs.length by omega)]
    rw [e] at ih
    exact hs i acc _ (by omega) ha ih
theorem ev_map_all {α β : Type} (L : Nat → List β → Int → Option (List β)) (xs : List α) (f : α → β) (z : α) (y : β)
    (hs : ∀ (i : Nat) (acc r : List β), i < xs.length → acc.length = xs.length → Ev (fun k => L k (acc.set i (f (xs.getD i z))) ((i + 1 : Nat) : Int)) r → Ev (fun k => L k acc (i : Int)) r)
    (he : ∀ acc : List β, acc.length = xs.length → Ev (fun k => L k acc (xs.length : Int)) acc) :
    Ev (fun k => L k (List.replicate xs.length y) 0) (xs.map f) := by
  have h := ev_map L xs f z hs he xs.length 0 (List.replicate xs.length y) (by omega) (by simp)
  simpa using h
def gd (x : S118) : Bool := decide (EvOk x.f0 x.f1 x.f2 x.f3 x.f4)
theorem spec_gd (x : S118) : Ev (fun k => spec_l6Event.f k x.f0 x.f1 x.f2 x.f3 x.f4) (gd x) :=
  Ev.step (f := fun _ => some (gd x)) (fun k => spec_ev k _ _ _ _ _) (Ev.now _)
theorem impl_gd (x : S118) : impl_GoodTrace_1.f x.f0 x.f1 x.f2 x.f3 x.f4 = some (!gd x) := by
  simp only [impl_GoodTrace_1.f]; rw [good_ev, Option.bind_some]; rfl
theorem rd50 (xs : List S118) (i : Nat) (h : i < xs.length) : rd_T118 xs (i : Int) = xs[i] := by
  simp [rd_T118, h]
theorem spec_loop (xs : List S118) (hx : xs.length ≤ 1048576) : ∀ d i : Nat, i + d = xs.length → Ev (fun k => spec_l6Trace.l0 k xs xs (xs.length : Int) (i : Int)) ((xs.drop i).all gd && decide ((xs.length : Int) ≤ 200))
  | 0, i, h => by
    rw [List.drop_eq_nil_of_le (by omega)]
    refine Ev.step (f := fun _ => some (decide ((xs.length : Int) ≤ 200))) (fun k => ?_) (Ev.now _)
    simp only [spec_l6Trace.l0]; rw [if_neg (by omega)]
  | d + 1, i, h => by
    have hi : i < xs.length := by omega
    have ih := spec_loop xs hx d (i + 1) (by omega)
    rw [List.drop_eq_getElem_cons hi, List.all_cons]
    have hst : ∀ k, spec_l6Trace.l0 (k+1) xs xs (xs.length : Int) (i : Int) = (spec_l6Event.f k (xs[i]).f0 (xs[i]).f1 (xs[i]).f2 (xs[i]).f3 (xs[i]).f4).bind fun t => if t = true then spec_l6Trace.l0 k xs xs (xs.length : Int) ((i + 1 : Nat) : Int) else some false := by
      intro k
      simp only [spec_l6Trace.l0]
      rw [if_pos (by omega), if_pos (by omega), if_pos (by omega), wrap_id (n := (i : Int) + 1) (by omega) (by omega), rd50 xs i hi]
      rfl
    cases hg : gd xs[i] with
    | true =>
      rw [Bool.true_and]
      exact Ev.step hst (Ev.bind (spec_gd _) (Ev.ite_pos hg ih))
    | false =>
      rw [Bool.false_and, Bool.false_and]
      exact Ev.step hst (Ev.bind (spec_gd _) (Ev.ite_neg (by simp [hg]) (Ev.now _)))
theorem impl_loop (xs : List S118) (hx : xs.length ≤ 1048576) : ∀ d i : Nat, i + d = xs.length → ∃ r : Int, (decide (r ≥ 0) = !(xs.drop i).all gd) ∧ Ev (fun k => slices_IndexFunc_impl_GoodTrace_1.l0 k xs (xs.length : Int) (i : Int)) r
  | 0, i, h => by
    rw [List.drop_eq_nil_of_le (by omega)]
    refine ⟨-1, by simp, Ev.step (f := fun _ => some (-1)) (fun k => ?_) (Ev.now _)⟩
    simp only [slices_IndexFunc_impl_GoodTrace_1.l0]; rw [if_neg (by omega)]
  | d + 1, i, h => by
    have hi : i < xs.length := by omega
    rw [List.drop_eq_getElem_cons hi, List.all_cons]
    have hst : ∀ k, slices_IndexFunc_impl_GoodTrace_1.l0 (k+1) xs (xs.length : Int) (i : Int) = if (!gd xs[i]) = true then some (i : Int) else slices_IndexFunc_impl_GoodTrace_1.l0 k xs (xs.length : Int) ((i + 1 : Nat) : Int) := by
      intro k
      simp only [slices_IndexFunc_impl_GoodTrace_1.l0]
      rw [if_pos (by omega), if_pos (by omega), if_pos (by omega), wrap_id (n := (i : Int) + 1) (by omega) (by omega), rd50 xs i hi, impl_gd, Option.bind_some]
      rfl
    cases hg : gd xs[i] with
    | true =>
      obtain ⟨r, hr, ih⟩ := impl_loop xs hx d (i + 1) (by omega)
      exact ⟨r, by rw [Bool.true_and]; exact hr, Ev.step hst (Ev.ite_neg (by simp [hg]) ih)⟩
    | false =>
      exact ⟨(i : Int), by simp, Ev.step hst (Ev.ite_pos (by simp [hg]) (Ev.now _))⟩
def cv (x : S120) : S118 := ⟨x.f0, x.f1, x.f2, x.f3, x.f4⟩
theorem toEventS_ev (xs : List S120) (hx : xs.length ≤ 1048576) : Ev (fun k => laws_toEventS.f k xs) (xs.map cv) := by
  refine Ev.congr (fun k => ?_) (ev_map_all (fun k acc i => laws_toEventS.l0 k xs acc i) xs cv z120 z118 (fun i acc r hi ha h => ?_) (fun acc ha => ?_))
  · simp only [laws_toEventS.f]
    rw [if_pos (by omega), if_pos (by simp only [Int.toNat_natCast]; omega)]
    simp only [Int.toNat_natCast]
  · refine Ev.step (fun k => ?_) h
    simp only [laws_toEventS.l0, laws_toEvent.f, Option.bind_some]
    rw [if_pos (by omega), if_pos (by omega), if_pos (by omega), wrap_id (n := (i : Int) + 1) (by omega) (by omega)]
    rfl
  · refine Ev.step (f := fun _ => some acc) (fun k => ?_) (Ev.now _)
    simp only [laws_toEventS.l0]; rw [if_neg (by omega)]
theorem eqEvent_refl (x : S118) : laws_eqEvent.f x.f0 x.f1 x.f2 x.f3 x.f4 x.f0 x.f1 x.f2 x.f3 x.f4 = some true := by
  simp [laws_eqEvent.f]
theorem eqEventS_ev (xs : List S118) (hx : xs.length ≤ 1048576) : Ev (fun k => laws_eqEventS.f k xs xs) true := by
  have h := ev_up (fun k i => laws_eqEventS.l0 k xs xs i) xs.length true (fun i hi h => ?_) ?_ xs.length 0 (by omega)
  · refine Ev.congr (fun k => ?_) h
    simp only [laws_eqEventS.f]; rw [if_pos trivial]; rfl
  · refine Ev.step (fun k => ?_) h
    simp only [laws_eqEventS.l0]
    rw [if_pos (by omega), if_pos (by omega), if_pos (by omega), eqEvent_refl, Option.bind_some, if_pos rfl, wrap_id (n := (i : Int) + 1) (by omega) (by omega)]
    rfl
  · refine Ev.step (f := fun _ => some true) (fun k => ?_) (Ev.now _)
    simp only [laws_eqEventS.l0]; rw [if_neg (by omega)]
abbrev E := S118
abbrev W4 := S124
def gv (a : E) : Int := if a.f1 = 5 then a.f2 else if a.f1 = 8 then a.f3 else -2
def tk (b : E) : Int := if b.f1 = 4 then b.f2 else if b.f1 = 9 then b.f3 else -3
def tl (a b : E) : Bool := if a.f1 = 6 then a.f2 == b.f0 else if a.f1 = 11 then (if b.f1 = 7 then b.f2 == a.f0 else false) else if a.f1 = 10 then (if b.f1 = 9 then a.f3 == b.f0 else false) else false
def right (a b : E) : Bool := if a.f0 = b.f0 then true else if gv a = tk b then true else tl a b
theorem spec_j0 (a b : E) (c : Bool) : Ev (fun k => spec_l6Right.j0 k c a.f0 a.f1 a.f2 a.f3 a.f4 b.f0 b.f1 b.f2 b.f3 b.f4) (if c = true then true else tl a b) := by
  refine Ev.step (f := fun _ => some (if c = true then true else tl a b)) (fun k => ?_) (Ev.now _)
  simp only [spec_l6Right.j0]
  unfold tl
  cases c with
  | true => rfl
  | false => simp only [Bool.false_eq_true, if_false]; (repeat' split) <;> rfl
theorem impl_j0 (a b : E) (c : Bool) : Ev (fun k => impl_leads.j0 k c a.f0 a.f1 a.f2 a.f3 a.f4 b.f0 b.f1 b.f2 b.f3 b.f4) (if c = true then true else tl a b) := by
  refine Ev.step (f := fun _ => some (if c = true then true else tl a b)) (fun k => ?_) (Ev.now _)
  simp only [impl_leads.j0]
  unfold tl
  cases c with
  | true => rfl
  | false => simp only [Bool.false_eq_true, if_false]; (repeat' split) <;> rfl
theorem spec_right (a b : E) : Ev (fun k => spec_l6Right.f k a.f0 a.f1 a.f2 a.f3 a.f4 b.f0 b.f1 b.f2 b.f3 b.f4) (right a b) := by
  have hg : spec_l6Gives.f a.f0 a.f1 a.f2 a.f3 a.f4 = some (gv a) := by unfold spec_l6Gives.f gv; (repeat' split) <;> rfl
  have ht : spec_l6Takes.f b.f0 b.f1 b.f2 b.f3 b.f4 = some (tk b) := by unfold spec_l6Takes.f tk; (repeat' split) <;> rfl
  simp only [spec_l6Right.f, hg, ht, Option.bind_some]
  unfold right
  by_cases h : a.f0 = b.f0
  · rw [if_pos h]
    have := spec_j0 a b (a.f0 == b.f0)
    rw [if_pos (by simpa using h)] at this
    exact Ev.ite_pos h this
  · rw [if_neg h]
    have := spec_j0 a b (gv a == tk b)
    simp only [beq_iff_eq] at this
    exact Ev.ite_neg h this
theorem impl_right (a b : E) (ha : gd a = true) (hb : gd b = true) : Ev (fun k => impl_leads.f k a.f0 a.f1 a.f2 a.f3 a.f4 b.f0 b.f1 b.f2 b.f3 b.f4) (right a b) := by
  have qa := of_decide_eq_true ha
  have qb := of_decide_eq_true hb
  unfold EvOk at qa qb
  obtain ⟨g, hg, hg1⟩ : ∃ g, impl_Event_gives.f a.f0 a.f1 a.f2 a.f3 a.f4 = some g ∧ ((g = gv a ∧ 0 ≤ g) ∨ (g = -1 ∧ gv a = -2)) := by
    unfold impl_Event_gives.f gv
    by_cases h5 : a.f1 = 5
    · exact ⟨a.f2, by rw [if_pos h5], Or.inl ⟨by rw [if_pos h5], by omega⟩⟩
    · by_cases h8 : a.f1 = 8
      · exact ⟨a.f3, by rw [if_neg h5, if_pos h8], Or.inl ⟨by rw [if_neg h5, if_pos h8], by omega⟩⟩
      · exact ⟨-1, by rw [if_neg h5, if_neg h8], Or.inr ⟨rfl, by rw [if_neg h5, if_neg h8]⟩⟩
  obtain ⟨t, ht, ht1⟩ : ∃ t, impl_Event_takes.f b.f0 b.f1 b.f2 b.f3 b.f4 = some t ∧ ((t = tk b ∧ 0 ≤ t) ∨ (t = -1 ∧ tk b = -3)) := by
    unfold impl_Event_takes.f tk
    by_cases h5 : b.f1 = 4
    · exact ⟨b.f2, by rw [if_pos h5], Or.inl ⟨by rw [if_pos h5], by omega⟩⟩
    · by_cases h8 : b.f1 = 9
      · exact ⟨b.f3, by rw [if_neg h5, if_pos h8], Or.inl ⟨by rw [if_neg h5, if_pos h8], by omega⟩⟩
      · exact ⟨-1, by rw [if_neg h5, if_neg h8], Or.inr ⟨rfl, by rw [if_neg h5, if_neg h8]⟩⟩
  simp only [impl_leads.f, hg, ht, Option.bind_some]
  unfold right
  by_cases h : a.f0 = b.f0
  · rw [if_pos h]
    have := impl_j0 a b true
    rw [if_pos rfl] at this
    exact Ev.ite_pos h this
  · rw [if_neg h]
    refine Ev.ite_neg h ?_
    by_cases hg0 : g ≥ 0
    · have := impl_j0 a b (g == t)
      have e : (g == t) = true ↔ gv a = tk b := by rw [beq_iff_eq]; omega
      simp only [e] at this
      exact Ev.ite_pos hg0 this
    · have := impl_j0 a b false
      rw [if_neg (by simp)] at this
      rw [if_neg (by omega)]
      exact Ev.ite_neg hg0 this
/-! ### Sets of places -/
def word (p : W4) (w : Nat) : Int := if w = 0 then p.f0 else if w = 1 then p.f1 else if w = 2 then p.f2 else p.f3
def wf (p : W4) : Prop := ∀ w, 0 ≤ word p w ∧ word p w < 18446744073709551616
def bit (p : W4) (q : Nat) : Bool := (word p (q / 64)).toNat.testBit (q % 64)
theorem or_word {x y : Int} (hx : 0 ≤ x ∧ x < 18446744073709551616) (hy : 0 ≤ y ∧ y < 18446744073709551616) : Go.bits .or .u64 x y = ((x.toNat ||| y.toNat : Nat) : Int) ∧ 0 ≤ Go.bits .or .u64 x y ∧ Go.bits .or .u64 x y < 18446744073709551616 := by
  have e := Go.bits_or_u64_nat x.toNat y.toNat (by omega) (by omega)
  rw [Int.toNat_of_nonneg hx.1, Int.toNat_of_nonneg hy.1] at e
  have hl : x.toNat ||| y.toNat < 2 ^ 64 := Nat.or_lt_two_pow (by omega) (by omega)
  rw [e]
  exact ⟨rfl, by omega, by omega⟩
theorem or_bit {x y : Int} (hx : 0 ≤ x ∧ x < 18446744073709551616) (hy : 0 ≤ y ∧ y < 18446744073709551616) (m : Nat) : (Go.bits .or .u64 x y).toNat.testBit m = (x.toNat.testBit m || y.toNat.testBit m) := by
  rw [(or_word hx hy).1, Int.toNat_natCast, Nat.testBit_or]
theorem shl_one (m : Nat) (hm : m < 64) : shl .u64 1 (m : Int) = ((2 ^ m : Nat) : Int) ∧ (0 : Int) ≤ shl .u64 1 (m : Int) ∧ shl .u64 1 (m : Int) < 18446744073709551616 := by
  have hb : IntKind.u64.bits = 64 := rfl
  have hp : (2 : Nat) ^ m < 2 ^ 64 := Nat.pow_lt_pow_right (by omega) hm
  have e : shl .u64 1 (m : Int) = ((2 ^ m : Nat) : Int) := by
    unfold shl
    rw [Int.toNat_natCast, hb, Nat.min_eq_left (by omega), Int.one_mul]
    have e2 : ((2 : Int) ^ m) = ((2 ^ m : Nat) : Int) := by rw [Int.natCast_pow]; rfl
    rw [e2]
    show ((2 ^ m : Nat) : Int) % (2 ^ 64 : Int) = _
    generalize (2 : Nat) ^ m = z at hp
    omega
  refine ⟨e, ?_⟩
  generalize (2 : Nat) ^ m = z at e hp
  omega
theorem shl_bit (m q : Nat) (hm : m < 64) : (shl .u64 1 (m : Int)).toNat.testBit q = decide (q = m) := by
  rw [(shl_one m hm).1, Int.toNat_natCast, Nat.testBit_two_pow, decide_eq_decide]
  exact eq_comm
theorem idx (i : Nat) (hi : i < 200) : wrap64 (Int.tdiv (i : Int) 64) = ((i / 64 : Nat) : Int) ∧ Int.tmod (i : Int) 64 = ((i % 64 : Nat) : Int) := by
  have e1 : Int.tdiv (i : Int) 64 = ((i / 64 : Nat) : Int) := by rw [Int.tdiv_eq_ediv_of_nonneg (by omega)]; rfl
  have e2 : Int.tmod (i : Int) 64 = ((i % 64 : Nat) : Int) := by rw [Int.tmod_eq_emod_of_nonneg (by omega)]; rfl
  refine ⟨?_, e2⟩
  rw [e1, wrap_id (by omega) (by omega)]
def upd (p : W4) (w : Nat) (v : Int) : W4 := if w = 0 then ⟨v, p.f1, p.f2, p.f3⟩ else if w = 1 then ⟨p.f0, v, p.f2, p.f3⟩ else if w = 2 then ⟨p.f0, p.f1, v, p.f3⟩ else ⟨p.f0, p.f1, p.f2, v⟩
theorem word_upd (p : W4) (w u : Nat) (v : Int) (hw : w < 4) (hu : u < 4) : word (upd p w v) u = if u = w then v else word p u := by
  have hw' : w = 0 ∨ w = 1 ∨ w = 2 ∨ w = 3 := by omega
  have hu' : u = 0 ∨ u = 1 ∨ u = 2 ∨ u = 3 := by omega
  rcases hw' with rfl | rfl | rfl | rfl <;> rcases hu' with rfl | rfl | rfl | rfl <;> rfl
theorem word_big (p : W4) (w : Nat) (h : 4 ≤ w) : word p w = word p 3 := by
  unfold word
  rw [if_neg (by omega), if_neg (by omega), if_neg (by omega)]
  rfl
theorem wf_of (p : W4) (h : ∀ w, w < 4 → 0 ≤ word p w ∧ word p w < 18446744073709551616) : wf p := by
  intro w
  rcases Nat.lt_or_ge w 4 with q | q
  · exact h w q
  · rw [word_big p w q]; exact h 3 (by omega)
theorem with_ev (p : W4) (hp : wf p) (i : Nat) (hi : i < 200) : ∃ p' : W4, impl_places_with.f p.f0 p.f1 p.f2 p.f3 (i : Int) = some (p'.f0, p'.f1, p'.f2, p'.f3) ∧ wf p' ∧ ∀ q, q < 256 → bit p' q = (bit p q || decide (q = i)) := by
  obtain ⟨e1, e2⟩ := idx i hi
  have hm : i % 64 < 64 := Nat.mod_lt _ (by omega)
  have hs := (shl_one (i % 64) hm).2
  have hw4 : i / 64 < 4 := by omega
  refine ⟨upd p (i / 64) (Go.bits .or .u64 (word p (i / 64)) (shl .u64 1 ((i % 64 : Nat) : Int))), ?_, ?_, ?_⟩
  · simp only [impl_places_with.f, e1, e2]
    have h' : i / 64 = 0 ∨ i / 64 = 1 ∨ i / 64 = 2 ∨ i / 64 = 3 := by omega
    rcases h' with h | h | h | h <;> rw [h]
    · rw [if_pos (by omega), if_pos (by omega)]; rfl
    · rw [if_neg (by omega), if_pos (by omega), if_pos (by omega)]; rfl
    · rw [if_neg (by omega), if_neg (by omega), if_pos (by omega), if_pos (by omega)]; rfl
    · rw [if_neg (by omega), if_neg (by omega), if_neg (by omega), if_pos (by omega), if_pos (by omega)]; rfl
  · refine wf_of _ (fun w hw => ?_)
    rw [word_upd p _ w _ hw4 hw]
    split
    · exact (or_word (hp _) hs).2
    · exact hp w
  · intro q hq
    unfold bit
    rw [word_upd p _ (q / 64) _ hw4 (by omega)]
    by_cases c : q / 64 = i / 64
    · rw [if_pos c, or_bit (hp _) hs, shl_bit _ _ hm, c]
      congr 1
      rw [decide_eq_decide]
      omega
    · rw [if_neg c, decide_eq_false (by intro z; exact c (by rw [z])), Bool.or_false]
theorem joined_ev (p s : W4) (hp : wf p) (hs : wf s) : ∃ p' : W4, Ev (fun k => impl_places_joined.f k p.f0 p.f1 p.f2 p.f3 s.f0 s.f1 s.f2 s.f3) (p'.f0, p'.f1, p'.f2, p'.f3) ∧ wf p' ∧ ∀ q, q < 256 → bit p' q = (bit p q || bit s q) := by
  refine ⟨⟨Go.bits .or .u64 p.f0 s.f0, Go.bits .or .u64 p.f1 s.f1, Go.bits .or .u64 p.f2 s.f2, Go.bits .or .u64 p.f3 s.f3⟩, ?_, ?_, ?_⟩
  · have w1 : wrap64 (0 + 1) = 1 := by rw [wrap_id] <;> omega
    have w2 : wrap64 (1 + 1) = 2 := by rw [wrap_id] <;> omega
    have w3 : wrap64 (2 + 1) = 3 := by rw [wrap_id] <;> omega
    have w4 : wrap64 (3 + 1) = 4 := by rw [wrap_id] <;> omega
    have s0 : ∀ k x0 x1 x2 x3 y0 y1 y2 y3, impl_places_joined.l0 (k + 1) 0 x0 x1 x2 x3 y0 y1 y2 y3 = impl_places_joined.l0 k 1 (Go.bits .or .u64 x0 y0) x1 x2 x3 y0 y1 y2 y3 := by
      intro k x0 x1 x2 x3 y0 y1 y2 y3
      conv => lhs; unfold impl_places_joined.l0
      rw [if_pos (show (0 : Int) < 4 by omega), if_pos (rfl : (0 : Int) = 0), w1]
    have s1 : ∀ k x0 x1 x2 x3 y0 y1 y2 y3, impl_places_joined.l0 (k + 1) 1 x0 x1 x2 x3 y0 y1 y2 y3 = impl_places_joined.l0 k 2 x0 (Go.bits .or .u64 x1 y1) x2 x3 y0 y1 y2 y3 := by
      intro k x0 x1 x2 x3 y0 y1 y2 y3
      conv => lhs; unfold impl_places_joined.l0
      rw [if_pos (show (1 : Int) < 4 by omega), if_neg (show ¬ (1 : Int) = 0 by omega), if_pos (rfl : (1 : Int) = 1), w2]
    have s2 : ∀ k x0 x1 x2 x3 y0 y1 y2 y3, impl_places_joined.l0 (k + 1) 2 x0 x1 x2 x3 y0 y1 y2 y3 = impl_places_joined.l0 k 3 x0 x1 (Go.bits .or .u64 x2 y2) x3 y0 y1 y2 y3 := by
      intro k x0 x1 x2 x3 y0 y1 y2 y3
      conv => lhs; unfold impl_places_joined.l0
      rw [if_pos (show (2 : Int) < 4 by omega), if_neg (show ¬ (2 : Int) = 0 by omega), if_neg (show ¬ (2 : Int) = 1 by omega), if_pos (rfl : (2 : Int) = 2), w3]
    have s3 : ∀ k x0 x1 x2 x3 y0 y1 y2 y3, impl_places_joined.l0 (k + 1) 3 x0 x1 x2 x3 y0 y1 y2 y3 = impl_places_joined.l0 k 4 x0 x1 x2 (Go.bits .or .u64 x3 y3) y0 y1 y2 y3 := by
      intro k x0 x1 x2 x3 y0 y1 y2 y3
      conv => lhs; unfold impl_places_joined.l0
      rw [if_pos (show (3 : Int) < 4 by omega), if_neg (show ¬ (3 : Int) = 0 by omega), if_neg (show ¬ (3 : Int) = 1 by omega), if_neg (show ¬ (3 : Int) = 2 by omega), if_pos (rfl : (3 : Int) = 3), w4]
    have s4 : ∀ k x0 x1 x2 x3 y0 y1 y2 y3, impl_places_joined.l0 (k + 1) 4 x0 x1 x2 x3 y0 y1 y2 y3 = some (x0, x1, x2, x3) := by
      intro k x0 x1 x2 x3 y0 y1 y2 y3
      conv => lhs; unfold impl_places_joined.l0
      rw [if_neg (show ¬ (4 : Int) < 4 by omega)]
    simp only [impl_places_joined.f]
    exact Ev.step (fun k => s0 k _ _ _ _ _ _ _ _) (Ev.step (fun k => s1 k _ _ _ _ _ _ _ _) (Ev.step (fun k => s2 k _ _ _ _ _ _ _ _) (Ev.step (fun k => s3 k _ _ _ _ _ _ _ _) (Ev.step (f := fun _ => some _) (fun k => s4 k _ _ _ _ _ _ _ _) (Ev.now _)))))
  · refine wf_of _ (fun w hw => ?_)
    have h' : w = 0 ∨ w = 1 ∨ w = 2 ∨ w = 3 := by omega
    rcases h' with rfl | rfl | rfl | rfl
    · exact (or_word (hp 0) (hs 0)).2
    · exact (or_word (hp 1) (hs 1)).2
    · exact (or_word (hp 2) (hs 2)).2
    · exact (or_word (hp 3) (hs 3)).2
  · intro q hq
    unfold bit
    have h' : q / 64 = 0 ∨ q / 64 = 1 ∨ q / 64 = 2 ∨ q / 64 = 3 := by omega
    rcases h' with h | h | h | h <;> rw [h]
    · exact or_bit (hp 0) (hs 0) _
    · exact or_bit (hp 1) (hs 1) _
    · exact or_bit (hp 2) (hs 2) _
    · exact or_bit (hp 3) (hs 3) _
theorem has_ev (p : W4) (hp : wf p) (i : Nat) (hi : i < 200) : impl_places_has.f p.f0 p.f1 p.f2 p.f3 (i : Int) = some (bit p i) := by
  obtain ⟨e1, e2⟩ := idx i hi
  have hm : i % 64 < 64 := Nat.mod_lt _ (by omega)
  have key : ∀ x : Int, 0 ≤ x ∧ x < 18446744073709551616 → ((Go.bits .and .u64 (shr .u64 x ((i % 64 : Nat) : Int)) 1) == 1) = x.toNat.testBit (i % 64) := by
    intro x hx
    have hb : IntKind.u64.bits = 64 := rfl
    have es : shr .u64 x ((i % 64 : Nat) : Int) = ((x.toNat >>> (i % 64) : Nat) : Int) := by
      unfold shr
      rw [Int.toNat_natCast, hb, Nat.min_eq_left (by omega), Nat.shiftRight_eq_div_pow, Int.natCast_ediv, Int.toNat_of_nonneg hx.1, Int.natCast_pow]
      rfl
    have hlt : x.toNat >>> (i % 64) < 18446744073709551616 := Nat.lt_of_le_of_lt (Nat.shiftRight_le _ _) (by omega)
    have ea := Go.bits_and_u64_nat (x.toNat >>> (i % 64)) 1 hlt (by omega)
    rw [es, show (1 : Int) = ((1 : Nat) : Int) from rfl, ea]
    unfold Nat.testBit
    rw [Nat.and_comm 1]
    have h2 : x.toNat >>> (i % 64) &&& 1 = (x.toNat >>> (i % 64)) % 2 := Nat.and_one_is_mod _
    rw [h2]
    rw [Bool.eq_iff_iff, beq_iff_eq, bne_iff_ne]
    omega
  simp only [impl_places_has.f, e1, e2]
  unfold bit
  have h' : i / 64 = 0 ∨ i / 64 = 1 ∨ i / 64 = 2 ∨ i / 64 = 3 := by omega
  rcases h' with h | h | h | h <;> rw [h]
  · rw [if_pos (by omega), if_pos (by omega)]; exact congrArg some (key p.f0 (hp 0))
  · rw [if_neg (by omega), if_pos (by omega), if_pos (by omega)]; exact congrArg some (key p.f1 (hp 1))
  · rw [if_neg (by omega), if_neg (by omega), if_pos (by omega), if_pos (by omega)]; exact congrArg some (key p.f2 (hp 2))
  · rw [if_neg (by omega), if_neg (by omega), if_neg (by omega), if_pos (by omega), if_pos (by omega)]; exact congrArg some (key p.f3 (hp 3))
/-! ### The two tables -/
theorem rdL (A : List (List Bool)) (i : Nat) : rd_L4 A (i : Int) = A.getD i [] := by simp [rd_L4]
theorem rdW (P : List W4) (i : Nat) : rd_T124 P (i : Int) = P.getD i z124 := by simp [rd_T124]
theorem rdB (r : List Bool) (i : Nat) : rdOf false r (i : Int) = r.getD i false := by simp [rdOf]
theorem getD_set {α : Type} (l : List α) (i j : Nat) (v z : α) (h : i < l.length) : (l.set i v).getD j z = if j = i then v else l.getD j z := by
  rw [List.getD_eq_getElem?_getD, List.getD_eq_getElem?_getD]
  by_cases c : j = i
  · subst c; rw [if_pos rfl, List.getElem?_set_self h]; rfl
  · rw [if_neg c, List.getElem?_set_ne (fun q => c q.symm)]
theorem set_getD_self {α : Type} (l : List α) (j : Nat) (z : α) (h : j < l.length) : l.set j (l.getD j z) = l := by
  apply List.ext_getElem?
  intro i
  by_cases c : j = i
  · subst c; rw [List.getElem?_set_self h]; simp [h]
  · rw [List.getElem?_set_ne c]
theorem l2_ev (xs : List E) (n : Nat) (hn : n ≤ 200) (i j : Nat) (hj : j < n) (hi : i < j) (src : List Bool) (hsrc : src.length = n) : ∀ (d k : Nat) (A : List (List Bool)), k + d = n → A.length = n → A.getD i [] = src → (A.getD j []).length = n →
    ∃ row : List Bool, row.length = n ∧ (∀ q, q < n → row.getD q false = if q < k then (A.getD j []).getD q false else ((A.getD j []).getD q false || src.getD q false)) ∧
      ∀ r, Ev (fun f => spec_l6Ahead.l1 f xs (A.set j row) (j : Int) (wrap64 ((i : Int) + 1)) (xs.length : Int) (j : Int)) r → Ev (fun f => spec_l6Ahead.l2 f xs A (j : Int) (i : Int) (xs.length : Int) (j : Int) src (n : Int) (k : Int)) r
  | 0, k, A, hk, hA, hs, hr => by
    refine ⟨A.getD j [], hr, fun q hq => by rw [if_pos (by omega)], fun r h => ?_⟩
    rw [set_getD_self A j [] (by omega)] at h
    refine Ev.step (fun f => ?_) h
    simp only [spec_l6Ahead.l2]; rw [if_neg (by omega)]
  | d + 1, k, A, hk, hA, hs, hr => by
    have hv : ∃ v : Bool, v = ((A.getD j []).getD k false || src.getD k false) := ⟨_, rfl⟩
    obtain ⟨v, hv⟩ := hv
    have hl : (A.set j ((A.getD j []).set k v)).getD j [] = (A.getD j []).set k v := by rw [getD_set A j j _ [] (by omega), if_pos rfl]
    obtain ⟨row, h1, h2, h3⟩ := l2_ev xs n hn i j hj hi src hsrc d (k + 1) (A.set j ((A.getD j []).set k v)) (by omega) (by simpa using hA) (by rw [getD_set A j i _ [] (by omega), if_neg (by omega)]; exact hs) (by rw [hl]; simpa using hr)
    rw [hl] at h2
    refine ⟨row, h1, fun q hq => ?_, fun r h => ?_⟩
    · rw [h2 q hq, getD_set _ k q _ false (by omega)]
      by_cases c1 : q < k
      · rw [if_pos (by omega), if_neg (by omega), if_pos c1]
      · rw [if_neg c1]
        by_cases c2 : q = k
        · rw [if_pos (by omega), if_pos c2, hv, c2]
        · rw [if_neg (by omega), if_neg c2]
    · have h4 := h3 r (by rw [List.set_set]; exact h)
      refine Ev.step (fun f => ?_) h4
      simp only [spec_l6Ahead.l2, rdL, rdB, Int.toNat_natCast]
      rw [if_pos (by omega), if_pos (show (0 : Int) ≤ (i : Int) by omega), if_pos (show (i : Int) < (A.length : Int) by omega), if_pos hs, if_pos (by omega), if_pos (by omega), if_pos (by omega), if_pos (by omega), if_pos (by omega), wrap_id (n := (k : Int) + 1) (by omega) (by omega)]
      cases hb : (A.getD j []).getD k false with
      | true => rw [if_pos rfl, hv, hb]; rfl
      | false => rw [if_neg (by simp), hv, hb, Bool.false_or]; rfl
def RelRow (n : Nat) (row : List Bool) (p : W4) : Prop := row.length = n ∧ wf p ∧ ∀ q, q < n → row.getD q false = bit p q
def z4 : W4 := z124
def Inv (n : Nat) (A : List (List Bool)) (P : List W4) (m : Nat) : Prop := A.length = n ∧ P.length = n ∧ (∀ i, i < m → i < n → RelRow n (A.getD i []) (P.getD i z4)) ∧ ∀ i, m ≤ i → i < n → P.getD i z4 = z4
theorem inner (xs : List E) (hn : xs.length ≤ 200) (hg : ∀ x ∈ xs, gd x = true) (j : Nat) (hj : j < xs.length) : ∀ (d i : Nat) (A : List (List Bool)) (P : List W4), i + d = j → Inv xs.length A P (j + 1) →
    ∃ A' P', Inv xs.length A' P' (j + 1) ∧ (∀ r, Ev (fun f => spec_l6Ahead.l0 f xs A' (xs.length : Int) (wrap64 ((j : Int) + 1))) r → Ev (fun f => spec_l6Ahead.l1 f xs A (j : Int) (i : Int) (xs.length : Int) (j : Int)) r) ∧
      (∀ r, Ev (fun f => impl_aheadOf.l0 f xs P' (xs.length : Int) (wrap64 ((j : Int) + 1))) r → Ev (fun f => impl_aheadOf.l1 f xs P (j : Int) (xs.length : Int) (j : Int) (j : Int) (i : Int)) r)
  | 0, i, A, P, hi, hI => by
    refine ⟨A, P, hI, fun r h => Ev.step (fun f => ?_) h, fun r h => Ev.step (fun f => ?_) h⟩
    · simp only [spec_l6Ahead.l1]; rw [if_neg (by omega)]
    · simp only [impl_aheadOf.l1]; rw [if_neg (by omega)]
  | d + 1, i, A, P, hi, hI => by
    have hA := hI.1
    have hP := hI.2.1
    have ew : wrap64 ((i : Int) + 1) = ((i + 1 : Nat) : Int) := by rw [wrap_id] <;> omega
    have ei := rd50 xs i (by omega)
    have ej := rd50 xs j hj
    have hsR := spec_right xs[i] xs[j]
    have hiR := impl_right xs[i] xs[j] (hg _ (List.getElem_mem _)) (hg _ (List.getElem_mem _))
    have hst : ∀ f, spec_l6Ahead.l1 (f + 1) xs A (j : Int) (i : Int) (xs.length : Int) (j : Int) = (spec_l6Right.f f (xs[i]).f0 (xs[i]).f1 (xs[i]).f2 (xs[i]).f3 (xs[i]).f4 (xs[j]).f0 (xs[j]).f1 (xs[j]).f2 (xs[j]).f3 (xs[j]).f4).bind fun t => if t = true then (if (i : Int) < ((A.getD j []).length : Int) then spec_l6Ahead.l2 f xs (A.set j ((A.getD j []).set i true)) (j : Int) (i : Int) (xs.length : Int) (j : Int) ((A.set j ((A.getD j []).set i true)).getD i []) (((A.set j ((A.getD j []).set i true)).getD i []).length : Int) 0 else none) else spec_l6Ahead.l1 f xs A (j : Int) ((i + 1 : Nat) : Int) (xs.length : Int) (j : Int) := by
      intro f
      simp only [spec_l6Ahead.l1, rdL, Int.toNat_natCast, ei, ej, ew, Option.bind_some]
      rw [if_pos (by omega), if_pos (by omega), if_pos (by omega), if_pos (by omega), if_pos (by omega), if_pos (show (j : Int) < (A.length : Int) by omega), if_pos (show (i : Int) < (A.length : Int) by omega)]
    have hit : ∀ f, impl_aheadOf.l1 (f + 1) xs P (j : Int) (xs.length : Int) (j : Int) (j : Int) (i : Int) = (impl_leads.f f (xs[i]).f0 (xs[i]).f1 (xs[i]).f2 (xs[i]).f3 (xs[i]).f4 (xs[j]).f0 (xs[j]).f1 (xs[j]).f2 (xs[j]).f3 (xs[j]).f4).bind fun t => if t = true then ((impl_places_with.f (P.getD j z4).f0 (P.getD j z4).f1 (P.getD j z4).f2 (P.getD j z4).f3 (i : Int)).bind fun bt => (impl_places_joined.f f bt.1 bt.2.1 bt.2.2.1 bt.2.2.2 (P.getD i z4).f0 (P.getD i z4).f1 (P.getD i z4).f2 (P.getD i z4).f3).bind fun bu => impl_aheadOf.l1 f xs (P.set j ⟨bu.1, bu.2.1, bu.2.2.1, bu.2.2.2⟩) (j : Int) (xs.length : Int) (j : Int) (j : Int) ((i + 1 : Nat) : Int)) else impl_aheadOf.l1 f xs P (j : Int) (xs.length : Int) (j : Int) (j : Int) ((i + 1 : Nat) : Int) := by
      intro f
      simp only [impl_aheadOf.l1, rdW, Int.toNat_natCast, ei, ej, ew]
      rw [if_pos (by omega), if_pos (by omega), if_pos (by omega), if_pos (by omega), if_pos (by omega), if_pos (show (j : Int) < (P.length : Int) by omega)]
      simp only [if_pos (show (i : Int) < (P.length : Int) by omega)]
      rfl
    cases hr : right xs[i] xs[j] with
    | false =>
      obtain ⟨A', P', h1, h2, h3⟩ := inner xs hn hg j hj d (i + 1) A P (by omega) hI
      exact ⟨A', P', h1, fun r h => Ev.step hst (Ev.bind hsR (Ev.ite_neg (by simp [hr]) (h2 r h))), fun r h => Ev.step hit (Ev.bind hiR (Ev.ite_neg (by simp [hr]) (h3 r h)))⟩
    | true =>
      obtain ⟨lj, wj, bj⟩ := hI.2.2.1 j (by omega) hj
      obtain ⟨li, wi, bi⟩ := hI.2.2.1 i (by omega) (by omega)
      obtain ⟨p1, e1, w1, b1⟩ := with_ev (P.getD j z4) wj i (by omega)
      obtain ⟨p2, e2, w2, b2⟩ := joined_ev p1 (P.getD i z4) w1 wi
      have g1 : (A.set j ((A.getD j []).set i true)).getD i [] = A.getD i [] := by rw [getD_set A j i _ [] (by omega), if_neg (by omega)]
      have g2 : (A.set j ((A.getD j []).set i true)).getD j [] = (A.getD j []).set i true := by rw [getD_set A j j _ [] (by omega), if_pos rfl]
      obtain ⟨row, r1, r2, r3⟩ := l2_ev xs xs.length hn i j hj (by omega) (A.getD i []) li xs.length 0 (A.set j ((A.getD j []).set i true)) (by omega) (by simpa using hA) g1 (by rw [g2]; simpa using lj)
      rw [g2] at r2
      have hI' : Inv xs.length (A.set j row) (P.set j p2) (j + 1) := by
        refine ⟨by simpa using hA, by simpa using hP, fun q h1 h2 => ?_, fun q h1 h2 => ?_⟩
        · rw [getD_set A j q _ [] (by omega), getD_set P j q _ z4 (by omega)]
          by_cases c : q = j
          · rw [if_pos c, if_pos c]
            refine ⟨r1, w2, fun u hu => ?_⟩
            rw [r2 u hu, if_neg (by omega), getD_set _ i u _ false (by omega), b2 u (by omega), b1 u (by omega), bi u hu]
            by_cases c2 : u = i
            · rw [if_pos c2, decide_eq_true c2, Bool.true_or, Bool.or_true, Bool.true_or]
            · rw [if_neg c2, decide_eq_false c2, Bool.or_false, bj u hu]
          · rw [if_neg c, if_neg c]; exact hI.2.2.1 q h1 h2
        · rw [getD_set P j q _ z4 (by omega), if_neg (by omega)]; exact hI.2.2.2 q h1 h2
      obtain ⟨A', P', h1, h2, h3⟩ := inner xs hn hg j hj d (i + 1) (A.set j row) (P.set j p2) (by omega) hI'
      refine ⟨A', P', h1, fun r h => Ev.step hst (Ev.bind hsR (Ev.ite_pos hr (Ev.ite_pos (by omega) ?_))), fun r h => Ev.step hit (Ev.bind hiR (Ev.ite_pos hr ?_))⟩
      · have := r3 r (by rw [List.set_set, ew]; exact h2 r h)
        rw [g1, li]
        exact this
      · refine Ev.congr (fun f => by rw [e1, Option.bind_some]) (Ev.bind e2 ?_)
        exact h3 r h
theorem outer (xs : List E) (hn : xs.length ≤ 200) (hg : ∀ x ∈ xs, gd x = true) : ∀ (d j : Nat) (A : List (List Bool)) (P : List W4), j + d = xs.length → Inv xs.length A P j →
    ∃ A' P', Inv xs.length A' P' xs.length ∧ Ev (fun f => spec_l6Ahead.l0 f xs A (xs.length : Int) (j : Int)) A' ∧ Ev (fun f => impl_aheadOf.l0 f xs P (xs.length : Int) (j : Int)) P'
  | 0, j, A, P, hj, hI => by
    obtain rfl : j = xs.length := by omega
    refine ⟨A, P, hI, Ev.step (f := fun _ => some A) (fun f => ?_) (Ev.now _), Ev.step (f := fun _ => some P) (fun f => ?_) (Ev.now _)⟩
    · simp only [spec_l6Ahead.l0]; rw [if_neg (by omega)]
    · simp only [impl_aheadOf.l0]; rw [if_neg (by omega)]
  | d + 1, j, A, P, hj, hI => by
    have hjl : j < xs.length := by omega
    have hA := hI.1
    have hP := hI.2.1
    have hI' : Inv xs.length (A.set j (List.replicate xs.length false)) P (j + 1) := by
      refine ⟨by simpa using hA, hP, fun q h1 h2 => ?_, fun q h1 h2 => hI.2.2.2 q (by omega) h2⟩
      rw [getD_set A j q _ [] (by omega)]
      by_cases c : q = j
      · rw [if_pos c, c, hI.2.2.2 j (Nat.le_refl _) hjl]
        refine ⟨by simp, fun w => ?_, fun u hu => ?_⟩
        · unfold word z4 z124; (repeat' split) <;> decide
        · have : word z4 (u / 64) = 0 := by unfold word z4 z124; (repeat' split) <;> rfl
          unfold bit
          rw [this]
          simp [hu]
      · rw [if_neg c]; exact hI.2.2.1 q (by omega) h2
    obtain ⟨A1, P1, h1, h2, h3⟩ := inner xs hn hg j hjl j 0 _ _ (by omega) hI'
    obtain ⟨A', P', g1, g2, g3⟩ := outer xs hn hg d (j + 1) A1 P1 (by omega) h1
    have ew : wrap64 ((j : Int) + 1) = ((j + 1 : Nat) : Int) := by rw [wrap_id] <;> omega
    rw [ew] at h2 h3
    refine ⟨A', P', g1, Ev.step (fun f => ?_) (h2 _ g2), Ev.step (fun f => ?_) (h3 _ g3)⟩
    · simp only [spec_l6Ahead.l0, Int.toNat_natCast]
      rw [if_pos (by omega), if_pos (by omega), if_pos (by omega), if_pos (by omega), if_pos (by omega)]
      rfl
    · simp only [impl_aheadOf.l0]
      rw [if_pos (by omega)]
      rfl
theorem tables (xs : List E) (hn : xs.length ≤ 200) (hg : ∀ x ∈ xs, gd x = true) : ∃ A P, Inv xs.length A P xs.length ∧ Ev (fun f => spec_l6Ahead.f f xs) A ∧ Ev (fun f => impl_aheadOf.f f xs) P := by
  obtain ⟨A, P, h1, h2, h3⟩ := outer xs hn hg xs.length 0 (List.replicate xs.length []) (List.replicate xs.length z4) (by omega) ⟨by simp, by simp, fun i h _ => by omega, fun i _ hi => by simp [hi]⟩
  refine ⟨A, P, h1, ?_, ?_⟩
  · refine Ev.congr (fun f => ?_) h2
    simp only [spec_l6Ahead.f, Int.toNat_natCast]; rw [if_pos (by omega), if_pos (by omega)]; rfl
  · refine Ev.congr (fun f => ?_) h3
    simp only [impl_aheadOf.f, Int.toNat_natCast]; rw [if_pos (by omega), if_pos (by omega)]; rfl
theorem ahead_same (xs : List E) (hx : xs.length ≤ 1048576) (a b : Int) : ∃ r, Ev (fun k => spec_AheadIn.f k xs a b) r ∧ Ev (fun k => impl_AheadIn.f k xs a b) r := by
  have hs := spec_loop xs hx xs.length 0 (by omega)
  rw [List.drop_zero] at hs
  have hi : Ev (fun k => impl_GoodTrace.f k xs) (xs.all gd && decide ((xs.length : Int) ≤ 200)) := by
    simp only [impl_GoodTrace.f]
    by_cases h : (xs.length : Int) ≤ 200
    · obtain ⟨r, hr, hi⟩ := impl_loop xs hx xs.length 0 (by omega)
      rw [List.drop_zero] at hr
      refine Ev.ite_pos h ?_
      have e : (xs.all gd && decide ((xs.length : Int) ≤ 200)) = !(decide (r ≥ 0)) := by rw [hr]; simp [h]
      rw [e]
      exact Ev.bind (f := fun _ t => some (!t)) (g := fun k => slices_ContainsFunc_impl_GoodTrace_1.f k xs) (Ev.bind (f := fun _ t => some (decide (t ≥ 0))) hi (Ev.now _)) (Ev.now _)
    · refine Ev.ite_neg h ?_
      have e : (xs.all gd && decide ((xs.length : Int) ≤ 200)) = false := by simp [h]
      rw [e]
      exact Ev.now _
  have hjT : Ev (fun k => impl_AheadIn.j0 k xs a b true) (false, false) := Ev.step (f := fun _ => some (false, false)) (fun k => by simp only [impl_AheadIn.j0]; rw [if_pos trivial]) (Ev.now _)
  simp only [spec_AheadIn.f, impl_AheadIn.f, impl_Event_87.f, l1In_dec, in_dec, Option.bind_some]
  rw [wrap_id (n := (xs.length : Int) - 1) (by omega) (by omega)]
  cases hb : (xs.all gd && decide ((xs.length : Int) ≤ 200)) with
  | false =>
    rw [hb] at hs hi
    exact ⟨(false, false), Ev.bind (g := fun k => spec_l6Trace.f k xs) hs (Ev.ite_neg (by simp) (Ev.now _)), Ev.bind hi (Ev.ite_neg (by simp) hjT)⟩
  | true =>
    rw [hb] at hs hi
    rw [Bool.and_eq_true, List.all_eq_true, decide_eq_true_eq] at hb
    by_cases ca : 0 ≤ a ∧ a ≤ (xs.length : Int) - 1
    · by_cases cb : 0 ≤ b ∧ b ≤ (xs.length : Int) - 1
      · obtain ⟨A, P, ⟨hA, hP, hR, _⟩, hS, hT⟩ := tables xs (by omega) hb.1
        obtain ⟨i, rfl⟩ : ∃ i : Nat, a = (i : Int) := ⟨a.toNat, by omega⟩
        obtain ⟨j, rfl⟩ : ∃ j : Nat, b = (j : Int) := ⟨b.toNat, by omega⟩
        obtain ⟨l1, w1, b1⟩ := hR j (by omega) (by omega)
        have hh := has_ev (P.getD j z4) w1 i (by omega)
        refine ⟨(bit (P.getD j z4) i, true), Ev.bind (g := fun k => spec_l6Trace.f k xs) hs (Ev.ite_pos rfl (Ev.ite_pos (by simpa using ca) (Ev.ite_pos (by simpa using cb) (Ev.bind hS ?_)))), Ev.bind hi (Ev.ite_pos rfl (Ev.ite_pos (by simpa using ca) ?_))⟩
        · simp only [rdL, rdB, b1 i (by omega)]
          rw [if_pos (by omega), if_pos (by omega), if_pos (by omega), if_pos (by omega)]
          exact Ev.now _
        · rw [decide_eq_true cb]
          refine Ev.step (fun k => by simp only [impl_AheadIn.j0]; rw [if_neg (by simp)]) (Ev.bind hT ?_)
          rw [if_pos (by omega), if_pos (by omega)]
          simp only [rdW]
          refine Ev.congr (fun k => ?_) (Ev.now _)
          show (impl_places_has.f (P.getD j z4).f0 (P.getD j z4).f1 (P.getD j z4).f2 (P.getD j z4).f3 (i : Int)).bind _ = _
          rw [hh, Option.bind_some]
      · refine ⟨(false, false), Ev.bind (g := fun k => spec_l6Trace.f k xs) hs (Ev.ite_pos rfl (Ev.ite_pos (by simpa using ca) (Ev.ite_neg (by simpa using cb) (Ev.now _)))), Ev.bind hi (Ev.ite_pos rfl (Ev.ite_pos (by simpa using ca) ?_))⟩
        rw [decide_eq_false cb]
        exact hjT
    · exact ⟨(false, false), Ev.bind (g := fun k => spec_l6Trace.f k xs) hs (Ev.ite_pos rfl (Ev.ite_neg (by simpa using ca) (Ev.now _))), Ev.bind hi (Ev.ite_pos rfl (Ev.ite_neg (by simpa using ca) hjT))⟩
theorem FnExactAheadIn : laws_FnExactAheadIn.Pure2 := by
  intro ys a b _ hb _ _
  apply Ev.rounds
  simp only [laws_FnExactAheadIn.f]
  have hsz : laws_szEventS.f ys 1048576 = some (if 1048576 - (ys.length : Int) < 0 then -1 else 1048576 - (ys.length : Int)) := by
    simp only [laws_szEventS.f]
    rw [wrap_id (by omega) (by omega)]
    split <;> rfl
  refine Ev.bind (Ev.const hsz) ?_
  by_cases h : 1048576 - (ys.length : Int) < 0
  · rw [if_pos h]; exact Ev.ite_pos (by omega) (Ev.now _)
  · rw [if_neg h]
    refine Ev.ite_neg h ?_
    have ht := toEventS_ev ys (by omega)
    obtain ⟨⟨r1, r2⟩, hs, hi⟩ := ahead_same (ys.map cv) (by simp; omega) a b
    have hn : ∀ b : Bool, (b != b) = false := fun b => by simp
    have hj : Ev (fun k => laws_FnExactAheadIn.j0 k ys (ys.map cv) (r2 != r2)) true := by
      rw [hn]
      refine Ev.step (fun k => by simp only [laws_FnExactAheadIn.j0]; rw [if_neg (by simp)]) ?_
      exact Ev.bind ht (Ev.bind (eqEventS_ev _ (by simp; omega)) (Ev.ite_pos rfl (Ev.now _)))
    exact Ev.bind ht (Ev.bind hs (Ev.bind ht (Ev.bind hi (Ev.ite_neg (by simp) hj))))

end Go.Proofs.Ytpfbiopcfbokbaa.Pure

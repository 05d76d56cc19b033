/- The pure statement of FnExactGoodTrace: both sides ask whether all events are good, and not more than 200. -/
import Derived.Test.YtomckmlhidhodaaQFnExactGoodTrace
import Derived.Test.YtomckmlhidhodaaMBase
import Derived.KernelRfl
set_option linter.unusedVariables false
set_option linter.unusedSimpArgs false
namespace Go.Proofs.Ytomckmlhidhodaa.Pure
open Go.RowKit Go.Proofs.Ytomckmlhidhodaa.GGoodTrace Go.Proofs.YtomckmlhidhodaaW.PrintWords Go.Proofs.YtomckmlhidhodaaW.PrintLast Go.Proofs.YtomckmlhidhodaaW.PrintMore Go.Proofs.Ytomckmlhidhodaa.MBase
theorem dec_of {b : Bool} {P : Prop} [Decidable P] (h : b = true ↔ P) : some b = some (decide P) := by
  congr 1
  cases hb : b
  · rw [hb] at h; simp at h; simp [h]
  · rw [hb] at h; simp at h; simp [h]
theorem l1In_dec (a b c : Int) : spec_l1In.f a b c = some (decide (b ≤ a ∧ a ≤ c)) := by
  unfold spec_l1In.f
  by_cases h : b ≤ a
  · rw [if_pos h]; simp [h]
  · rw [if_neg h]; simp [h]
theorem in_dec (a b c : Int) : impl_in.f a b c = some (decide (b ≤ a ∧ a ≤ c)) := l1In_dec a b c
def EvOk (a b c d e : Int) : Prop := (0 ≤ a ∧ a ≤ 4) ∧ (1 ≤ b ∧ b ≤ 12) ∧ (-1 ≤ c ∧ c ≤ 99) ∧ (-1 ≤ d ∧ d ≤ 99) ∧ (0 ≤ e ∧ e ≤ 99) ∧ ¬((2 ≤ b ∧ b ≤ 10) ∧ c < 0) ∧ ¬((b = 8 ∨ b = 9) ∧ d < 0)
instance (a b c d e : Int) : Decidable (EvOk a b c d e) := by unfold EvOk; infer_instance
theorem spec_ev (k : Nat) (a b c d e : Int) : spec_l6Event.f (k+1) a b c d e = some (decide (EvOk a b c d e)) := by
  unfold spec_l6Event.f spec_l6Event.j0
  simp only [l1In_dec, Option.bind_some, decide_eq_true_eq]
  repeat' split
  all_goals refine dec_of ?_
  all_goals simp only [EvOk, decide_eq_true_eq, beq_iff_eq, bne_iff_ne, Bool.false_eq_true, true_iff, false_iff, ne_eq, reduceCtorEq, not_true_eq_false, not_false_eq_true] at *
  all_goals omega
theorem good_ev (a b c d e : Int) : impl_Event_isGood.f a b c d e = some (decide (EvOk a b c d e)) := by
  unfold impl_Event_isGood.f
  simp only [in_dec, Option.bind_some, decide_eq_true_eq]
  repeat' split
  all_goals refine dec_of ?_
  all_goals simp only [EvOk, decide_eq_true_eq, beq_iff_eq, bne_iff_ne, Bool.false_eq_true, true_iff, false_iff, ne_eq, reduceCtorEq, not_true_eq_false, not_false_eq_true] at *
  all_goals omega
/-- A loop that goes on to n with the same result. -/
theorem ev_up {α : Type} (L : Nat → Int → Option α) (n : Nat) (r : α) (hs : ∀ i : Nat, i < n → Ev (fun k => L k ((i + 1 : Nat) : Int)) r → Ev (fun k => L k (i : Int)) r) (he : Ev (fun k => L k (n : Int)) r) :
    ∀ d i : Nat, i + d = n → Ev (fun k => L k (i : Int)) r
  | 0, i, h => by
    have : i = n := by omega
    subst this
    exact he
  | d + 1, i, h => hs i (by omega) (ev_up L n r hs he d (i + 1) (by omega))
/-- A loop that fills a row, place by place. -/
theorem ev_map {α β : Type} (L : Nat → List β → Int → Option (List β)) (xs : List α) (f : α → β) (z : α)
    (hs : ∀ (i : Nat) (acc r : List β), i < xs.length → acc.length = xs.length → Ev (fun k => L k (acc.set i (f (xs.getD i z))) ((i + 1 : Nat) : Int)) r → Ev (fun k => L k acc (i : Int)) r)
    (he : ∀ acc : List β, acc.length = xs.length → Ev (fun k => L k acc (xs.length : Int)) acc) :
    ∀ (d i : Nat) (acc : List β), i + d = xs.length → acc.length = xs.length → Ev (fun k => L k acc (i : Int)) (acc.take i ++ (xs.drop i).map f)
  | 0, i, acc, h, ha => by
    have e : acc.take i ++ (xs.drop i).map f = acc := by rw [List.take_of_length_le (by omega), List.drop_eq_nil_of_le (by omega), List.map_nil, List.append_nil]
    rw [e]
    have : i = xs.length := by omega
    subst this
    exact he acc ha
  | d + 1, i, acc, h, ha => by
    have ih := ev_map L xs f z hs he d (i + 1) (acc.set i (f (xs.getD i z))) (by omega) (by simpa using ha)
    have e : (acc.set i (f (xs.getD i z))).take (i + 1) ++ (xs.drop (i + 1)).map f = acc.take i ++ (xs.drop i).map f := by
      rw [List.take_succ_eq_append_getElem (by simp; omega), List.getElem_set_self, List.take_set, List.set_eq_of_length_le (by simp; omega), List.append_assoc, List.drop_eq_getElem_cons (show i < xs.length by omega), List.map_cons]
      simp [List.getD_eq_getElem?_getD, List.getElem?_eq_getElem (show i < xs.length by omega)]
    rw [e] at ih
    exact hs i acc _ (by omega) ha ih
theorem ev_map_all {α β : Type} (L : Nat → List β → Int → Option (List β)) (xs : List α) (f : α → β) (z : α) (y : β)
    (hs : ∀ (i : Nat) (acc r : List β), i < xs.length → acc.length = xs.length → Ev (fun k => L k (acc.set i (f (xs.getD i z))) ((i + 1 : Nat) : Int)) r → Ev (fun k => L k acc (i : Int)) r)
    (he : ∀ acc : List β, acc.length = xs.length → Ev (fun k => L k acc (xs.length : Int)) acc) :
    Ev (fun k => L k (List.replicate xs.length y) 0) (xs.map f) := by
  have h := ev_map L xs f z hs he xs.length 0 (List.replicate xs.length y) (by omega) (by simp)
  simpa using h
def gd (x : S50) : Bool := decide (EvOk x.f0 x.f1 x.f2 x.f3 x.f4)
theorem spec_gd (x : S50) : Ev (fun k => spec_l6Event.f k x.f0 x.f1 x.f2 x.f3 x.f4) (gd x) :=
  Ev.step (f := fun _ => some (gd x)) (fun k => spec_ev k _ _ _ _ _) (Ev.now _)
theorem impl_gd (x : S50) : impl_GoodTrace_1.f x.f0 x.f1 x.f2 x.f3 x.f4 = some (!gd x) := by
  simp only [impl_GoodTrace_1.f]; rw [good_ev, Option.bind_some]; rfl
theorem rd50 (xs : List S50) (i : Nat) (h : i < xs.length) : rd_T50 xs (i : Int) = xs[i] := by
  simp [rd_T50, h]
theorem spec_loop (xs : List S50) (hx : xs.length ≤ 1048576) : ∀ d i : Nat, i + d = xs.length → Ev (fun k => spec_l6Trace.l0 k xs xs (xs.length : Int) (i : Int)) ((xs.drop i).all gd && decide ((xs.length : Int) ≤ 200))
  | 0, i, h => by
    rw [List.drop_eq_nil_of_le (by omega)]
    refine Ev.step (f := fun _ => some (decide ((xs.length : Int) ≤ 200))) (fun k => ?_) (Ev.now _)
    simp only [spec_l6Trace.l0]; rw [if_neg (by omega)]
  | d + 1, i, h => by
    have hi : i < xs.length := by omega
    have ih := spec_loop xs hx d (i + 1) (by omega)
    rw [List.drop_eq_getElem_cons hi, List.all_cons]
    have hst : ∀ k, spec_l6Trace.l0 (k+1) xs xs (xs.length : Int) (i : Int) = (spec_l6Event.f k (xs[i]).f0 (xs[i]).f1 (xs[i]).f2 (xs[i]).f3 (xs[i]).f4).bind fun t => if t = true then spec_l6Trace.l0 k xs xs (xs.length : Int) ((i + 1 : Nat) : Int) else some false := by
      intro k
      simp only [spec_l6Trace.l0]
      rw [if_pos (by omega), if_pos (by omega), if_pos (by omega), wrap_id (n := (i : Int) + 1) (by omega) (by omega), rd50 xs i hi]
      rfl
    cases hg : gd xs[i] with
    | true =>
      rw [Bool.true_and]
      exact Ev.step hst (Ev.bind (spec_gd _) (Ev.ite_pos hg ih))
    | false =>
      rw [Bool.false_and, Bool.false_and]
      exact Ev.step hst (Ev.bind (spec_gd _) (Ev.ite_neg (by simp [hg]) (Ev.now _)))
theorem impl_loop (xs : List S50) (hx : xs.length ≤ 1048576) : ∀ d i : Nat, i + d = xs.length → ∃ r : Int, (decide (r ≥ 0) = !(xs.drop i).all gd) ∧ Ev (fun k => slices_IndexFunc_impl_GoodTrace_1.l0 k xs (xs.length : Int) (i : Int)) r
  | 0, i, h => by
    rw [List.drop_eq_nil_of_le (by omega)]
    refine ⟨-1, by simp, Ev.step (f := fun _ => some (-1)) (fun k => ?_) (Ev.now _)⟩
    simp only [slices_IndexFunc_impl_GoodTrace_1.l0]; rw [if_neg (by omega)]
  | d + 1, i, h => by
    have hi : i < xs.length := by omega
    rw [List.drop_eq_getElem_cons hi, List.all_cons]
    have hst : ∀ k, slices_IndexFunc_impl_GoodTrace_1.l0 (k+1) xs (xs.length : Int) (i : Int) = if (!gd xs[i]) = true then some (i : Int) else slices_IndexFunc_impl_GoodTrace_1.l0 k xs (xs.length : Int) ((i + 1 : Nat) : Int) := by
      intro k
      simp only [slices_IndexFunc_impl_GoodTrace_1.l0]
      rw [if_pos (by omega), if_pos (by omega), if_pos (by omega), wrap_id (n := (i : Int) + 1) (by omega) (by omega), rd50 xs i hi, impl_gd, Option.bind_some]
      rfl
    cases hg : gd xs[i] with
    | true =>
      obtain ⟨r, hr, ih⟩ := impl_loop xs hx d (i + 1) (by omega)
      exact ⟨r, by rw [Bool.true_and]; exact hr, Ev.step hst (Ev.ite_neg (by simp [hg]) ih)⟩
    | false =>
      exact ⟨(i : Int), by simp, Ev.step hst (Ev.ite_pos (by simp [hg]) (Ev.now _))⟩
def cv (x : S47) : S50 := ⟨x.f0, x.f1, x.f2, x.f3, x.f4⟩
theorem toEventS_ev (xs : List S47) (hx : xs.length ≤ 1048576) : Ev (fun k => laws_toEventS.f k xs) (xs.map cv) := by
  refine Ev.congr (fun k => ?_) (ev_map_all (fun k acc i => laws_toEventS.l0 k xs acc i) xs cv z47 z50 (fun i acc r hi ha h => ?_) (fun acc ha => ?_))
  · simp only [laws_toEventS.f]
    rw [if_pos (by omega), if_pos (by simp only [Int.toNat_natCast]; omega)]
    simp only [Int.toNat_natCast]
  · refine Ev.step (fun k => ?_) h
    simp only [laws_toEventS.l0, laws_toEvent.f, Option.bind_some]
    rw [if_pos (by omega), if_pos (by omega), if_pos (by omega), wrap_id (n := (i : Int) + 1) (by omega) (by omega)]
    rfl
  · refine Ev.step (f := fun _ => some acc) (fun k => ?_) (Ev.now _)
    simp only [laws_toEventS.l0]; rw [if_neg (by omega)]
theorem eqEvent_refl (x : S50) : laws_eqEvent.f x.f0 x.f1 x.f2 x.f3 x.f4 x.f0 x.f1 x.f2 x.f3 x.f4 = some true := by
  simp [laws_eqEvent.f]
theorem eqEventS_ev (xs : List S50) (hx : xs.length ≤ 1048576) : Ev (fun k => laws_eqEventS.f k xs xs) true := by
  have h := ev_up (fun k i => laws_eqEventS.l0 k xs xs i) xs.length true (fun i hi h => ?_) ?_ xs.length 0 (by omega)
  · refine Ev.congr (fun k => ?_) h
    simp only [laws_eqEventS.f]; rw [if_pos trivial]; rfl
  · refine Ev.step (fun k => ?_) h
    simp only [laws_eqEventS.l0]
    rw [if_pos (by omega), if_pos (by omega), if_pos (by omega), eqEvent_refl, Option.bind_some, if_pos rfl, wrap_id (n := (i : Int) + 1) (by omega) (by omega)]
    rfl
  · refine Ev.step (f := fun _ => some true) (fun k => ?_) (Ev.now _)
    simp only [laws_eqEventS.l0]; rw [if_neg (by omega)]
theorem trace_same (xs : List S50) (hx : xs.length ≤ 1048576) : ∃ r, Ev (fun k => spec_GoodTrace.f k xs) r ∧ Ev (fun k => impl_GoodTrace.f k xs) r := by
  have hs := spec_loop xs hx xs.length 0 (by omega)
  rw [List.drop_zero] at hs
  refine ⟨_, Ev.bind (f := fun _ t => some t) hs (Ev.now _), ?_⟩
  simp only [impl_GoodTrace.f]
  by_cases h : (xs.length : Int) ≤ 200
  · obtain ⟨r, hr, hi⟩ := impl_loop xs hx xs.length 0 (by omega)
    rw [List.drop_zero] at hr
    refine Ev.ite_pos h ?_
    have e : (xs.all gd && decide ((xs.length : Int) ≤ 200)) = !(decide (r ≥ 0)) := by rw [hr]; simp [h]
    rw [e]
    exact Ev.bind (f := fun _ t => some (!t)) (g := fun k => slices_ContainsFunc_impl_GoodTrace_1.f k xs) (Ev.bind (f := fun _ t => some (decide (t ≥ 0))) hi (Ev.now _)) (Ev.now _)
  · refine Ev.ite_neg h ?_
    have e : (xs.all gd && decide ((xs.length : Int) ≤ 200)) = false := by simp [h]
    rw [e]
    exact Ev.now _
theorem FnExactGoodTrace : laws_FnExactGoodTrace.Pure2 := by
  intro ys _ hb
  apply Ev.rounds
  simp only [laws_FnExactGoodTrace.f]
  have hsz : laws_szEventS.f ys 1048576 = some (if 1048576 - (ys.length : Int) < 0 then -1 else 1048576 - (ys.length : Int)) := by
    simp only [laws_szEventS.f]
    rw [wrap_id (by omega) (by omega)]
    split <;> rfl
  refine Ev.bind (Ev.const hsz) ?_
  by_cases h : 1048576 - (ys.length : Int) < 0
  · rw [if_pos h]; exact Ev.ite_pos (by omega) (Ev.now _)
  · rw [if_neg h]
    refine Ev.ite_neg h ?_
    have ht := toEventS_ev ys (by omega)
    obtain ⟨r, hs, hi⟩ := trace_same (ys.map cv) (by simp; omega)
    refine Ev.bind ht (Ev.bind hs (Ev.bind ht (Ev.bind hi (Ev.ite_neg (by simp) (Ev.bind ht (Ev.bind (eqEventS_ev _ (by simp; omega)) (Ev.ite_pos rfl (Ev.now _))))))))

end Go.Proofs.Ytomckmlhidhodaa.Pure

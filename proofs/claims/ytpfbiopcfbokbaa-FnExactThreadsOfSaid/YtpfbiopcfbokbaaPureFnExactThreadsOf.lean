/- The pure statement of FnExactThreadsOf: both sides list the threads of a trace of at most 200 events. -/
import Derived.Test.YtpfbiopcfbokbaaQFnExactThreadsOf
import Derived.Test.YtpfbiopcfbokbaaMBase
import Derived.KernelRfl
import Derived.Test.YtpfbiopcfbokbaaMNum
set_option linter.unusedVariables false
set_option linter.unusedSimpArgs false
namespace Go.Proofs.Ytpfbiopcfbokbaa.Pure
open Go.RowKit Go.Proofs.Ytpfbiopcfbokbaa.GThreadsOf Go.Proofs.YtpfbiopcfbokbaaW.PrintWords Go.Proofs.YtpfbiopcfbokbaaW.PrintLast Go.Proofs.YtpfbiopcfbokbaaW.PrintMore Go.Proofs.Ytpfbiopcfbokbaa.MBase
open Go.Proofs.Ytpfbiopcfbokbaa.MNum Go.Proofs.Ytpfbiopcfbokbaa.MIeee
/-- A loop that goes on to n with the same result. -/
theorem ev_up {α : Type} (L : Nat → Int → Option α) (n : Nat) (r : α) (hs : ∀ i : Nat, i < n → Ev (fun k => L k ((i + 1 : Nat) : Int)) r → Ev (fun k => L k (i : Int)) r) (he : Ev (fun k => L k (n : Int)) r) :
    ∀ d i : Nat, i + d = n → Ev (fun k => L k (i : Int)) r
  | 0, i, h => by
    have : i = n := by omega
    subst this
    exact he
  | d + 1, i, h => hs i (by omega) (ev_up L n r hs he d (i + 1) (by omega))
/-- A loop that fills a row, place by place. -/
theorem ev_map {α β : Type} (L : Nat → List β → Int → Option (List β)) (xs : List α) (f : α → β) (z : α)
    (hs : ∀ (i : Nat) (acc r : List β), i < xs.length → acc.length = xs.length → Ev (fun k => L k (acc.set i (f (xs.getD i z))) ((i + 1 : Nat) : Int)) r → Ev (fun k => L k acc (i : Int)) r)
    (he : ∀ acc : List β, acc.length = xs.length → Ev (fun k => L k acc (xs.length : Int)) acc) :
    ∀ (d i : Nat) (acc : List β), i + d = xs.length → acc.length = xs.length → Ev (fun k => L k acc (i : Int)) (acc.take i ++ (xs.drop i).map f)
  | 0, i, acc, h, ha => by
    have e : acc.take i ++ (xs.drop i).map f = acc := by rw [List.take_of_length_le (by omega), List.drop_eq_nil_of_le (by omega), List.map_nil, List.append_nil]
    rw [e]
    have : i = xs.length := by omega
    subst this
    exact he acc ha
  | d + 1, i, acc, h, ha => by
    have ih := ev_map L xs f z hs he d (i + 1) (acc.set i (f (xs.getD i z))) (by omega) (by simpa using ha)
    have e : (acc.set i (f (xs.getD i z))).take (i + 1) ++ (xs.drop (i + 1)).map f = acc.take i ++ (xs.drop i).map f := by
      rw [List.take_succ_eq_append_getElem (by simp; omega), List.getElem_set_self, List.take_set, List.set_eq_of_length_le (by simp; omega), List.append_assoc, List.drop_eq_getElem_cons (show i < xs.length by omega), List.map_cons]
      simp [List.getD_eq_getElem?_getD, List.getElem?_eq_getElem (show i < xs.length by omega)]
    rw [e] at ih
    exact hs i acc _ (by omega) ha ih
theorem ev_map_all {α β : Type} (L : Nat → List β → Int → Option (List β)) (xs : List α) (f : α → β) (z : α) (y : β)
    (hs : ∀ (i : Nat) (acc r : List β), i < xs.length → acc.length = xs.length → Ev (fun k => L k (acc.set i (f (xs.getD i z))) ((i + 1 : Nat) : Int)) r → Ev (fun k => L k acc (i : Int)) r)
    (he : ∀ acc : List β, acc.length = xs.length → Ev (fun k => L k acc (xs.length : Int)) acc) :
    Ev (fun k => L k (List.replicate xs.length y) 0) (xs.map f) := by
  have h := ev_map L xs f z hs he xs.length 0 (List.replicate xs.length y) (by omega) (by simp)
  simpa using h
theorem toIntS_l0 (xs : List Int) (hx : xs.length ≤ 1048576) : ∀ (d i : Nat) (acc : List Int), i + d = xs.length → acc.length = xs.length →
    Ev (fun k => laws_toIntS.l0 k xs acc (i : Int)) (acc.take i ++ xs.drop i)
  | 0, i, acc, h, ha => by
    have e : acc.take i ++ xs.drop i = acc := by rw [List.take_of_length_le (by omega), List.drop_eq_nil_of_le (by omega), List.append_nil]
    rw [e]
    refine Ev.step (f := fun _ => some acc) (fun k => ?_) (Ev.now _)
    simp only [laws_toIntS.l0]
    rw [if_neg (by omega)]
  | d + 1, i, acc, h, ha => by
    have ih := toIntS_l0 xs hx d (i + 1) (acc.set i (xs.getD i 0)) (by omega) (by simpa using ha)
    rw [set_take_drop xs acc 0 i (by omega) ha] at ih
    refine Ev.step (fun k => ?_) ih
    simp only [laws_toIntS.l0]
    rw [if_pos (by omega), if_pos (by omega), if_pos (by omega), wrap_id (by omega) (by omega), rd_nat]
    rfl
theorem toIntS_ev (xs : List Int) (hx : xs.length ≤ 1048576) : Ev (fun k => laws_toIntS.f k xs) xs := by
  have h := toIntS_l0 xs hx xs.length 0 (List.replicate xs.length 0) (by omega) (by simp)
  simp only [List.take_zero, List.drop_zero, List.nil_append] at h
  refine Ev.congr (fun k => ?_) h
  simp only [laws_toIntS.f]
  rw [if_pos (by omega), if_pos (by simp only [Int.toNat_natCast]; omega)]
  simp only [Int.toNat_natCast]
  rfl
theorem eqIntS_l0 (xs : List Int) (hx : xs.length ≤ 1048576) : ∀ (d i : Nat), i + d = xs.length → Ev (fun k => laws_eqIntS.l0 k xs xs (i : Int)) true
  | 0, i, h => by
    refine Ev.step (f := fun _ => some true) (fun k => ?_) (Ev.now _)
    simp only [laws_eqIntS.l0]
    rw [if_neg (by omega)]
  | d + 1, i, h => by
    refine Ev.step (fun k => ?_) (eqIntS_l0 xs hx d (i + 1) (by omega))
    simp only [laws_eqIntS.l0]
    rw [if_pos (by omega), if_pos (by omega), if_pos (by omega), if_pos trivial, wrap_id (by omega) (by omega)]
    rfl
theorem eqIntS_ev (xs : List Int) (hx : xs.length ≤ 1048576) : Ev (fun k => laws_eqIntS.f k xs xs) true := by
  refine Ev.congr (fun k => ?_) (eqIntS_l0 xs hx xs.length 0 (by omega))
  simp only [laws_eqIntS.f]
  rw [if_pos trivial]
  rfl
theorem sz_int (l : List Int) (m : Int) (h0 : 0 ≤ m) (h1 : m ≤ 1048576) (hl : l.length ≤ 9223372036854775807) : laws_szIntS.f l m = some (if m - (l.length : Int) < 0 then -1 else m - (l.length : Int)) := by
  simp only [laws_szIntS.f]
  rw [wrap_id (by omega) (by omega)]
  split <;> rfl
theorem sameFloat_ev {x y : Nat} (hx : x < 18446744073709551616) (hy : y < 18446744073709551616) : Ev (fun k => laws_sameFloat.f k x y) (if isNan x = true then isNan y else decide (isNan y = false ∧ x = y)) := by
  simp only [laws_sameFloat.f, feq_self]
  cases hn : isNan x with
  | true =>
    rw [if_pos rfl]
    refine Ev.ite_neg (by simp) (Ev.step (f := fun _ => some (isNan y)) (fun k => ?_) (Ev.now _))
    simp only [laws_sameFloat.j0, feq_self, hn]; rw [if_pos trivial, if_neg (by simp)]; cases isNan y <;> rfl
  | false =>
    rw [if_neg (by simp)]
    refine Ev.ite_pos rfl ?_
    refine Ev.step (f := fun _ => some (decide (isNan y = false ∧ x = y))) (fun k => ?_) (Ev.now _)
    simp only [laws_sameFloat.j0, feq_self, hn]
    cases hm : isNan y with
    | true => simp
    | false =>
      rw [if_neg (by simp), feq_eq hn nan_zero, feq_eq hm nan_zero, feq_eq hn hm, key_zero]
      simp only [decide_eq_true_eq, true_and]
      by_cases h0 : key x = 0
      · rw [if_pos h0]
        by_cases h1 : key y = 0
        · rw [if_pos h1]
          rcases zero_cases hx (key_rg_zero.mp h0) with rfl | rfl <;> rcases zero_cases hy (key_rg_zero.mp h1) with rfl | rfl
          · rw [if_pos inv_pz.1, if_pos inv_pz.1, inv_pz.2.2]; rfl
          · rw [if_pos inv_pz.1, if_pos inv_nz.1, inv_pz.2.2, inv_nz.2.2]; rfl
          · rw [if_pos inv_nz.1, if_pos inv_pz.1, inv_pz.2.2, inv_nz.2.2]; rfl
          · rw [if_pos inv_nz.1, if_pos inv_nz.1, inv_nz.2.2]; rfl
        · rw [if_neg h1]
          congr 1
          rw [decide_eq_decide]
          exact ⟨fun q => absurd (q ▸ h0) h1, fun q => by rw [q]⟩
      · rw [if_neg h0]
        congr 1
        rw [decide_eq_decide]
        exact ⟨fun q => key_inj hx hy (fun z => h0 (key_rg_zero.mpr z)) q, fun q => by rw [q]⟩
theorem sameFloat_refl (x : Nat) (hx : x < 18446744073709551616) : Ev (fun k => laws_sameFloat.f k x x) true := by
  have h := sameFloat_ev hx hx
  cases hn : isNan x <;> rw [hn] at h <;> simpa using h
theorem toFloatS_ev (xs : List Nat) (hx : xs.length ≤ 1048576) : Ev (fun k => laws_toFloat64S.f k xs) xs := by
  have h : Ev (fun k => laws_toFloat64S.l0 k xs (List.replicate xs.length 0) 0) (xs.map id) := by
    refine ev_map_all (fun k acc i => laws_toFloat64S.l0 k xs acc i) xs id 0 0 (fun i acc r hi ha h => ?_) (fun acc ha => ?_)
    · refine Ev.step (fun k => ?_) h
      simp only [laws_toFloat64S.l0]
      rw [if_pos (by omega), if_pos (by omega), if_pos (by omega), wrap_id (n := (i : Int) + 1) (by omega) (by omega)]
      rfl
    · refine Ev.step (f := fun _ => some acc) (fun k => ?_) (Ev.now _)
      simp only [laws_toFloat64S.l0]; rw [if_neg (by omega)]
  rw [List.map_id] at h
  refine Ev.congr (fun k => ?_) h
  simp only [laws_toFloat64S.f]
  rw [if_pos (by omega), if_pos (by simp only [Int.toNat_natCast]; omega)]
  simp only [Int.toNat_natCast]
theorem eqFloatS_ev (xs : List Nat) (hx : xs.length ≤ 1048576) (hf : ∀ x ∈ xs, x < 18446744073709551616) : Ev (fun k => laws_eqFloat64S.f k xs xs) true := by
  have h := ev_up (fun k i => laws_eqFloat64S.l0 k xs xs i) xs.length true (fun i hi h => ?_) ?_ xs.length 0 (by omega)
  · refine Ev.congr (fun k => ?_) h
    simp only [laws_eqFloat64S.f]; rw [if_pos trivial]; rfl
  · have hr : rdOf (0 : Nat) xs (i : Int) = xs[i] := by simp [rdOf, hi]
    refine Ev.step (f := fun k => (laws_sameFloat.f k xs[i] xs[i]).bind fun t => if t = true then laws_eqFloat64S.l0 k xs xs ((i + 1 : Nat) : Int) else some false) (fun k => ?_) (Ev.bind (sameFloat_refl xs[i] (hf _ (List.getElem_mem _))) (Ev.ite_pos rfl h))
    simp only [laws_eqFloat64S.l0]
    rw [if_pos (by omega), if_pos (by omega), if_pos (by omega), wrap_id (n := (i : Int) + 1) (by omega) (by omega), hr]
    rfl
  · refine Ev.step (f := fun _ => some true) (fun k => ?_) (Ev.now _)
    simp only [laws_eqFloat64S.l0]; rw [if_neg (by omega)]
theorem sz_float (l : List Nat) (m : Int) (h0 : 0 ≤ m) (h1 : m ≤ 1048576) (hl : l.length ≤ 9223372036854775807) : laws_szFloat64S.f l m = some (if m - (l.length : Int) < 0 then -1 else m - (l.length : Int)) := by
  simp only [laws_szFloat64S.f]
  rw [wrap_id (by omega) (by omega)]
  split <;> rfl
def cvT (x : S190) : S191 := ⟨x.f0, x.f1, x.f2, x.f3, x.f4, x.f5⟩
theorem toThreadS_ev (xs : List S190) (hx : xs.length ≤ 1048576) (hs : ∀ t ∈ xs, t.f5.length ≤ 1048576) : Ev (fun k => laws_toThreadS.f k xs) (xs.map cvT) := by
  refine Ev.congr (fun k => ?_) (ev_map_all (fun k acc i => laws_toThreadS.l0 k xs acc i) xs cvT z190 z191 (fun i acc r hi ha h => ?_) (fun acc ha => ?_))
  · simp only [laws_toThreadS.f]
    rw [if_pos (by omega), if_pos (by simp only [Int.toNat_natCast]; omega)]
    simp only [Int.toNat_natCast]
  · have hr : rd_T190 xs (i : Int) = xs[i] := by simp [rd_T190, hi]
    have hz : xs.getD i z190 = xs[i] := by simp [hi]
    rw [hz] at h
    have ht : Ev (fun k => laws_toThread.f k (xs[i]).f0 (xs[i]).f1 (xs[i]).f2 (xs[i]).f3 (xs[i]).f4 (xs[i]).f5) ((xs[i]).f0, (xs[i]).f1, (xs[i]).f2, (xs[i]).f3, (xs[i]).f4, (xs[i]).f5) := Ev.bind (toFloatS_ev _ (hs _ (List.getElem_mem _))) (Ev.now _)
    refine Ev.step (f := fun k => (laws_toThread.f k (xs[i]).f0 (xs[i]).f1 (xs[i]).f2 (xs[i]).f3 (xs[i]).f4 (xs[i]).f5).bind fun bt => laws_toThreadS.l0 k xs (acc.set i (⟨bt.1, bt.2.1, bt.2.2.1, bt.2.2.2.1, bt.2.2.2.2.1, bt.2.2.2.2.2⟩ : S191)) ((i + 1 : Nat) : Int)) (fun k => ?_) (Ev.bind ht h)
    simp only [laws_toThreadS.l0]
    rw [if_pos (by omega), if_pos (by omega), wrap_id (n := (i : Int) + 1) (by omega) (by omega), hr]
    congr 1
    funext bt
    rw [if_pos (by omega)]
    rfl
  · refine Ev.step (f := fun _ => some acc) (fun k => ?_) (Ev.now _)
    simp only [laws_toThreadS.l0]; rw [if_neg (by omega)]
theorem eqThreadS_ev (xs : List S191) (hx : xs.length ≤ 1048576) (hs : ∀ t ∈ xs, t.f5.length ≤ 1048576 ∧ ∀ x ∈ t.f5, x < 18446744073709551616) : Ev (fun k => laws_eqThreadS.f k xs xs) true := by
  have h := ev_up (fun k i => laws_eqThreadS.l0 k xs xs i) xs.length true (fun i hi h => ?_) ?_ xs.length 0 (by omega)
  · refine Ev.congr (fun k => ?_) h
    simp only [laws_eqThreadS.f]; rw [if_pos trivial]; rfl
  · have hr : rd_T191 xs (i : Int) = xs[i] := by simp [rd_T191, hi]
    obtain ⟨h1, h2⟩ := hs _ (List.getElem_mem hi)
    have he : Ev (fun k => laws_eqThread.f k (xs[i]).f0 (xs[i]).f1 (xs[i]).f2 (xs[i]).f3 (xs[i]).f4 (xs[i]).f5 (xs[i]).f0 (xs[i]).f1 (xs[i]).f2 (xs[i]).f3 (xs[i]).f4 (xs[i]).f5) true := by
      simp only [laws_eqThread.f]
      exact Ev.ite_pos trivial (Ev.ite_pos trivial (Ev.ite_pos trivial (Ev.ite_pos trivial (Ev.ite_pos trivial (Ev.bind (eqFloatS_ev _ h1 h2) (Ev.ite_pos rfl (Ev.now _)))))))
    refine Ev.step (f := fun k => (laws_eqThread.f k (xs[i]).f0 (xs[i]).f1 (xs[i]).f2 (xs[i]).f3 (xs[i]).f4 (xs[i]).f5 (xs[i]).f0 (xs[i]).f1 (xs[i]).f2 (xs[i]).f3 (xs[i]).f4 (xs[i]).f5).bind fun t => if t = true then laws_eqThreadS.l0 k xs xs ((i + 1 : Nat) : Int) else some false) (fun k => ?_) (Ev.bind he (Ev.ite_pos rfl h))
    simp only [laws_eqThreadS.l0]
    rw [if_pos (by omega), if_pos (by omega), if_pos (by omega), wrap_id (n := (i : Int) + 1) (by omega) (by omega), hr]
    rfl
  · refine Ev.step (f := fun _ => some true) (fun k => ?_) (Ev.now _)
    simp only [laws_eqThreadS.l0]; rw [if_neg (by omega)]
theorem sz_threads (xs : List S190) (hx : xs.length ≤ 9223372036854775807) (hs : ∀ t ∈ xs, t.f5.length ≤ 9223372036854775807) : ∀ (d i : Nat) (m : Int), i + d = xs.length → 0 ≤ m → m ≤ 1048576 →
    ∃ v, Ev (fun k => laws_szThreadS.l0 k xs m (i : Int)) v ∧ (0 ≤ v → v ≤ m ∧ ∀ j, i ≤ j → (hj : j < xs.length) → (xs[j]).f5.length ≤ 1048576)
  | 0, i, m, h, h0, h1 => by
    refine ⟨m, Ev.step (f := fun _ => some m) (fun k => ?_) (Ev.now _), fun _ => ⟨Int.le_refl _, fun j h1 h2 => by omega⟩⟩
    simp only [laws_szThreadS.l0]; rw [if_neg (by omega)]
  | d + 1, i, m, h, h0, h1 => by
    have hi : i < xs.length := by omega
    have hr : rd_T190 xs (i : Int) = xs[i] := by simp [rd_T190, hi]
    have hl := hs _ (List.getElem_mem hi)
    have hst : ∀ k, laws_szThreadS.l0 (k + 1) xs m (i : Int) = if m - ((xs[i]).f5.length : Int) < 0 then some (-1) else laws_szThreadS.l0 k xs (m - ((xs[i]).f5.length : Int)) ((i + 1 : Nat) : Int) := by
      intro k
      simp only [laws_szThreadS.l0, laws_szThread.f]
      rw [if_pos (by omega), if_pos (by omega), hr, sz_float _ m h0 h1 hl, Option.bind_some, wrap_id (n := (i : Int) + 1) (by omega) (by omega)]
      by_cases c : m - ((xs[i]).f5.length : Int) < 0
      · rw [if_pos c, if_pos c, if_pos (by omega)]
        simp only [Option.bind_some]
        rw [if_pos (by omega)]
      · rw [if_neg c, if_neg c, if_neg c]
        simp only [Option.bind_some]
        rw [if_neg c]
        rfl
    by_cases c : m - ((xs[i]).f5.length : Int) < 0
    · exact ⟨-1, Ev.step hst (Ev.ite_pos c (Ev.now _)), fun q => by omega⟩
    · obtain ⟨v, hv, hq⟩ := sz_threads xs hx hs d (i + 1) (m - ((xs[i]).f5.length : Int)) (by omega) (by omega) (by omega)
      refine ⟨v, Ev.step hst (Ev.ite_neg c hv), fun q => ⟨by have := (hq q).1; omega, fun j h1 hj => ?_⟩⟩
      by_cases e : j = i
      · subst e; omega
      · exact (hq q).2 j (by omega) hj
theorem sz_threadS (xs : List S190) (m : Int) (hx : xs.length ≤ 9223372036854775807) (hs : ∀ t ∈ xs, t.f5.length ≤ 9223372036854775807) (h0 : 0 ≤ m) (h1 : m ≤ 1048576) :
    ∃ v, Ev (fun k => laws_szThreadS.f k xs m) v ∧ (0 ≤ v → v ≤ m ∧ xs.length ≤ 1048576 ∧ ∀ t ∈ xs, t.f5.length ≤ 1048576) := by
  simp only [laws_szThreadS.f]
  rw [wrap_id (n := m - (xs.length : Int)) (by omega) (by omega)]
  by_cases c : m - (xs.length : Int) < 0
  · exact ⟨-1, Ev.ite_pos c (Ev.now _), fun q => by omega⟩
  · obtain ⟨v, hv, hq⟩ := sz_threads xs hx hs xs.length 0 (m - (xs.length : Int)) (by omega) (by omega) (by omega)
    refine ⟨v, Ev.ite_neg c hv, fun q => ⟨by have := (hq q).1; omega, by omega, fun t ht => ?_⟩⟩
    obtain ⟨j, hj, rfl⟩ := List.getElem_of_mem ht
    exact (hq q).2 j (by omega) hj
theorem sz_stateM (ts : List S190) (cs : List Nat) (os : List Int) (fa : Int) (m : Int) (hm0 : 0 ≤ m) (hm1 : m ≤ 1048576) (hx : ts.length ≤ 9223372036854775807) (hs : ∀ t ∈ ts, t.f5.length ≤ 9223372036854775807) (hc : cs.length ≤ 9223372036854775807) (ho : os.length ≤ 9223372036854775807) :
    ∃ v, Ev (fun k => laws_szState.f k ts cs os fa m) v ∧ (0 ≤ v → v ≤ m ∧ ts.length ≤ 1048576 ∧ (∀ t ∈ ts, t.f5.length ≤ 1048576) ∧ cs.length ≤ 1048576 ∧ os.length ≤ 1048576) := by
  obtain ⟨v, hv, hq⟩ := sz_threadS ts m hx hs hm0 hm1
  simp only [laws_szState.f]
  by_cases c0 : v < 0
  · exact ⟨-1, Ev.bind hv (Ev.ite_pos c0 (Ev.now _)), fun q => by omega⟩
  · obtain ⟨q0, q1, q2⟩ := hq (by omega)
    have e1 := sz_float cs v (by omega) (by omega) hc
    by_cases c1 : v - (cs.length : Int) < 0
    · rw [if_pos c1] at e1
      exact ⟨-1, Ev.bind hv (Ev.ite_neg c0 (Ev.bind (Ev.const e1) (Ev.ite_pos (by omega) (Ev.now _)))), fun q => by omega⟩
    · rw [if_neg c1] at e1
      have e2 := sz_int os (v - (cs.length : Int)) (by omega) (by omega) ho
      by_cases c2 : v - (cs.length : Int) - (os.length : Int) < 0
      · rw [if_pos c2] at e2
        exact ⟨-1, Ev.bind hv (Ev.ite_neg c0 (Ev.bind (Ev.const e1) (Ev.ite_neg c1 (Ev.bind (Ev.const e2) (Ev.ite_pos (by omega) (Ev.now _)))))), fun q => by omega⟩
      · rw [if_neg c2] at e2
        exact ⟨_, Ev.bind hv (Ev.ite_neg c0 (Ev.bind (Ev.const e1) (Ev.ite_neg c1 (Ev.bind (Ev.const e2) (Ev.ite_neg c2 (Ev.now _)))))), fun q => ⟨by omega, q1, q2, by omega, by omega⟩⟩
theorem sz_state (ts : List S190) (cs : List Nat) (os : List Int) (fa : Int) (hx : ts.length ≤ 9223372036854775807) (hs : ∀ t ∈ ts, t.f5.length ≤ 9223372036854775807) (hc : cs.length ≤ 9223372036854775807) (ho : os.length ≤ 9223372036854775807) :
    ∃ v, Ev (fun k => laws_szState.f k ts cs os fa 1048576) v ∧ (0 ≤ v → ts.length ≤ 1048576 ∧ (∀ t ∈ ts, t.f5.length ≤ 1048576) ∧ cs.length ≤ 1048576 ∧ os.length ≤ 1048576) := by
  obtain ⟨v, hv, hq⟩ := sz_stateM ts cs os fa 1048576 (by omega) (by omega) hx hs hc ho
  exact ⟨v, hv, fun q => (hq q).2⟩
theorem markIntS_l0 (n : Nat) (hn : n ≤ 1048576) : ∀ (d i : Nat) (xs : List Int) (a : Int), i + d = n → xs.length = n → 0 ≤ a → a + (d : Int) ≤ 5000000000000000000 →
    Ev (fun k => laws_markIntS.l0 k xs a (i : Int)) (a + d, xs.take i ++ iota a d)
  | 0, i, xs, a, h, hl, h0, h1 => by
    have e : xs.take i ++ iota a 0 = xs := by rw [List.take_of_length_le (by omega), iota, List.append_nil]
    rw [e]
    refine Ev.step (f := fun _ => some (a, xs)) (fun k => ?_) ⟨0, fun _ _ => by simp⟩
    simp only [laws_markIntS.l0]
    rw [if_neg (by omega)]
  | d + 1, i, xs, a, h, hl, h0, h1 => by
    have ih := markIntS_l0 n hn d (i + 1) (xs.set i a) (a + 1) (by omega) (by simpa using hl) (by omega) (by omega)
    have e : (xs.set i a).take (i + 1) ++ iota (a + 1) d = xs.take i ++ iota a (d + 1) := by
      rw [List.take_succ_eq_append_getElem (by simp; omega), List.getElem_set_self, List.take_set, List.set_eq_of_length_le (by simp; omega), List.append_assoc]
      rfl
    rw [e, show a + 1 + (d : Int) = a + ((d + 1 : Nat) : Int) from by omega] at ih
    refine Ev.step (fun k => ?_) ih
    simp only [laws_markIntS.l0]
    rw [if_pos (by omega), if_pos (by omega), wrap_id (by omega) (by omega), wrap_id (by omega) (by omega)]
    rfl
theorem markIntS_ev (xs : List Int) (a : Int) (hn : xs.length ≤ 1048576) (h0 : 0 ≤ a) (h1 : a ≤ 4611686018427387000) : Ev (fun k => laws_markIntS.f k xs a) (a + xs.length, iota a xs.length) := by
  have h := markIntS_l0 xs.length hn xs.length 0 xs a (by omega) rfl h0 (by omega)
  simp only [List.take_zero, List.nil_append] at h
  exact h
theorem heldIntS_l0 (n : Nat) (hn : n ≤ 1048576) (a : Int) (h0 : 0 ≤ a) (h1 : a ≤ 4611686018427387000) : ∀ (d i : Nat), i + d = n →
    Ev (fun k => laws_heldIntS.l0 k (iota a n) (a + i) (i : Int)) (a + n)
  | 0, i, h => by
    obtain rfl : i = n := by omega
    refine Ev.step (f := fun _ => some (a + (i : Int))) (fun k => ?_) (Ev.now _)
    simp only [laws_heldIntS.l0, iota_length]
    rw [if_neg (by omega)]
  | d + 1, i, h => by
    refine Ev.step (fun k => ?_) (heldIntS_l0 n hn a h0 h1 d (i + 1) (by omega))
    simp only [laws_heldIntS.l0, iota_length]
    rw [if_pos (by omega), if_pos (by omega), if_pos (by rw [rd_nat, iota_getD _ _ _ (by omega)]), wrap_id (by omega) (by omega), wrap_id (by omega) (by omega), show a + (i : Int) + 1 = a + ((i + 1 : Nat) : Int) from by omega]
    rfl
theorem heldIntS_ev (n : Nat) (a : Int) (hn : n ≤ 1048576) (h0 : 0 ≤ a) (h1 : a ≤ 4611686018427387000) : Ev (fun k => laws_heldIntS.f k (iota a n) a) (a + n) := by
  have h := heldIntS_l0 n hn a h0 h1 n 0 (by omega)
  simp only [Int.ofNat_zero, Int.add_zero, Int.natCast_zero] at h
  exact h
def goodT (t : S191) : Prop := t.f5.length ≤ 1048576 ∧ ∀ x ∈ t.f5, x < 18446744073709551616
theorem rdE (xs : List S118) (i : Nat) (h : i < xs.length) : rd_T118 xs (i : Int) = xs[i] := by
  simp [rd_T118, h]
def cvE (x : S120) : S118 := ⟨x.f0, x.f1, x.f2, x.f3, x.f4⟩
theorem toEventS_ev (xs : List S120) (hx : xs.length ≤ 1048576) : Ev (fun k => laws_toEventS.f k xs) (xs.map cvE) := by
  refine Ev.congr (fun k => ?_) (ev_map_all (fun k acc i => laws_toEventS.l0 k xs acc i) xs cvE z120 z118 (fun i acc r hi ha h => ?_) (fun acc ha => ?_))
  · simp only [laws_toEventS.f]
    rw [if_pos (by omega), if_pos (by simp only [Int.toNat_natCast]; omega)]
    simp only [Int.toNat_natCast]
  · refine Ev.step (fun k => ?_) h
    simp only [laws_toEventS.l0, laws_toEvent.f, Option.bind_some]
    rw [if_pos (by omega), if_pos (by omega), if_pos (by omega), wrap_id (n := (i : Int) + 1) (by omega) (by omega)]
    rfl
  · refine Ev.step (f := fun _ => some acc) (fun k => ?_) (Ev.now _)
    simp only [laws_toEventS.l0]; rw [if_neg (by omega)]
theorem eqEvent_refl (x : S118) : laws_eqEvent.f x.f0 x.f1 x.f2 x.f3 x.f4 x.f0 x.f1 x.f2 x.f3 x.f4 = some true := by
  simp [laws_eqEvent.f]
theorem eqEventS_ev (xs : List S118) (hx : xs.length ≤ 1048576) : Ev (fun k => laws_eqEventS.f k xs xs) true := by
  have h := ev_up (fun k i => laws_eqEventS.l0 k xs xs i) xs.length true (fun i hi h => ?_) ?_ xs.length 0 (by omega)
  · refine Ev.congr (fun k => ?_) h
    simp only [laws_eqEventS.f]; rw [if_pos trivial]; rfl
  · refine Ev.step (fun k => ?_) h
    simp only [laws_eqEventS.l0]
    rw [if_pos (by omega), if_pos (by omega), if_pos (by omega), eqEvent_refl, Option.bind_some, if_pos rfl, wrap_id (n := (i : Int) + 1) (by omega) (by omega)]
    rfl
  · refine Ev.step (f := fun _ => some true) (fun k => ?_) (Ev.now _)
    simp only [laws_eqEventS.l0]; rw [if_neg (by omega)]
theorem sz_event (l : List S120) (m : Int) (h0 : 0 ≤ m) (h1 : m ≤ 1048576) (hl : l.length ≤ 9223372036854775807) : laws_szEventS.f l m = some (if m - (l.length : Int) < 0 then -1 else m - (l.length : Int)) := by
  simp only [laws_szEventS.f]
  rw [wrap_id (by omega) (by omega)]
  split <;> rfl
/-! The marks. -/
theorem event_round (ys : List S118) (i : Nat) (a : Int) (hi : i < ys.length) (hl : ys.length ≤ 1048576) (h0 : 0 ≤ a) (h1 : a ≤ 4611686018427387000) :
    ∃ zs : List S118, zs.length = ys.length ∧ ∀ k, laws_markEventS.l0 (k + 1) ys a (i : Int) = laws_markEventS.l0 k zs (a + 1 + 1 + 1 + 1 + 1) ((i + 1 : Nat) : Int) := by
  have w1 : wrap64 (a + 1) = a + 1 := wrap_id (by omega) (by omega)
  have w2 : wrap64 (a + 1 + 1) = a + 1 + 1 := wrap_id (by omega) (by omega)
  have w3 : wrap64 (a + 1 + 1 + 1) = a + 1 + 1 + 1 := wrap_id (by omega) (by omega)
  have w4 : wrap64 (a + 1 + 1 + 1 + 1) = a + 1 + 1 + 1 + 1 := wrap_id (by omega) (by omega)
  have w5 : wrap64 (a + 1 + 1 + 1 + 1 + 1) = a + 1 + 1 + 1 + 1 + 1 := wrap_id (by omega) (by omega)
  have wi : wrap64 ((i : Int) + 1) = ((i + 1 : Nat) : Int) := by rw [wrap_id] <;> omega
  apply Exists.intro
  apply And.intro
  rotate_left
  · intro k
    simp only [laws_markEventS.l0, Option.bind_some]
    rw [if_pos (by omega), if_pos (by omega), w1, w2, w3, w4, w5, wi]
  · simp only [List.length_set]
theorem markEventS_some : ∀ (d i : Nat) (ys : List S118) (a : Int), i + d = ys.length → ys.length ≤ 1048576 → 0 ≤ a → a + 5 * (d : Int) ≤ 4611686018427387000 →
    ∃ zs, Ev (fun k => laws_markEventS.l0 k ys a (i : Int)) (a + 5 * (d : Int), zs)
  | 0, i, ys, a, h, hl, h0, h1 => by
    refine ⟨ys, Ev.step (f := fun _ => some (a, ys)) (fun k => ?_) ?_⟩
    · simp only [laws_markEventS.l0]; rw [if_neg (by omega)]
    · rw [show a + 5 * ((0 : Nat) : Int) = a from by omega]; exact Ev.now _
  | d + 1, i, ys, a, h, hl, h0, h1 => by
    obtain ⟨zs, hz, hs⟩ := event_round ys i a (by omega) hl h0 (by omega)
    obtain ⟨qs, ih⟩ := markEventS_some d (i + 1) zs (a + 1 + 1 + 1 + 1 + 1) (by omega) (by omega) (by omega) (by omega)
    rw [show a + 1 + 1 + 1 + 1 + 1 + 5 * (d : Int) = a + 5 * ((d + 1 : Nat) : Int) from by omega] at ih
    exact ⟨qs, Ev.step hs ih⟩
theorem markFloat_some : ∀ (d i : Nat) (ys : List Nat) (a : Int), i + d = ys.length → ys.length ≤ 1048576 → 0 ≤ a → a + (d : Int) ≤ 4611686018427387000 →
    ∃ zs, Ev (fun k => laws_markFloat64S.l0 k ys a (i : Int)) (a + (d : Int), zs)
  | 0, i, ys, a, h, hl, h0, h1 => by
    refine ⟨ys, Ev.step (f := fun _ => some (a, ys)) (fun k => ?_) ?_⟩
    · simp only [laws_markFloat64S.l0]; rw [if_neg (by omega)]
    · rw [show a + ((0 : Nat) : Int) = a from by omega]; exact Ev.now _
  | d + 1, i, ys, a, h, hl, h0, h1 => by
    obtain ⟨qs, ih⟩ := markFloat_some d (i + 1) (ys.set i (fofi a)) (a + 1) (by simp; omega) (by simpa using hl) (by omega) (by omega)
    rw [show a + 1 + (d : Int) = a + ((d + 1 : Nat) : Int) from by omega] at ih
    refine ⟨qs, Ev.step (fun k => ?_) ih⟩
    simp only [laws_markFloat64S.l0]
    rw [if_pos (by omega), if_pos (by omega), wrap_id (n := a + 1) (by omega) (by omega), wrap_id (n := (i : Int) + 1) (by omega) (by omega)]
    rfl
theorem markThreads_some : ∀ (l : List S191) (a : Int), (∀ t ∈ l, goodT t) → l.length ≤ 1048576 → 0 ≤ a → a + 2000000 * (l.length : Int) ≤ 4611686018427386000 →
    ∃ r : Int, a ≤ r ∧ r ≤ a + 2000000 * (l.length : Int) ∧ Ev (fun k => laws_markThreadS.go k l a) r
  | [], a, _, _, _, _ => ⟨a, by omega, by simp, Ev.now _⟩
  | x :: l, a, hg, hl, h0, h1 => by
    rw [List.length_cons] at hl h1
    have gx := (hg x (List.mem_cons_self ..)).1
    have w1 : wrap64 (a + 1) = a + 1 := wrap_id (by omega) (by omega)
    have w2 : wrap64 (a + 1 + 1) = a + 1 + 1 := wrap_id (by omega) (by omega)
    have w3 : wrap64 (a + 1 + 1 + 1) = a + 1 + 1 + 1 := wrap_id (by omega) (by omega)
    have w4 : wrap64 (a + 1 + 1 + 1 + 1) = a + 1 + 1 + 1 + 1 := wrap_id (by omega) (by omega)
    have w5 : wrap64 (a + 1 + 1 + 1 + 1 + 1) = a + 1 + 1 + 1 + 1 + 1 := wrap_id (by omega) (by omega)
    obtain ⟨zs, hz⟩ := markFloat_some x.f5.length 0 x.f5 (a + 1 + 1 + 1 + 1 + 1) (by omega) gx (by omega) (by omega)
    obtain ⟨r, r0, r1, hr⟩ := markThreads_some l (a + 1 + 1 + 1 + 1 + 1 + (x.f5.length : Int)) (fun t ht => hg t (List.mem_cons_of_mem _ ht)) (by omega) (by omega) (by omega)
    refine ⟨r, by omega, by rw [List.length_cons]; omega, ?_⟩
    simp only [laws_markThreadS.go, w1, w2, w3, w4, w5]
    exact Ev.bind (g := fun k => laws_markFloat64S.f k x.f5 (a + 1 + 1 + 1 + 1 + 1)) hz hr
/-! The two sides. -/
def names (xs : List S118) : List Int := xs.map (·.f0)
theorem names_step (xs : List S118) (i : Nat) (h : i < xs.length) : names (xs.take i) ++ [(xs[i]).f0] = names (xs.take (i + 1)) := by
  unfold names
  rw [List.take_succ_eq_append_getElem h, List.map_append]; rfl
theorem spec_loop (xs : List S118) (hx : xs.length ≤ 1048576) : ∀ d i : Nat, i + d = xs.length → Ev (fun k => spec_ThreadsOf.l0 k (names (xs.take i)) xs (xs.length : Int) (i : Int)) (names xs, true)
  | 0, i, h => by
    rw [List.take_of_length_le (by omega)]
    refine Ev.step (f := fun _ => some (names xs, true)) (fun k => ?_) (Ev.now _)
    simp only [spec_ThreadsOf.l0]; rw [if_neg (by omega)]
  | d + 1, i, h => by
    have hi : i < xs.length := by omega
    have hn : (names (xs.take i)).length < 17592186044416 := by unfold names; rw [List.length_map, List.length_take]; omega
    have ih := spec_loop xs hx d (i + 1) (by omega)
    rw [← names_step xs i hi] at ih
    refine Ev.step (fun k => ?_) ih
    simp only [spec_ThreadsOf.l0]
    rw [if_pos (by omega), if_pos (by omega), if_pos (by omega), if_pos hn, wrap_id (n := (i : Int) + 1) (by omega) (by omega), rdE xs i hi]
    rfl
theorem impl_loop (xs : List S118) (hx : xs.length ≤ 1048576) : ∀ d i : Nat, i + d = xs.length → Ev (fun k => impl_threadsOf.l0 k (names (xs.take i)) xs (xs.length : Int) (i : Int)) (names xs)
  | 0, i, h => by
    rw [List.take_of_length_le (by omega)]
    refine Ev.step (f := fun _ => some (names xs)) (fun k => ?_) (Ev.now _)
    simp only [impl_threadsOf.l0]; rw [if_neg (by omega)]
  | d + 1, i, h => by
    have hi : i < xs.length := by omega
    have hn : (names (xs.take i)).length < 17592186044416 := by unfold names; rw [List.length_map, List.length_take]; omega
    have ih := impl_loop xs hx d (i + 1) (by omega)
    rw [← names_step xs i hi] at ih
    refine Ev.step (fun k => ?_) ih
    simp only [impl_threadsOf.l0]
    rw [if_pos (by omega), if_pos (by omega), if_pos (by omega), if_pos hn, wrap_id (n := (i : Int) + 1) (by omega) (by omega), rdE xs i hi]
    rfl
theorem threads_same (a0 : Int) (xs : List S118) (ps : List Int) (ts : List S191) (cs : List Nat) (os : List Int) (a6 : Int) (hx : xs.length ≤ 1048576) :
    ∃ (r : List Int) (b : Bool), r.length ≤ 1048576 ∧ Ev (fun k => spec_ThreadsOf.f k a0 xs ps ts cs os a6) (r, b) ∧ Ev (fun k => impl_ThreadsOf.f k a0 xs ps ts cs os a6) (r, b) := by
  simp only [spec_ThreadsOf.f, impl_ThreadsOf.f]
  by_cases h : (xs.length : Int) > 200
  · exact ⟨[], false, by simp, Ev.ite_pos h (Ev.now _), Ev.ite_pos h (Ev.now _)⟩
  · have hs := spec_loop xs hx xs.length 0 (by omega)
    have hi := impl_loop xs hx xs.length 0 (by omega)
    exact ⟨names xs, true, by unfold names; rw [List.length_map]; exact hx, Ev.ite_neg h hs, Ev.ite_neg h (Ev.bind (g := fun k => impl_threadsOf.f k xs) hi (Ev.now _))⟩
theorem FnExactThreadsOf : laws_FnExactThreadsOf.Pure2 := by
  rintro ⟨a0, es, ps, ts, cs, os, a6⟩ ⟨_, ⟨he, _⟩, ⟨hp, _⟩, ⟨h0, h0'⟩, ⟨h1, h1'⟩, ⟨h2, _⟩, _⟩
  show ∃ k, laws_FnExactThreadsOf.f k a0 es ps ts cs os a6 = some true
  apply Ev.rounds
  have hst : ∀ t ∈ ts, t.f5.length ≤ 9223372036854775807 := fun t ht => (h0' t ht).2.2.2.2.2.1
  have hsf : ∀ t ∈ ts, ∀ x ∈ t.f5, x < 18446744073709551616 := fun t ht => (h0' t ht).2.2.2.2.2.2
  have e1 := sz_event es 1048576 (by omega) (by omega) he
  have hsz : ∃ v, Ev (fun k => laws_szRun.f k a0 es ps ts cs os a6 1048576) v ∧ (0 ≤ v → es.length ≤ 1048576 ∧ ps.length ≤ 1048576 ∧ ts.length ≤ 1048576 ∧ (∀ t ∈ ts, t.f5.length ≤ 1048576) ∧ cs.length ≤ 1048576 ∧ os.length ≤ 1048576) := by
    simp only [laws_szRun.f]
    by_cases c1 : 1048576 - (es.length : Int) < 0
    · rw [if_pos c1] at e1
      exact ⟨-1, Ev.bind (Ev.const e1) (Ev.ite_pos (by omega) (Ev.now _)), fun q => by omega⟩
    · rw [if_neg c1] at e1
      have e2 := sz_int ps (1048576 - (es.length : Int)) (by omega) (by omega) hp
      by_cases c2 : 1048576 - (es.length : Int) - (ps.length : Int) < 0
      · rw [if_pos c2] at e2
        exact ⟨-1, Ev.bind (Ev.const e1) (Ev.ite_neg c1 (Ev.bind (Ev.const e2) (Ev.ite_pos (by omega) (Ev.now _)))), fun q => by omega⟩
      · rw [if_neg c2] at e2
        obtain ⟨v, hv, hq⟩ := sz_stateM ts cs os a6 (1048576 - (es.length : Int) - (ps.length : Int)) (by omega) (by omega) h0 hst h1 h2
        by_cases c3 : v < 0
        · exact ⟨-1, Ev.bind (Ev.const e1) (Ev.ite_neg c1 (Ev.bind (Ev.const e2) (Ev.ite_neg c2 (Ev.bind hv (Ev.ite_pos c3 (Ev.now _)))))), fun q => by omega⟩
        · obtain ⟨_, q0, q1, q2, q3⟩ := hq (by omega)
          exact ⟨v, Ev.bind (Ev.const e1) (Ev.ite_neg c1 (Ev.bind (Ev.const e2) (Ev.ite_neg c2 (Ev.bind hv (Ev.ite_neg c3 (Ev.now _)))))), fun _ => ⟨by omega, by omega, q0, q1, q2, q3⟩⟩
  obtain ⟨v, hv, hq⟩ := hsz
  simp only [laws_FnExactThreadsOf.f]
  by_cases c : v < 0
  · exact Ev.bind hv (Ev.ite_pos c (Ev.now _))
  · obtain ⟨p0, p1, q0, q1, q2, q3⟩ := hq (by omega)
    have ht : Ev (fun k => laws_toRun.f k a0 es ps ts cs os a6) (a0, es.map cvE, ps, ts.map cvT, cs, os, a6) :=
      Ev.bind (toEventS_ev es p0) (Ev.bind (toIntS_ev ps p1) (Ev.bind (g := fun k => laws_toState.f k ts cs os a6) (a := (ts.map cvT, cs, os, a6)) (Ev.bind (toThreadS_ev ts q0 q1) (Ev.bind (toFloatS_ev cs q2) (Ev.bind (toIntS_ev os q3) (Ev.now _)))) (Ev.now _)))
    have gt : ∀ t ∈ ts.map cvT, goodT t := fun t ht => by
      obtain ⟨y, hy, rfl⟩ := List.mem_map.mp ht
      exact ⟨q1 y hy, hsf y hy⟩
    have lt : (ts.map cvT).length ≤ 1048576 := by rw [List.length_map]; exact q0
    have le : (es.map cvE).length ≤ 1048576 := by rw [List.length_map]; exact p0
    generalize ts.map cvT = T at ht gt lt
    generalize es.map cvE = E at ht le
    have heq : Ev (fun k => laws_eqRun.f k a0 E ps T cs os a6 a0 E ps T cs os a6) true := by
      simp only [laws_eqRun.f]
      refine Ev.ite_pos trivial (Ev.bind (eqEventS_ev E le) (Ev.ite_pos rfl (Ev.bind (eqIntS_ev ps p1) (Ev.ite_pos rfl (Ev.bind (g := fun k => laws_eqState.f k T cs os a6 T cs os a6) (a := true) ?_ (Ev.ite_pos rfl (Ev.now _)))))))
      simp only [laws_eqState.f]
      exact Ev.bind (eqThreadS_ev T lt gt) (Ev.ite_pos rfl (Ev.bind (eqFloatS_ev cs q2 h1') (Ev.ite_pos rfl (Ev.bind (eqIntS_ev os q3) (Ev.ite_pos rfl (Ev.ite_pos trivial (Ev.now _)))))))
    obtain ⟨r, b, hr, hs, hi⟩ := threads_same a0 E ps T cs os a6 le
    have hmark : ∃ m : Int, 0 ≤ m ∧ Ev (fun k => laws_markRun.f k a0 E ps T cs os a6 1) m := by
      obtain ⟨z1, m1⟩ := markEventS_some E.length 0 E 1 (by omega) le (by omega) (by omega)
      have m2 := markIntS_ev ps (1 + 5 * (E.length : Int)) p1 (by omega) (by omega)
      obtain ⟨r3, b3, c3, m3⟩ := markThreads_some T (1 + 5 * (E.length : Int) + (ps.length : Int)) gt lt (by omega) (by omega)
      obtain ⟨z4, m4⟩ := markFloat_some cs.length 0 cs r3 (by omega) q2 (by omega) (by omega)
      have m5 := markIntS_ev os (r3 + (cs.length : Int)) q3 (by omega) (by omega)
      refine ⟨r3 + (cs.length : Int) + (os.length : Int), by omega, ?_⟩
      simp only [laws_markRun.f, laws_markState.f, laws_markThreadS.f]
      exact Ev.bind (g := fun k => laws_markEventS.f k E 1) m1 (Ev.bind m2 (Ev.bind (Ev.ite_pos (by omega) m3) (Ev.bind (g := fun k => laws_markFloat64S.f k cs r3) m4 (Ev.bind m5 (Ev.now _)))))
    obtain ⟨m, hm0, hm⟩ := hmark
    have hb : ∀ b : Bool, (b != b) = false := fun b => by cases b <;> rfl
    have hmi := markIntS_ev r 1 hr (by omega) (by omega)
    have hhe := heldIntS_ev r.length 1 hr (by omega) (by omega)
    have hq := eqIntS_ev r hr
    have j2 : Ev (fun k => laws_FnExactThreadsOf.j2 k (iota 1 r.length) (1 + (r.length : Int)) false) true := by
      refine Ev.step (f := fun k => (laws_heldIntS.f k (iota 1 r.length) 1).bind fun t329 => (if t329 < 0 then (some false) else (if t329 = (1 + (r.length : Int)) then (some true) else (some false)))) (fun k => ?_) (Ev.bind hhe (Ev.ite_neg (by omega) (Ev.ite_pos rfl (Ev.now _))))
      simp only [laws_FnExactThreadsOf.j2]; rw [if_neg (by simp)]
    have j1 : Ev (fun k => laws_FnExactThreadsOf.j1 k r b r false a0 es ps ts cs os a6) true := by
      have : ∀ k, laws_FnExactThreadsOf.j1 (k + 1) r b r false a0 es ps ts cs os a6 = _ := fun k => by simp only [laws_FnExactThreadsOf.j1]; rw [if_neg (by simp)]
      refine Ev.step this (Ev.bind hmi (Ev.bind hhe (Ev.ite_neg (by omega) (Ev.ite_pos rfl (Ev.bind ht (Ev.bind hi (Ev.bind hq (Ev.ite_pos rfl ?_))))))))
      simp only [hb]
      exact j2
    have j0 : Ev (fun k => laws_FnExactThreadsOf.j0 k r b r b false a0 es ps ts cs os a6 a0 E ps T cs os a6) true := by
      have : ∀ k, laws_FnExactThreadsOf.j0 (k + 1) r b r b false a0 es ps ts cs os a6 a0 E ps T cs os a6 = _ := fun k => by simp only [laws_FnExactThreadsOf.j0]; rw [if_neg (by simp)]
      refine Ev.step this (Ev.bind ht (Ev.bind heq (Ev.ite_pos rfl (Ev.bind hm (Ev.ite_neg (by omega) (Ev.bind hq (Ev.ite_pos rfl ?_)))))))
      simp only [hb]
      exact j1
    refine Ev.bind hv (Ev.ite_neg c (Ev.bind ht (Ev.bind hs (Ev.bind ht (Ev.bind hi (Ev.bind hq (Ev.ite_pos rfl ?_)))))))
    simp only [hb]
    exact j0

end Go.Proofs.Ytpfbiopcfbokbaa.Pure

/- The pure statement of FnExactChangePct: two ranks swapped, a change put in, taken out, or both; a schedule that stays good. -/
import Derived.Test.YtpfbiopcfbokbaaQFnExactChangePct
import Derived.Test.YtpfbiopcfbokbaaMBase
import Derived.KernelRfl
set_option linter.unusedVariables false
set_option linter.unusedSimpArgs false
namespace Go.Proofs.Ytpfbiopcfbokbaa.Pure
open Go.RowKit Go.Proofs.Ytpfbiopcfbokbaa.GChangePct Go.Proofs.YtpfbiopcfbokbaaW.PrintWords Go.Proofs.YtpfbiopcfbokbaaW.PrintLast Go.Proofs.YtpfbiopcfbokbaaW.PrintMore Go.Proofs.Ytpfbiopcfbokbaa.MBase
theorem toIntS_l0 (xs : List Int) (hx : xs.length ≤ 1048576) : ∀ (d i : Nat) (acc : List Int), i + d = xs.length → acc.length = xs.length →
    Ev (fun k => laws_toIntS.l0 k xs acc (i : Int)) (acc.take i ++ xs.drop i)
  | 0, i, acc, h, ha => by
    have e : acc.take i ++ xs.drop i = acc := by rw [List.take_of_length_le (by omega), List.drop_eq_nil_of_le (by omega), List.append_nil]
    rw [e]
    refine Ev.step (f := fun _ => some acc) (fun k => ?_) (Ev.now _)
    simp only [laws_toIntS.l0]
    rw [if_neg (by omega)]
  | d + 1, i, acc, h, ha => by
    have ih := toIntS_l0 xs hx d (i + 1) (acc.set i (xs.getD i 0)) (by omega) (by simpa using ha)
    rw [set_take_drop xs acc 0 i (by omega) ha] at ih
    refine Ev.step (fun k => ?_) ih
    simp only [laws_toIntS.l0]
    rw [if_pos (by omega), if_pos (by omega), if_pos (by omega), wrap_id (by omega) (by omega), rd_nat]
    rfl
theorem toIntS_ev (xs : List Int) (hx : xs.length ≤ 1048576) : Ev (fun k => laws_toIntS.f k xs) xs := by
  have h := toIntS_l0 xs hx xs.length 0 (List.replicate xs.length 0) (by omega) (by simp)
  simp only [List.take_zero, List.drop_zero, List.nil_append] at h
  refine Ev.congr (fun k => ?_) h
  simp only [laws_toIntS.f]
  rw [if_pos (by omega), if_pos (by simp only [Int.toNat_natCast]; omega)]
  simp only [Int.toNat_natCast]
  rfl
theorem l1In_dec (a b c : Int) : spec_l1In.f a b c = some (decide (b ≤ a ∧ a ≤ c)) := by
  unfold spec_l1In.f
  by_cases h : b ≤ a
  · rw [if_pos h]; simp [h]
  · rw [if_neg h]; simp [h]
theorem in_dec (a b c : Int) : impl_in.f a b c = some (decide (b ≤ a ∧ a ≤ c)) := l1In_dec a b c
theorem eqIntS_l0 (xs : List Int) (hx : xs.length ≤ 1048576) : ∀ (d i : Nat), i + d = xs.length → Ev (fun k => laws_eqIntS.l0 k xs xs (i : Int)) true
  | 0, i, h => by
    refine Ev.step (f := fun _ => some true) (fun k => ?_) (Ev.now _)
    simp only [laws_eqIntS.l0]
    rw [if_neg (by omega)]
  | d + 1, i, h => by
    refine Ev.step (fun k => ?_) (eqIntS_l0 xs hx d (i + 1) (by omega))
    simp only [laws_eqIntS.l0]
    rw [if_pos (by omega), if_pos (by omega), if_pos (by omega), if_pos trivial, wrap_id (by omega) (by omega)]
    rfl
theorem eqIntS_ev (xs : List Int) (hx : xs.length ≤ 1048576) : Ev (fun k => laws_eqIntS.f k xs xs) true := by
  refine Ev.congr (fun k => ?_) (eqIntS_l0 xs hx xs.length 0 (by omega))
  simp only [laws_eqIntS.f]
  rw [if_pos trivial]
  rfl
def inB (lo hi x : Int) : Bool := decide (lo ≤ x ∧ x ≤ hi)
theorem all_loop (lo hi : Int) (xs : List Int) (hx : xs.length ≤ 1048576) : ∀ d i : Nat, i + d = xs.length → Ev (fun k => spec_l1All.l0 k lo hi xs (xs.length : Int) (i : Int)) ((xs.drop i).all (inB lo hi))
  | 0, i, h => by
    rw [List.drop_eq_nil_of_le (by omega)]
    refine Ev.step (f := fun _ => some true) (fun k => ?_) (Ev.now _)
    simp only [spec_l1All.l0]; rw [if_neg (by omega)]
  | d + 1, i, h => by
    have hil : i < xs.length := by omega
    rw [List.drop_eq_getElem_cons hil, List.all_cons]
    have hst : ∀ k, spec_l1All.l0 (k+1) lo hi xs (xs.length : Int) (i : Int) = if inB lo hi xs[i] = true then spec_l1All.l0 k lo hi xs (xs.length : Int) ((i + 1 : Nat) : Int) else some false := by
      intro k
      simp only [spec_l1All.l0, l1In_dec, Option.bind_some]
      rw [if_pos (by omega), if_pos (by omega), if_pos (by omega), rd_nat, wrap_id (n := (i : Int) + 1) (by omega) (by omega)]
      have : xs.getD i 0 = xs[i] := by simp [hil]
      rw [this]
      rfl
    cases hg : inB lo hi xs[i] with
    | true => rw [Bool.true_and]; exact Ev.step hst (Ev.ite_pos hg (all_loop lo hi xs hx d (i + 1) (by omega)))
    | false => rw [Bool.false_and]; exact Ev.step hst (Ev.ite_neg (by simp [hg]) (Ev.now _))
theorem has_loop (n : Int) (xs : List Int) (hx : xs.length ≤ 1048576) : ∀ d i : Nat, i + d = xs.length → Ev (fun k => spec_l1Has.l0 k n xs (xs.length : Int) (i : Int)) (decide (n ∈ xs.drop i))
  | 0, i, h => by
    rw [List.drop_eq_nil_of_le (by omega)]
    refine Ev.step (f := fun _ => some (decide (n ∈ ([] : List Int)))) (fun k => ?_) (Ev.now _)
    simp only [spec_l1Has.l0]; rw [if_neg (by omega)]; simp
  | d + 1, i, h => by
    have hi : i < xs.length := by omega
    rw [List.drop_eq_getElem_cons hi]
    have hst : ∀ k, spec_l1Has.l0 (k+1) n xs (xs.length : Int) (i : Int) = if xs[i] = n then some true else spec_l1Has.l0 k n xs (xs.length : Int) ((i + 1 : Nat) : Int) := by
      intro k
      simp only [spec_l1Has.l0]
      rw [if_pos (by omega), if_pos (by omega), if_pos (by omega), rd_nat, wrap_id (n := (i : Int) + 1) (by omega) (by omega)]
      have : xs.getD i 0 = xs[i] := by simp [hi]
      rw [this]
      rfl
    by_cases he : xs[i] = n
    · rw [decide_eq_true (by rw [he]; exact List.mem_cons_self)]
      exact Ev.step hst (Ev.ite_pos he (Ev.now _))
    · have e : decide (n ∈ xs[i] :: xs.drop (i + 1)) = decide (n ∈ xs.drop (i + 1)) := by
        rw [decide_eq_decide, List.mem_cons]
        exact ⟨fun q => q.resolve_left (fun z => he z.symm), Or.inr⟩
      rw [e]
      exact Ev.step hst (Ev.ite_neg he (has_loop n xs hx d (i + 1) (by omega)))
/-- Whether numbers rise, within bounds, from place i on. -/
def riseR (lo hi : Int) (xs : List Int) : Nat → Nat → Bool
  | 0, _ => true
  | d + 1, i => if inB lo hi (xs.getD i 0) = true then (if 0 < i ∧ xs.getD (i - 1) 0 ≥ xs.getD i 0 then false else riseR lo hi xs d (i + 1)) else false
theorem spec_rise (lo hi : Int) (xs : List Int) (hx : xs.length ≤ 1048576) : ∀ d i : Nat, i + d = xs.length → Ev (fun k => spec_l1Rising.l0 k xs lo hi xs (xs.length : Int) (i : Int)) (riseR lo hi xs d i)
  | 0, i, h => by
    refine Ev.step (f := fun _ => some true) (fun k => ?_) (Ev.now _)
    simp only [spec_l1Rising.l0]; rw [if_neg (by omega)]
  | d + 1, i, h => by
    unfold riseR
    have hst : ∀ k, spec_l1Rising.l0 (k+1) xs lo hi xs (xs.length : Int) (i : Int) = if inB lo hi (xs.getD i 0) = true then (if 0 < i ∧ xs.getD (i - 1) 0 ≥ xs.getD i 0 then some false else spec_l1Rising.l0 k xs lo hi xs (xs.length : Int) ((i + 1 : Nat) : Int)) else some false := by
      intro k
      simp only [spec_l1Rising.l0, l1In_dec, Option.bind_some]
      rw [if_pos (by omega), if_pos (by omega), if_pos (by omega), rd_nat, wrap_id (n := (i : Int) + 1) (by omega) (by omega)]
      by_cases hb : inB lo hi (xs.getD i 0) = true
      · rw [if_pos (show decide (lo ≤ xs.getD i 0 ∧ xs.getD i 0 ≤ hi) = true from hb), if_pos hb]
        by_cases h0 : 0 < i
        · have e1 : wrap64 ((i : Int) - 1) = ((i - 1 : Nat) : Int) := by rw [wrap_id] <;> omega
          rw [if_pos (show (i : Int) > 0 by omega), e1, if_pos (by omega), if_pos (by omega), rd_nat]
          simp only [h0, true_and]
          rfl
        · rw [if_neg (show ¬ (i : Int) > 0 by omega)]
          simp only [h0, false_and, if_false]
          rfl
      · rw [if_neg (show ¬ decide (lo ≤ xs.getD i 0 ∧ xs.getD i 0 ≤ hi) = true from hb), if_neg hb]
    by_cases hb : inB lo hi (xs.getD i 0) = true
    · rw [if_pos hb]
      by_cases hc : 0 < i ∧ xs.getD (i - 1) 0 ≥ xs.getD i 0
      · rw [if_pos hc]; exact Ev.step hst (Ev.ite_pos hb (Ev.ite_pos hc (Ev.now _)))
      · rw [if_neg hc]; exact Ev.step hst (Ev.ite_pos hb (Ev.ite_neg hc (spec_rise lo hi xs hx d (i + 1) (by omega))))
    · rw [if_neg hb]; exact Ev.step hst (Ev.ite_neg hb (Ev.now _))
theorem impl_rise (hi : Int) (xs : List Int) (hx : xs.length ≤ 1048576) : ∀ d i : Nat, i + d = xs.length → Ev (fun k => impl_isRising.l0 k xs hi xs (xs.length : Int) (i : Int)) (riseR 0 hi xs d i)
  | 0, i, h => by
    refine Ev.step (f := fun _ => some true) (fun k => ?_) (Ev.now _)
    simp only [impl_isRising.l0]; rw [if_neg (by omega)]
  | d + 1, i, h => by
    unfold riseR
    have hst : ∀ k, impl_isRising.l0 (k+1) xs hi xs (xs.length : Int) (i : Int) = if inB 0 hi (xs.getD i 0) = true then (if 0 < i ∧ xs.getD (i - 1) 0 ≥ xs.getD i 0 then some false else impl_isRising.l0 k xs hi xs (xs.length : Int) ((i + 1 : Nat) : Int)) else some false := by
      intro k
      simp only [impl_isRising.l0, in_dec, Option.bind_some]
      rw [if_pos (by omega), if_pos (by omega), if_pos (by omega), rd_nat, wrap_id (n := (i : Int) + 1) (by omega) (by omega)]
      by_cases hb : inB 0 hi (xs.getD i 0) = true
      · rw [if_pos (show decide (0 ≤ xs.getD i 0 ∧ xs.getD i 0 ≤ hi) = true from hb), if_pos hb]
        by_cases h0 : 0 < i
        · have e1 : wrap64 ((i : Int) - 1) = ((i - 1 : Nat) : Int) := by rw [wrap_id] <;> omega
          rw [if_pos (show (i : Int) > 0 by omega), e1, if_pos (by omega), if_pos (by omega), rd_nat]
          simp only [h0, true_and]
          rfl
        · rw [if_neg (show ¬ (i : Int) > 0 by omega)]
          simp only [h0, false_and, if_false]
          rfl
      · rw [if_neg (show ¬ decide (0 ≤ xs.getD i 0 ∧ xs.getD i 0 ≤ hi) = true from hb), if_neg hb]
    by_cases hb : inB 0 hi (xs.getD i 0) = true
    · rw [if_pos hb]
      by_cases hc : 0 < i ∧ xs.getD (i - 1) 0 ≥ xs.getD i 0
      · rw [if_pos hc]; exact Ev.step hst (Ev.ite_pos hb (Ev.ite_pos hc (Ev.now _)))
      · rw [if_neg hc]; exact Ev.step hst (Ev.ite_pos hb (Ev.ite_neg hc (impl_rise hi xs hx d (i + 1) (by omega))))
    · rw [if_neg hb]; exact Ev.step hst (Ev.ite_neg hb (Ev.now _))
/-- What a row that rises is. -/
theorem riseR_iff (lo hi : Int) (xs : List Int) : ∀ d i : Nat, i + d = xs.length → (riseR lo hi xs d i = true ↔ ∀ j, i ≤ j → j < xs.length → (lo ≤ xs.getD j 0 ∧ xs.getD j 0 ≤ hi) ∧ (0 < j → xs.getD (j - 1) 0 < xs.getD j 0))
  | 0, i, h => by
    unfold riseR
    exact ⟨fun _ j h1 h2 => by omega, fun _ => rfl⟩
  | d + 1, i, h => by
    unfold riseR
    have ih := riseR_iff lo hi xs d (i + 1) (by omega)
    by_cases hb : inB lo hi (xs.getD i 0) = true
    · rw [if_pos hb]
      have hb' := of_decide_eq_true hb
      by_cases hc : 0 < i ∧ xs.getD (i - 1) 0 ≥ xs.getD i 0
      · rw [if_pos hc]
        refine ⟨fun q => (by cases q), fun q => ?_⟩
        have := (q i (Nat.le_refl _) (by omega)).2 hc.1
        omega
      · rw [if_neg hc, ih]
        constructor
        · intro q j h1 h2
          by_cases e : j = i
          · subst e
            exact ⟨hb', fun z => by
              have : ¬ xs.getD (j - 1) 0 ≥ xs.getD j 0 := fun y => hc ⟨z, y⟩
              omega⟩
          · exact q j (by omega) h2
        · intro q j h1 h2
          exact q j (by omega) h2
    · rw [if_neg hb]
      refine ⟨fun q => (by cases q), fun q => ?_⟩
      exact absurd (decide_eq_true (q i (Nat.le_refl _) (by omega)).1) hb
/-- The loop over the ranks, from place i on. -/
def dupR (xs : List Int) (e : Bool) : Nat → Nat → Bool
  | 0, _ => e
  | d + 1, i => if xs.getD i 0 ∈ xs.take i then false else dupR xs e d (i + 1)
theorem dupR_iff (xs : List Int) (e : Bool) : ∀ d i : Nat, i + d = xs.length → (dupR xs e d i = true ↔ e = true ∧ ∀ j, i ≤ j → j < xs.length → xs.getD j 0 ∉ xs.take j)
  | 0, i, h => by
    unfold dupR
    exact ⟨fun q => ⟨q, fun j h1 h2 => by omega⟩, fun q => q.1⟩
  | d + 1, i, h => by
    unfold dupR
    have ih := dupR_iff xs e d (i + 1) (by omega)
    by_cases hm : xs.getD i 0 ∈ xs.take i
    · rw [if_pos hm]
      exact ⟨fun q => (by cases q), fun q => absurd hm (q.2 i (Nat.le_refl _) (by omega))⟩
    · rw [if_neg hm, ih]
      refine ⟨fun q => ⟨q.1, fun j h1 h2 => ?_⟩, fun q => ⟨q.1, fun j h1 h2 => q.2 j (by omega) h2⟩⟩
      by_cases e1 : j = i
      · subst e1; exact hm
      · exact q.2 j (by omega) h2
theorem dup_loop (xs ys : List Int) (hx : xs.length ≤ 1048576) (e : Bool) (he : Ev (fun k => if (ys.length : Int) ≤ 4 then ((spec_l1Rising.f k ys 0 199).bind fun t => some t) else some false) e) : ∀ d i : Nat, i + d = xs.length → Ev (fun k => spec_GoodPct.l0 k xs (xs.length : Int) (i : Int) xs ys) (dupR xs e d i)
  | 0, i, h => by
    refine Ev.step (fun k => ?_) he
    simp only [spec_GoodPct.l0]; rw [if_neg (by omega)]
  | d + 1, i, h => by
    have hil : i < xs.length := by omega
    unfold dupR
    have hh := has_loop (xs.getD i 0) (xs.take i) (by simp; omega) (xs.take i).length 0 (by omega)
    rw [List.drop_zero] at hh
    refine Ev.step (f := fun k => (spec_l1Has.f k (xs.take i) (xs.getD i 0)).bind fun t => if t = true then some false else spec_GoodPct.l0 k xs (xs.length : Int) ((i + 1 : Nat) : Int) xs ys) (fun k => ?_) (Ev.bind hh ?_)
    · simp only [spec_GoodPct.l0]
      rw [if_pos (by omega), if_pos (by omega), if_pos (by omega), if_pos (by omega), rd_nat, Int.toNat_natCast, wrap_id (n := (i : Int) + 1) (by omega) (by omega)]
      rfl
    · by_cases hm : xs.getD i 0 ∈ xs.take i
      · rw [if_pos hm]; exact Ev.ite_pos (decide_eq_true hm) (Ev.now _)
      · rw [if_neg hm]; exact Ev.ite_neg (by simpa using hm) (dup_loop xs ys hx e he d (i + 1) (by omega))
theorem keeps_all (s : List Int) (h : (Go.Lib.compact s).length = s.length) : ∀ j, j < s.length → Go.Lib.keeps s.toArray j = true := by
  unfold Go.Lib.compact Go.Lib.compactUpTo at h
  rw [List.length_map] at h
  have h2 : ((List.range s.length).filter (Go.Lib.keeps s.toArray)).length = (List.range s.length).length := by rw [h, List.length_range]
  rw [List.length_filter_eq_length_iff] at h2
  exact fun j hj => h2 j (List.mem_range.mpr hj)
theorem compact_self (s : List Int) (h : ∀ j, j < s.length → Go.Lib.keeps s.toArray j = true) : Go.Lib.compact s = s := by
  unfold Go.Lib.compact Go.Lib.compactUpTo
  rw [List.filter_eq_self.mpr (fun j hj => h j (List.mem_range.mp hj))]
  apply List.ext_getElem
  · simp
  · intro i h1 h2
    simp at h1
    simp [getElem!_pos, h1]
theorem nodup_take (xs : List Int) : (∀ j, j < xs.length → xs.getD j 0 ∉ xs.take j) ↔ xs.Nodup := by
  rw [List.Nodup, List.pairwise_iff_getElem]
  constructor
  · intro h i j hi hj hij e
    apply h j hj
    have : xs.getD j 0 = xs[j] := by simp [hj]
    rw [this, ← e]
    exact List.mem_take_iff_getElem.mpr ⟨i, by omega, rfl⟩
  · intro h j hj hm
    have e : xs.getD j 0 = xs[j] := by simp [hj]
    rw [e] at hm
    obtain ⟨i, hi, hx⟩ := List.mem_take_iff_getElem.mp hm
    exact h i j (by omega) hj (by omega) hx
theorem adj_lt (s : List Int) (h : ∀ j, 0 < j → j < s.length → s.getD (j - 1) 0 < s.getD j 0) : ∀ d i : Nat, i + (d + 1) < s.length → s.getD i 0 < s.getD (i + (d + 1)) 0
  | 0, i, hl => by have := h (i + 1) (by omega) hl; simpa using this
  | d + 1, i, hl => by
    have h1 := adj_lt s h d i (by omega)
    have h2 := h (i + (d + 1 + 1)) (by omega) hl
    rw [show i + (d + 1 + 1) - 1 = i + (d + 1) from by omega] at h2
    omega
theorem ranks_iff (xs : List Int) (h5 : xs.length = 5) :
    (xs.all (inB 0 4) = true ∧ ∀ j, j < xs.length → xs.getD j 0 ∉ xs.take j) ↔ ((Go.Lib.compact (xs.mergeSort fun x y => decide (x ≤ y))).length = 5 ∧ riseR 0 4 (Go.Lib.compact (xs.mergeSort fun x y => decide (x ≤ y))) (Go.Lib.compact (xs.mergeSort fun x y => decide (x ≤ y))).length 0 = true) := by
  have hp : (xs.mergeSort fun x y => decide (x ≤ y)).Perm xs := List.mergeSort_perm xs _
  have hs : (xs.mergeSort fun x y => decide (x ≤ y)).Pairwise (fun a b => decide (a ≤ b) = true) := List.pairwise_mergeSort (by intro a b c; simp; omega) (by intro a b; simp; omega) xs
  generalize (xs.mergeSort fun x y => decide (x ≤ y)) = s at hp hs
  have hl : s.length = 5 := by rw [hp.length_eq, h5]
  rw [nodup_take, ← hp.nodup_iff]
  have hs' := List.pairwise_iff_getElem.mp hs
  constructor
  · rintro ⟨ha, hn⟩
    have hn' := List.pairwise_iff_getElem.mp hn
    have hk : ∀ j, j < s.length → Go.Lib.keeps s.toArray j = true := by
      intro j hj
      unfold Go.Lib.keeps
      rw [decide_eq_true_eq]
      by_cases h0 : j = 0
      · exact .inl h0
      · right
        have := hn' (j - 1) j (by omega) hj (by omega)
        simp [getElem!_pos, hj, show j - 1 < s.length by omega]
        exact fun e => this e.symm
    rw [compact_self s hk]
    refine ⟨hl, (riseR_iff 0 4 s s.length 0 (by omega)).mpr (fun j _ hj => ⟨?_, fun h0 => ?_⟩)⟩
    · have e : s.getD j 0 = s[j] := by simp [hj]
      rw [e]
      have := List.all_eq_true.mp ha s[j] (hp.mem_iff.mp (List.getElem_mem hj))
      exact of_decide_eq_true this
    · have e : s.getD j 0 = s[j] := by simp [hj]
      have e2 : s.getD (j - 1) 0 = s[j - 1] := by simp [show j - 1 < s.length by omega]
      have h1 := of_decide_eq_true (hs' (j - 1) j (by omega) hj (by omega))
      have h2 := hn' (j - 1) j (by omega) hj (by omega)
      rw [e, e2]
      omega
  · rintro ⟨hc, hr⟩
    have hk := keeps_all s (by omega)
    rw [compact_self s hk] at hr
    have hr' := (riseR_iff 0 4 s s.length 0 (by omega)).mp hr
    refine ⟨List.all_eq_true.mpr (fun x hx => ?_), List.pairwise_iff_getElem.mpr (fun i j hi hj hij => ?_)⟩
    · obtain ⟨j, hj, rfl⟩ := List.getElem_of_mem (hp.mem_iff.mpr hx)
      have e : s.getD j 0 = s[j] := by simp [hj]
      have := (hr' j (by omega) hj).1
      rw [e] at this
      exact decide_eq_true this
    · obtain ⟨d, hd⟩ : ∃ d, j = i + (d + 1) := ⟨j - i - 1, by omega⟩
      have h1 := adj_lt s (fun k h0 hk => (hr' k (by omega) hk).2 h0) d i (by omega)
      rw [← hd] at h1
      have e : s.getD j 0 = s[j] := by simp [hj]
      have e2 : s.getD i 0 = s[i] := by simp [hi]
      rw [e, e2] at h1
      omega
theorem clone_eq (xs : List Int) (hx : xs.length ≤ 1048576) : slices_Clone_int_int.f xs = some xs := by
  simp only [slices_Clone_int_int.f, Option.bind_some]; rw [if_pos (by simp; omega)]; rfl
/-- What a good schedule is. -/
def goodP (xs ys : List Int) : Prop := (xs.length = 5 ∧ xs.all (inB 0 4) = true ∧ xs.Nodup) ∧ ys.length ≤ 4 ∧ ∀ j, 0 ≤ j → j < ys.length → (0 ≤ ys.getD j 0 ∧ ys.getD j 0 ≤ 199) ∧ (0 < j → ys.getD (j - 1) 0 < ys.getD j 0)
theorem good_char (xs ys : List Int) (hx : xs.length ≤ 1048576) (hy : ys.length ≤ 1048576) : ∃ r, (r = true ↔ goodP xs ys) ∧ Ev (fun k => spec_GoodPct.f k xs ys) r ∧ Ev (fun k => impl_GoodPct.f k xs ys) r := by
  have hj0 : Ev (fun k => spec_GoodPct.j0 k true xs ys) false := Ev.step (f := fun _ => some false) (fun k => by simp only [spec_GoodPct.j0]; rw [if_pos trivial]) (Ev.now _)
  obtain ⟨e, hev, he, hi⟩ : ∃ e, (e = true ↔ ys.length ≤ 4 ∧ ∀ j, 0 ≤ j → j < ys.length → (0 ≤ ys.getD j 0 ∧ ys.getD j 0 ≤ 199) ∧ (0 < j → ys.getD (j - 1) 0 < ys.getD j 0)) ∧ Ev (fun k => if (ys.length : Int) ≤ 4 then ((spec_l1Rising.f k ys 0 199).bind fun t => some t) else some false) e ∧ Ev (fun k => if (ys.length : Int) ≤ 4 then ((impl_isRising.f k ys 199).bind fun t => some t) else some false) e := by
    by_cases h4 : (ys.length : Int) ≤ 4
    · exact ⟨riseR 0 199 ys ys.length 0, by rw [riseR_iff 0 199 ys ys.length 0 (by omega)]; exact ⟨fun q => ⟨by omega, q⟩, fun q => q.2⟩, Ev.ite_pos h4 (Ev.bind (g := fun k => spec_l1Rising.f k ys 0 199) (spec_rise 0 199 ys hy ys.length 0 (by omega)) (Ev.now _)), Ev.ite_pos h4 (Ev.bind (g := fun k => impl_isRising.f k ys 199) (impl_rise 199 ys hy ys.length 0 (by omega)) (Ev.now _))⟩
    · exact ⟨false, ⟨fun q => (by cases q), fun q => absurd q.1 (by omega)⟩, Ev.ite_neg h4 (Ev.now _), Ev.ite_neg h4 (Ev.now _)⟩
  have hris : impl_rising.f xs = some (Go.Lib.compact (xs.mergeSort fun x y => decide (x ≤ y))) := by
    simp only [impl_rising.f, slices_Sort_int_int.f, slices_Compact_int_int.f]
    rw [if_pos (by omega), Option.bind_some, Option.bind_some]
  simp only [spec_GoodPct.f, impl_GoodPct.f, clone_eq xs hx, hris, Option.bind_some]
  by_cases h5 : (xs.length : Int) = 5
  · have h5' : xs.length = 5 := by omega
    have hall := all_loop 0 4 xs hx xs.length 0 (by omega)
    rw [List.drop_zero] at hall
    have hR := ranks_iff xs h5'
    have hcl : (Go.Lib.compact (xs.mergeSort fun x y => decide (x ≤ y))).length ≤ 1048576 := by
      unfold Go.Lib.compact Go.Lib.compactUpTo
      rw [List.length_map]
      refine Nat.le_trans (List.length_filter_le _ _) ?_
      rw [List.length_range, List.length_mergeSort]
      exact hx
    have hrise := impl_rise 4 _ hcl _ 0 (Nat.zero_add _)
    generalize Go.Lib.compact (xs.mergeSort fun x y => decide (x ≤ y)) = c at hR hcl hrise
    have hdup := dup_loop xs ys hx e he xs.length 0 (by omega)
    have hdi := dupR_iff xs e xs.length 0 (by omega)
    by_cases hcond : xs.all (inB 0 4) = true ∧ ∀ j, j < xs.length → xs.getD j 0 ∉ xs.take j
    · obtain ⟨hc5, hcr⟩ := hR.mp hcond
      have hde : dupR xs e xs.length 0 = e := by
        rw [Bool.eq_iff_iff, hdi]
        exact ⟨fun q => q.1, fun q => ⟨q, fun j _ hj => hcond.2 j hj⟩⟩
      rw [hde] at hdup
      refine ⟨e, ⟨fun q => ⟨⟨h5', hcond.1, (nodup_take xs).mp hcond.2⟩, hev.mp q⟩, fun q => hev.mpr q.2⟩, Ev.ite_pos h5 (Ev.bind (g := fun k => spec_l1All.f k xs 0 4) hall ?_), Ev.ite_pos h5 (Ev.ite_pos (by omega) (Ev.bind (g := fun k => impl_isRising.f k c 4) hrise (Ev.ite_pos hcr hi)))⟩
      rw [hcond.1]
      refine Ev.step (fun k => ?_) hdup
      simp only [spec_GoodPct.j0]; rw [if_neg (by simp)]; rfl
    · refine ⟨false, ⟨fun q => (by cases q), fun q => absurd ⟨q.1.2.1, (nodup_take xs).mpr q.1.2.2⟩ hcond⟩, Ev.ite_pos h5 (Ev.bind (g := fun k => spec_l1All.f k xs 0 4) hall ?_), Ev.ite_pos h5 ?_⟩
      · cases ha : xs.all (inB 0 4) with
        | false => exact hj0
        | true =>
          have hde : dupR xs e xs.length 0 = false := by
            rw [← Bool.not_eq_true, hdi]
            exact fun q => hcond ⟨ha, fun j hj => q.2 j (by omega) hj⟩
          rw [hde] at hdup
          refine Ev.step (fun k => ?_) hdup
          simp only [spec_GoodPct.j0]; rw [if_neg (by simp)]; rfl
      · by_cases hc5 : (c.length : Int) = 5
        · refine Ev.ite_pos hc5 (Ev.bind (g := fun k => impl_isRising.f k c 4) hrise (Ev.ite_neg (fun q => hcond (hR.mpr ⟨by omega, q⟩)) (Ev.now _)))
        · exact Ev.ite_neg hc5 (Ev.now _)
  · exact ⟨false, ⟨fun q => (by cases q), fun q => absurd q.1.1 (by omega)⟩, Ev.ite_neg h5 hj0, Ev.ite_neg h5 (Ev.now _)⟩
theorem good_same (xs ys : List Int) (hx : xs.length ≤ 1048576) (hy : ys.length ≤ 1048576) : ∃ r, Ev (fun k => spec_GoodPct.f k xs ys) r ∧ Ev (fun k => impl_GoodPct.f k xs ys) r := by
  obtain ⟨r, _, h⟩ := good_char xs ys hx hy
  exact ⟨r, h⟩
theorem sz_int (l : List Int) (m : Int) (h0 : 0 ≤ m) (h1 : m ≤ 1048576) (hl : l.length ≤ 9223372036854775807) : laws_szIntS.f l m = some (if m - (l.length : Int) < 0 then -1 else m - (l.length : Int)) := by
  simp only [laws_szIntS.f]
  rw [wrap_id (by omega) (by omega)]
  split <;> rfl
theorem markIntS_l0 (n : Nat) (hn : n ≤ 1048576) : ∀ (d i : Nat) (xs : List Int) (a : Int), i + d = n → xs.length = n → 0 ≤ a → a + (d : Int) ≤ 5000000000000000000 →
    Ev (fun k => laws_markIntS.l0 k xs a (i : Int)) (a + d, xs.take i ++ iota a d)
  | 0, i, xs, a, h, hl, h0, h1 => by
    have e : xs.take i ++ iota a 0 = xs := by rw [List.take_of_length_le (by omega), iota, List.append_nil]
    rw [e]
    refine Ev.step (f := fun _ => some (a, xs)) (fun k => ?_) ⟨0, fun _ _ => by simp⟩
    simp only [laws_markIntS.l0]
    rw [if_neg (by omega)]
  | d + 1, i, xs, a, h, hl, h0, h1 => by
    have ih := markIntS_l0 n hn d (i + 1) (xs.set i a) (a + 1) (by omega) (by simpa using hl) (by omega) (by omega)
    have e : (xs.set i a).take (i + 1) ++ iota (a + 1) d = xs.take i ++ iota a (d + 1) := by
      rw [List.take_succ_eq_append_getElem (by simp; omega), List.getElem_set_self, List.take_set, List.set_eq_of_length_le (by simp; omega), List.append_assoc]
      rfl
    rw [e, show a + 1 + (d : Int) = a + ((d + 1 : Nat) : Int) from by omega] at ih
    refine Ev.step (fun k => ?_) ih
    simp only [laws_markIntS.l0]
    rw [if_pos (by omega), if_pos (by omega), wrap_id (by omega) (by omega), wrap_id (by omega) (by omega)]
    rfl
theorem markIntS_ev (xs : List Int) (a : Int) (hn : xs.length ≤ 1048576) (h0 : 0 ≤ a) (h1 : a ≤ 4611686018427387000) : Ev (fun k => laws_markIntS.f k xs a) (a + xs.length, iota a xs.length) := by
  have h := markIntS_l0 xs.length hn xs.length 0 xs a (by omega) rfl h0 (by omega)
  simp only [List.take_zero, List.nil_append] at h
  exact h
theorem heldIntS_l0 (n : Nat) (hn : n ≤ 1048576) (a : Int) (h0 : 0 ≤ a) (h1 : a ≤ 4611686018427387000) : ∀ (d i : Nat), i + d = n →
    Ev (fun k => laws_heldIntS.l0 k (iota a n) (a + i) (i : Int)) (a + n)
  | 0, i, h => by
    obtain rfl : i = n := by omega
    refine Ev.step (f := fun _ => some (a + (i : Int))) (fun k => ?_) (Ev.now _)
    simp only [laws_heldIntS.l0, iota_length]
    rw [if_neg (by omega)]
  | d + 1, i, h => by
    refine Ev.step (fun k => ?_) (heldIntS_l0 n hn a h0 h1 d (i + 1) (by omega))
    simp only [laws_heldIntS.l0, iota_length]
    rw [if_pos (by omega), if_pos (by omega), if_pos (by rw [rd_nat, iota_getD _ _ _ (by omega)]), wrap_id (by omega) (by omega), wrap_id (by omega) (by omega), show a + (i : Int) + 1 = a + ((i + 1 : Nat) : Int) from by omega]
    rfl
theorem heldIntS_ev (n : Nat) (a : Int) (hn : n ≤ 1048576) (h0 : 0 ≤ a) (h1 : a ≤ 4611686018427387000) : Ev (fun k => laws_heldIntS.f k (iota a n) a) (a + n) := by
  have h := heldIntS_l0 n hn a h0 h1 n 0 (by omega)
  simp only [Int.ofNat_zero, Int.add_zero, Int.natCast_zero] at h
  exact h
def Ris (ys : List Int) : Prop := ∀ j, 0 < j → j < ys.length → ys.getD (j - 1) 0 < ys.getD j 0
theorem ris_lt {ys : List Int} (h : Ris ys) {i j : Nat} (hij : i < j) (hj : j < ys.length) : ys.getD i 0 < ys.getD j 0 := by
  have := adj_lt ys h (j - i - 1) i (by omega)
  rwa [show i + (j - i - 1 + 1) = j by omega] at this
theorem mem_getD {ys : List Int} {a : Int} : a ∈ ys ↔ ∃ j, j < ys.length ∧ ys.getD j 0 = a := by
  rw [List.mem_iff_getElem]
  constructor
  · rintro ⟨j, hj, e⟩; exact ⟨j, hj, by simp [hj, e]⟩
  · rintro ⟨j, hj, e⟩; exact ⟨j, hj, by simpa [hj] using e⟩
theorem place_go (ys : List Int) (h : Ris ys) (a : Int) : ∀ d i : Nat, i + d = ys.length → (∀ j, j < i → ys.getD j 0 < a) → ∃ p, p ≤ ys.length ∧ (∀ j, j < p → ys.getD j 0 < a) ∧ (∀ j, p ≤ j → j < ys.length → a ≤ ys.getD j 0)
  | 0, i, hi, hl => ⟨i, by omega, hl, fun j h1 h2 => by omega⟩
  | d + 1, i, hi, hl => by
    by_cases c : ys.getD i 0 < a
    · refine place_go ys h a d (i + 1) (by omega) (fun j hj => ?_)
      rcases Nat.lt_succ_iff_lt_or_eq.mp hj with q | rfl
      · exact hl j q
      · exact c
    · refine ⟨i, by omega, hl, fun j h1 h2 => ?_⟩
      rcases Nat.lt_or_ge i j with q | q
      · have := ris_lt h q h2; omega
      · obtain rfl : j = i := by omega
        omega
def At (ys : List Int) (a : Int) (p : Nat) : Prop := p ≤ ys.length ∧ (∀ j, j < p → ys.getD j 0 < a) ∧ (∀ j, p ≤ j → j < ys.length → a ≤ ys.getD j 0)
theorem place (ys : List Int) (h : Ris ys) (a : Int) : ∃ p, At ys a p := place_go ys h a ys.length 0 (by omega) (fun j hj => by omega)
theorem at_mem {ys : List Int} (h : Ris ys) {a : Int} {p : Nat} (hp : At ys a p) : a ∈ ys ↔ p < ys.length ∧ ys.getD p 0 = a := by
  obtain ⟨h1, h2, h3⟩ := hp
  rw [mem_getD]
  constructor
  · rintro ⟨j, hj, e⟩
    rcases Nat.lt_trichotomy j p with q | q | q
    · have := h2 j q; omega
    · subst q; exact ⟨hj, e⟩
    · have e1 := ris_lt h q hj
      have e2 := h3 p (Nat.le_refl _) (by omega)
      omega
  · rintro ⟨q, e⟩; exact ⟨p, q, e⟩
theorem has_ev (ys : List Int) (hy : ys.length ≤ 1048576) (n : Int) : Ev (fun k => spec_l1Has.f k ys n) (decide (n ∈ ys)) := by
  have := has_loop n ys hy ys.length 0 (by omega)
  rwa [List.drop_zero] at this
theorem put_loop (ys : List Int) (a : Int) (p : Nat) (hy : ys.length ≤ 1048576) (hp : At ys a p) (hn : ¬ (p < ys.length ∧ ys.getD p 0 = a)) : ∀ d i : Nat, i + d = p → Ev (fun k => spec_l1Put.l0 k ys a (i : Int)) (ys.take p ++ [a] ++ ys.drop p)
  | 0, i, h => by
    obtain rfl : i = p := by omega
    have hle := hp.1
    have hlen : (ys.take i).length ≤ 1048576 := by rw [List.length_take]; omega
    have hlen2 : (ys.drop i).length ≤ 1048576 := by rw [List.length_drop]; omega
    refine Ev.step (f := fun _ => some (ys.take i ++ [a] ++ ys.drop i)) (fun k => ?_) (Ev.now _)
    have e0 : ((i : Int)).toNat = i := Int.toNat_natCast i
    by_cases c : i < ys.length
    · have h3 := hp.2.2 i (Nat.le_refl _) c
      have hne : ¬ ys.getD i 0 = a := fun q => hn ⟨c, q⟩
      simp only [spec_l1Put.l0, rd_nat, Option.bind_some, e0]
      rw [if_pos (by omega), if_pos (by omega), if_neg (by omega), if_neg hne, if_pos (by omega), if_pos (by simp; omega), if_pos (by simp; omega), if_pos (by simp; omega), List.nil_append]
    · simp only [spec_l1Put.l0, Option.bind_some, e0]
      rw [if_neg (by omega), if_pos (by omega), if_pos (by omega), if_pos (by simp; omega), if_pos (by simp; omega), if_pos (by simp; omega), List.nil_append]
  | d + 1, i, h => by
    have hle := hp.1
    have h2 := hp.2.1 i (by omega)
    have hst : ∀ k, spec_l1Put.l0 (k + 1) ys a (i : Int) = spec_l1Put.l0 k ys a ((i + 1 : Nat) : Int) := by
      intro k
      simp only [spec_l1Put.l0, rd_nat]
      rw [if_pos (by omega), if_pos (by omega), if_pos h2, wrap_id (n := (i : Int) + 1) (by omega) (by omega)]
      rfl
    exact Ev.step hst (put_loop ys a p hy hp hn d (i + 1) (by omega))
theorem put_ev (ys : List Int) (a : Int) (p : Nat) (hy : ys.length ≤ 1048576) (hp : At ys a p) (hn : ¬ (p < ys.length ∧ ys.getD p 0 = a)) : Ev (fun k => spec_l1Put.f k ys a) (ys.take p ++ [a] ++ ys.drop p) := put_loop ys a p hy hp hn p 0 (by omega)
theorem less_dec (x y : Int) : cmp_Less_int.f x y = some (decide (x < y)) := by
  simp [cmp_Less_int.f, cmp_isNaN_int.f]
theorem bin_loop (ys : List Int) (a : Int) (p : Nat) (hy : ys.length ≤ 1048576) (hp : At ys a p) : ∀ d lo hi : Nat, hi - lo ≤ d → lo ≤ p → p ≤ hi → hi ≤ ys.length →
    Ev (fun k => slices_BinarySearch_int_int.l0 k ys a (ys.length : Int) (lo : Int) (hi : Int)) ((p : Int), decide (p < ys.length ∧ ys.getD p 0 = a)) := by
  have hend : ∀ p' : Nat, p' = p → Ev (fun k => slices_BinarySearch_int_int.l0 k ys a (ys.length : Int) (p' : Int) (p' : Int)) ((p : Int), decide (p < ys.length ∧ ys.getD p 0 = a)) := by
    rintro p' rfl
    refine Ev.step (f := fun _ => some ((p' : Int), decide (p' < ys.length ∧ ys.getD p' 0 = a))) (fun k => ?_) (Ev.now _)
    simp only [slices_BinarySearch_int_int.l0, rd_nat]
    rw [if_neg (by omega)]
    by_cases c : p' < ys.length
    · rw [if_pos (by omega), if_pos (by omega), if_pos (by omega)]
      by_cases e : ys.getD p' 0 = a
      · rw [if_pos e, decide_eq_true ⟨c, e⟩]
      · rw [if_neg e, decide_eq_false (fun q => e q.2)]
        simp [slices_isNaN_int.f]
    · rw [if_neg (by omega), decide_eq_false (fun q => c q.1)]
  intro d
  induction d with
  | zero =>
    intro lo hi hd h1 h2 h3
    obtain rfl : lo = p := by omega
    obtain rfl : hi = lo := by omega
    exact hend _ rfl
  | succ d ih =>
    intro lo hi hd h1 h2 h3
    by_cases c : lo < hi
    · have hm : wrap64 ((IntKind.u64.wrap (wrap64 ((lo : Int) + (hi : Int)))) / 2) = (((lo + hi) / 2 : Nat) : Int) := by
        rw [wrap_id (n := (lo : Int) + (hi : Int)) (by omega) (by omega)]
        have e : IntKind.u64.wrap ((lo : Int) + (hi : Int)) = (lo : Int) + (hi : Int) := by
          show ((lo : Int) + (hi : Int)) % (2 ^ 64 : Int) = _
          omega
        rw [e, wrap_id (by omega) (by omega)]
        omega
      have hm2 : (lo + hi) / 2 < hi := by omega
      have hm3 : lo ≤ (lo + hi) / 2 := by omega
      generalize (lo + hi) / 2 = m at hm hm2 hm3
      have hst : ∀ k, slices_BinarySearch_int_int.l0 (k + 1) ys a (ys.length : Int) (lo : Int) (hi : Int) = if ys.getD m 0 < a then slices_BinarySearch_int_int.l0 k ys a (ys.length : Int) ((m + 1 : Nat) : Int) (hi : Int) else slices_BinarySearch_int_int.l0 k ys a (ys.length : Int) (lo : Int) (m : Int) := by
        intro k
        simp only [slices_BinarySearch_int_int.l0, hm, rd_nat, less_dec, Option.bind_some]
        rw [if_pos (by omega), if_pos (by omega), if_pos (by omega), wrap_id (n := (m : Int) + 1) (by omega) (by omega)]
        by_cases q : ys.getD m 0 < a
        · rw [if_pos q, if_pos (decide_eq_true q)]; rfl
        · rw [if_neg q, if_neg (by simpa using q)]
      by_cases q : ys.getD m 0 < a
      · have hmp : m < p := by
          rcases Nat.lt_or_ge m p with z | z
          · exact z
          · have := hp.2.2 m z (by omega); omega
        exact Ev.step hst (Ev.ite_pos q (ih (m + 1) hi (by omega) (by omega) h2 h3))
      · have hmp : p ≤ m := by
          rcases Nat.lt_or_ge m p with z | z
          · have := hp.2.1 m z; omega
          · exact z
        exact Ev.step hst (Ev.ite_neg q (ih lo m (by omega) h1 hmp (by omega)))
    · obtain rfl : lo = p := by omega
      obtain rfl : hi = lo := by omega
      exact hend _ rfl
theorem change_ev (xs ys : List Int) (a : Int) (p : Nat) (hy : ys.length ≤ 1048576) (hp : At ys a p) : Ev (fun k => impl_Pct_withChange.f k xs ys a) (xs, ys.take p ++ [a] ++ ys.drop p, !decide (p < ys.length ∧ ys.getD p 0 = a)) := by
  have hb : Ev (fun k => slices_BinarySearch_int_int.f k ys a) ((p : Int), decide (p < ys.length ∧ ys.getD p 0 = a)) := bin_loop ys a p hy hp ys.length 0 ys.length (by omega) (by omega) hp.1 (Nat.le_refl _)
  have hle := hp.1
  have hi : slices_Insert_int_int.f ys (p : Int) [a] = some (ys.take p ++ [a] ++ ys.drop p) := by
    simp only [slices_Insert_int_int.f]
    rw [if_pos (by omega), if_pos (by omega), if_pos (by simp), if_pos (by simp; omega), Int.toNat_natCast]
  simp only [impl_Pct_withChange.f]
  refine Ev.bind hb ?_
  simp only [hi, Option.bind_some]
  exact Ev.now _
theorem drop_loop (v : Int) (ys : List Int) (hy : ys.length ≤ 1048576) : ∀ (d i : Nat) (acc : List Int), i + d = ys.length → acc.length ≤ i → Ev (fun k => spec_l7Drop.l0 k v acc ys (ys.length : Int) (i : Int)) (acc ++ (ys.drop i).filter (fun x => !decide (x = v)))
  | 0, i, acc, h, ha => by
    rw [List.drop_eq_nil_of_le (by omega), List.filter_nil, List.append_nil]
    refine Ev.step (f := fun _ => some acc) (fun k => ?_) (Ev.now _)
    simp only [spec_l7Drop.l0]; rw [if_neg (by omega)]
  | d + 1, i, acc, h, ha => by
    have hi : i < ys.length := by omega
    have er : rd ys (i : Int) = ys[i] := by rw [rd_nat]; simp [hi]
    rw [List.drop_eq_getElem_cons hi, List.filter_cons]
    have hst : ∀ k, spec_l7Drop.l0 (k + 1) v acc ys (ys.length : Int) (i : Int) = if ys[i] = v then spec_l7Drop.l0 k v acc ys (ys.length : Int) ((i + 1 : Nat) : Int) else spec_l7Drop.l0 k v (acc ++ [ys[i]]) ys (ys.length : Int) ((i + 1 : Nat) : Int) := by
      intro k
      simp only [spec_l7Drop.l0, er]
      rw [if_pos (by omega), if_pos (by omega), if_pos (by omega), if_pos (show acc.length < 17592186044416 by omega), wrap_id (n := (i : Int) + 1) (by omega) (by omega)]
      rfl
    by_cases q : ys[i] = v
    · rw [if_neg (by simp [q])]
      exact Ev.step hst (Ev.ite_pos q (drop_loop v ys hy d (i + 1) acc (by omega) (by omega)))
    · rw [if_pos (by simp [q])]
      have := drop_loop v ys hy d (i + 1) (acc ++ [ys[i]]) (by omega) (by simp; omega)
      rw [List.append_assoc] at this
      exact Ev.step hst (Ev.ite_neg q this)
theorem drop_ev (ys : List Int) (h : Ris ys) (hy : ys.length ≤ 1048576) (i : Nat) (hi : i < ys.length) : Ev (fun k => spec_l7Drop.f k ys (ys.getD i 0)) (ys.take i ++ ys.drop (i + 1)) := by
  have := drop_loop (ys.getD i 0) ys hy ys.length 0 [] (by omega) (by simp)
  rw [List.drop_zero, List.nil_append] at this
  have e : ys.filter (fun x => !decide (x = ys.getD i 0)) = ys.take i ++ ys.drop (i + 1) := by
    have e0 : ys = ys.take i ++ (ys.getD i 0) :: ys.drop (i + 1) := by
      conv => lhs; rw [← List.take_append_drop i ys, List.drop_eq_getElem_cons hi]
      simp [hi]
    conv => lhs; arg 2; rw [e0]
    rw [List.filter_append, List.filter_cons, if_neg (by simp)]
    congr 1
    · rw [List.filter_eq_self]
      intro x hx
      obtain ⟨j, hj, e⟩ := List.mem_iff_getElem.mp hx
      rw [List.length_take] at hj
      rw [List.getElem_take] at e
      have := ris_lt h (i := j) (j := i) (by omega) hi
      have e2 : ys.getD j 0 = x := by rw [← e]; simp [show j < ys.length by omega]
      simp only [Bool.not_eq_true', decide_eq_false_iff_not]
      omega
    · rw [List.filter_eq_self]
      intro x hx
      obtain ⟨j, hj, e⟩ := List.mem_iff_getElem.mp hx
      rw [List.length_drop] at hj
      rw [List.getElem_drop] at e
      have := ris_lt h (i := i) (j := i + 1 + j) (by omega) (by omega)
      have e2 : ys.getD (i + 1 + j) 0 = x := by rw [← e]; simp [show i + 1 + j < ys.length by omega]
      simp only [Bool.not_eq_true', decide_eq_false_iff_not]
      omega
  rwa [e] at this
theorem index_loop (b : Int) (l : List Int) (hl : l.length ≤ 1048576) : ∀ d i : Nat, i + d = l.length → ∃ n : Int, Ev (fun k => slices_Index_int_int.l0 k l b (l.length : Int) (i : Int)) n ∧ decide (n ≥ 0) = decide (b ∈ l.drop i)
  | 0, i, h => by
    refine ⟨-1, Ev.step (f := fun _ => some (-1)) (fun k => ?_) (Ev.now _), by rw [List.drop_eq_nil_of_le (by omega)]; rfl⟩
    simp only [slices_Index_int_int.l0]; rw [if_neg (by omega)]
  | d + 1, i, h => by
    have hi : i < l.length := by omega
    have hst : ∀ k, slices_Index_int_int.l0 (k + 1) l b (l.length : Int) (i : Int) = if b = l[i] then some (i : Int) else slices_Index_int_int.l0 k l b (l.length : Int) ((i + 1 : Nat) : Int) := by
      intro k
      have er : rd l (i : Int) = l[i] := by rw [rd_nat]; simp [hi]
      simp only [slices_Index_int_int.l0]
      rw [if_pos (by omega), if_pos (by omega), if_pos (by omega), er, wrap_id (n := (i : Int) + 1) (by omega) (by omega)]
      rfl
    rw [List.drop_eq_getElem_cons hi]
    by_cases q : b = l[i]
    · exact ⟨(i : Int), Ev.step hst (Ev.ite_pos q (Ev.now _)), by rw [decide_eq_true (show (i : Int) ≥ 0 by omega), decide_eq_true (by rw [q]; exact List.mem_cons_self)]⟩
    · obtain ⟨n, h1, h2⟩ := index_loop b l hl d (i + 1) (by omega)
      refine ⟨n, Ev.step hst (Ev.ite_neg q h1), ?_⟩
      rw [h2, decide_eq_decide, List.mem_cons]
      exact ⟨Or.inr, fun z => z.resolve_left q⟩
theorem contains_ev (l : List Int) (hl : l.length ≤ 1048576) (b : Int) : Ev (fun k => slices_Contains_int_int.f k l b) (decide (b ∈ l)) := by
  obtain ⟨n, h1, h2⟩ := index_loop b l hl l.length 0 (by omega)
  rw [List.drop_zero] at h2
  rw [← h2]
  exact Ev.bind (g := fun k => slices_Index_int_int.f k l b) h1 (Ev.now _)
theorem swap_good (xs ys : List Int) (h : goodP xs ys) (x y : Nat) (hx : x < 5) (hy : y < 5) : goodP ((xs.set x (xs.getD y 0)).set y (xs.getD x 0)) ys := by
  obtain ⟨⟨h5, hall, hnd⟩, h2⟩ := h
  refine ⟨?_, h2⟩
  match xs, h5 with
  | [a, b, c, d, e], _ =>
    have hx' : x = 0 ∨ x = 1 ∨ x = 2 ∨ x = 3 ∨ x = 4 := by omega
    have hy' : y = 0 ∨ y = 1 ∨ y = 2 ∨ y = 3 ∨ y = 4 := by omega
    simp only [List.all_cons, List.all_nil, inB, Bool.and_true, Bool.and_eq_true, decide_eq_true_eq] at hall
    simp only [List.nodup_cons, List.mem_cons, List.not_mem_nil, or_false, not_or, List.nodup_nil, and_true, not_false_eq_true] at hnd
    refine ⟨by simp, ?_, ?_⟩
    · rcases hx' with rfl | rfl | rfl | rfl | rfl <;> rcases hy' with rfl | rfl | rfl | rfl | rfl <;> (simp [inB]; omega)
    · rcases hx' with rfl | rfl | rfl | rfl | rfl <;> rcases hy' with rfl | rfl | rfl | rfl | rfl <;> (simp [List.nodup_cons]; omega)
def none3 : List Int × List Int × Bool := ([], [], false)
theorem tmod_nat {a m : Int} (h0 : 0 ≤ a) (hm : 0 < m) : ∃ x : Nat, Int.tmod a m = (x : Int) ∧ (x : Int) < m := by
  refine ⟨(Int.tmod a m).toNat, ?_, ?_⟩
  · rw [Int.toNat_of_nonneg (Int.tmod_nonneg _ h0)]
  · rw [Int.toNat_of_nonneg (Int.tmod_nonneg _ h0)]
    exact Int.tmod_lt_of_pos _ hm
/-- Both put a number in that is not there, or tell that it is. -/
theorem both_put (xs zs : List Int) (a : Int) (hx : xs.length ≤ 1048576) (hz : zs.length ≤ 1000) (h : Ris zs) :
    ∃ (ws : List Int) (b : Bool), ws.length ≤ 1048576 ∧ Ev (fun k => impl_Pct_withChange.f k xs zs a) (xs, ws, !decide (a ∈ zs)) ∧ (a ∉ zs → Ev (fun k => spec_l1Put.f k zs a) ws) ∧ Ev (fun k => spec_GoodPct.f k xs ws) b ∧ Ev (fun k => impl_GoodPct.f k xs ws) b := by
  obtain ⟨p, hp⟩ := place zs h a
  have hm := at_mem h hp
  have hlen : (zs.take p ++ [a] ++ zs.drop p).length ≤ 1048576 := by simp; omega
  obtain ⟨b, hs, hi⟩ := good_same xs (zs.take p ++ [a] ++ zs.drop p) hx hlen
  have hc := change_ev xs zs a p (by omega) hp
  rw [show decide (p < zs.length ∧ zs.getD p 0 = a) = decide (a ∈ zs) from by rw [decide_eq_decide]; exact hm.symm] at hc
  exact ⟨_, b, hlen, hc, fun q => put_ev zs a p (by omega) hp (fun z => q (hm.mpr z)), hs, hi⟩
theorem change_same (xs ys : List Int) (hx : xs.length ≤ 1048576) (hy : ys.length ≤ 1048576) (n a b : Int) : ∃ r : List Int × List Int × Bool, r.1.length ≤ 1048576 ∧ r.2.1.length ≤ 1048576 ∧ Ev (fun k => spec_ChangePct.f k xs ys n a b) r ∧ Ev (fun k => impl_ChangePct.f k xs ys n a b) r := by
  have hjs : Ev (fun k => spec_ChangePct.j0 k n a b true xs ys) none3 := Ev.step (f := fun _ => some none3) (fun k => by simp only [spec_ChangePct.j0]; rw [if_pos trivial]; rfl) (Ev.now _)
  have hji : Ev (fun k => impl_ChangePct.j0 k n a b true xs ys) none3 := Ev.step (f := fun _ => some none3) (fun k => by simp only [impl_ChangePct.j0]; rw [if_pos trivial]; rfl) (Ev.now _)
  obtain ⟨g, hg, hgs, hgi⟩ := good_char xs ys hx hy
  simp only [spec_ChangePct.f, impl_ChangePct.f, l1In_dec, in_dec, Option.bind_some]
  by_cases c0 : g = true
  · by_cases c1 : 0 ≤ n ∧ n ≤ 3
    · by_cases c2 : 0 ≤ a ∧ a ≤ 99
      · by_cases c3 : 0 ≤ b ∧ b ≤ 99
        · -- the real ways
          suffices H : ∃ r : List Int × List Int × Bool, r.1.length ≤ 1048576 ∧ r.2.1.length ≤ 1048576 ∧ Ev (fun k => spec_ChangePct.j0 k n a b false xs ys) r ∧ Ev (fun k => impl_ChangePct.j0 k n a b false xs ys) r by
            obtain ⟨r, l1, l2, e1, e2⟩ := H
            refine ⟨r, l1, l2, Ev.bind hgs (Ev.ite_pos c0 (Ev.ite_pos (by simpa using c1) (Ev.ite_pos (by simpa using c2) ?_))), Ev.bind hgi (Ev.ite_pos c0 (Ev.ite_pos (by simpa using c1) (Ev.ite_pos (by simpa using c2) ?_)))⟩
            · rw [decide_eq_true c3]; exact e1
            · rw [decide_eq_true c3]; exact e2
          have hP := hg.mp c0
          have h5 : xs.length = 5 := hP.1.1
          have h4 : ys.length ≤ 4 := hP.2.1
          have hR : Ris ys := fun j h0 hj => (hP.2.2 j (by omega) hj).2 h0
          have hown : ∀ zs : List Int, zs.length ≤ 1048576 → spec_l1Own.f zs = some zs := fun zs hz => by
            simp only [spec_l1Own.f, Option.bind_some]; rw [if_pos (by simp; omega)]; rfl
          have hcs : spec_l13OwnPct.f xs ys = some (xs, ys) := by simp only [spec_l13OwnPct.f, hown xs hx, hown ys hy, Option.bind_some]
          have hci : impl_Pct_copied.f xs ys = some (xs, ys) := by simp only [impl_Pct_copied.f, clone_eq xs hx, clone_eq ys hy, Option.bind_some]
          by_cases n0 : n = 0
          · obtain ⟨x, ex, hx5⟩ := tmod_nat (m := 5) c2.1 (by omega)
            obtain ⟨y, ey, hy5⟩ := tmod_nat (m := 5) c3.1 (by omega)
            have hsw := swap_good xs ys hP x y (by omega) (by omega)
            obtain ⟨g2, hg2, _, hgi2⟩ := good_char ((xs.set x (xs.getD y 0)).set y (xs.getD x 0)) ys (by simp; omega) hy
            have hh0 : Ev (fun k => (impl_GoodPct.f k ((xs.set x (xs.getD y 0)).set y (xs.getD x 0)) ys).bind fun t284 => (if t284 = true then (some ((xs.set x (xs.getD y 0)).set y (xs.getD x 0), ys, true)) else (some (([] : List Int), ([] : List Int), false)))) ((xs.set x (xs.getD y 0)).set y (xs.getD x 0), ys, true) := Ev.bind hgi2 (Ev.ite_pos (hg2.mpr hsw) (Ev.now _))
            refine ⟨((xs.set x (xs.getD y 0)).set y (xs.getD x 0), ys, true), by simp; omega, hy, Ev.step (f := fun _ => some ((xs.set x (xs.getD y 0)).set y (xs.getD x 0), ys, true)) (fun k => ?_) (Ev.now _), Ev.step (fun k => ?_) hh0⟩
            · simp only [spec_ChangePct.j0, hcs, Option.bind_some, ex, ey, rd_nat, Int.toNat_natCast]
              rw [if_neg (by simp), if_pos n0, if_pos (by omega), if_pos (by omega), if_pos (by omega), if_pos (by omega), if_pos (by omega), if_pos (by omega)]
            · simp only [impl_ChangePct.j0, hci, Option.bind_some, ex, ey, rd_nat, Int.toNat_natCast]
              rw [if_neg (by simp), if_pos n0, if_pos (by omega), if_pos (by omega), if_pos (by omega), if_pos (by omega)]
          · by_cases n1 : n = 1
            · obtain ⟨ws, r, hw, hI, hS, gs, gi⟩ := both_put xs ys a hx (by omega) hR
              have hsp : ∀ {q}, Ev (fun k => spec_ChangePct.j3 k n a xs ys xs ys) q → Ev (fun k => spec_ChangePct.j0 k n a b false xs ys) q := by
                intro q h
                refine Ev.step (fun k => by simp only [spec_ChangePct.j0, hcs, Option.bind_some]; rw [if_neg (by simp), if_neg n0, if_neg (by omega)]) ?_
                refine Ev.step (fun k => by simp only [spec_ChangePct.j1]; rw [if_neg (by simp), if_neg (by omega)]) ?_
                refine Ev.step (fun k => by simp only [spec_ChangePct.j2]; rw [if_neg (by omega)]) h
              have him : ∀ {q}, Ev (fun k => (impl_Pct_withChange.f k xs ys a).bind fun bt285 => (if bt285.2.2 = true then ((impl_GoodPct.f k bt285.1 bt285.2.1).bind fun t292 => (if t292 = true then (some (bt285.1, bt285.2.1, true)) else (some (([] : List Int), ([] : List Int), false)))) else (some (([] : List Int), ([] : List Int), false)))) q → Ev (fun k => impl_ChangePct.j0 k n a b false xs ys) q := by
                intro q h
                exact Ev.step (fun k => by simp only [impl_ChangePct.j0, hci, Option.bind_some]; rw [if_neg (by simp), if_neg n0, if_pos n1]) h
              have hh := has_ev ys hy a
              by_cases m : a ∈ ys
              · rw [decide_eq_true m] at hI hh
                refine ⟨none3, by simp [none3], by simp [none3], hsp ?_, him (Ev.bind hI (Ev.ite_neg (by simp) (Ev.now _)))⟩
                refine Ev.step (fun k => by simp only [spec_ChangePct.j3]; rw [if_neg (by omega)]) ?_
                exact Ev.bind hh (Ev.ite_pos rfl (Ev.now _))
              · rw [decide_eq_false m] at hI hh
                cases r with
                | true =>
                  refine ⟨(xs, ws, true), hx, hw, hsp ?_, him (Ev.bind hI (Ev.ite_pos rfl (Ev.bind gi (Ev.ite_pos rfl (Ev.now _)))))⟩
                  refine Ev.step (fun k => by simp only [spec_ChangePct.j3]; rw [if_neg (by omega)]) ?_
                  exact Ev.bind hh (Ev.ite_neg (by simp) (Ev.bind (hS m) (Ev.bind gs (Ev.ite_pos rfl (Ev.now _)))))
                | false =>
                  refine ⟨none3, by simp [none3], by simp [none3], hsp ?_, him (Ev.bind hI (Ev.ite_pos rfl (Ev.bind gi (Ev.ite_neg (by simp) (Ev.now _)))))⟩
                  refine Ev.step (fun k => by simp only [spec_ChangePct.j3]; rw [if_neg (by omega)]) ?_
                  exact Ev.bind hh (Ev.ite_neg (by simp) (Ev.bind (hS m) (Ev.bind gs (Ev.ite_neg (by simp) (Ev.now _)))))
            · by_cases e0 : ys.length = 0
              · refine ⟨none3, by simp [none3], by simp [none3], ?_, ?_⟩
                · refine Ev.step (fun k => by simp only [spec_ChangePct.j0, hcs, Option.bind_some]; rw [if_neg (by simp), if_neg n0, if_pos (by omega)]) ?_
                  refine Ev.step (f := fun _ => some none3) (fun k => ?_) (Ev.now _)
                  simp only [spec_ChangePct.j1]; rw [if_pos (by simp [e0])]; rfl
                · refine Ev.step (f := fun _ => some none3) (fun k => ?_) (Ev.now _)
                  simp only [impl_ChangePct.j0, hci, Option.bind_some]
                  rw [if_neg (by simp), if_neg n0, if_neg n1, if_pos (by omega)]; rfl
              · obtain ⟨i, ei, hi⟩ := tmod_nat (a := a) (m := (ys.length : Int)) c2.1 (by omega)
                have hd := drop_ev ys hR hy i (by omega)
                have hdel : slices_Delete_int_int.f ys (i : Int) ((i : Int) + 1) = some (ys.take i ++ ys.drop (i + 1)) := by
                  simp only [slices_Delete_int_int.f]
                  rw [if_pos (by omega), if_pos (by omega), if_pos (by omega), Int.toNat_natCast, show ((i : Int) + 1).toNat = i + 1 by omega]
                have hzl : (ys.take i ++ ys.drop (i + 1)).length ≤ 1000 := by simp; omega
                have hzR : Ris (ys.take i ++ ys.drop (i + 1)) := by
                  have key : ∀ j, j < (ys.take i ++ ys.drop (i + 1)).length → (ys.take i ++ ys.drop (i + 1)).getD j 0 = ys.getD (if j < i then j else j + 1) 0 := by
                    intro j hj
                    have hl : (ys.take i).length = i := by rw [List.length_take]; omega
                    rw [List.getD_eq_getElem?_getD, List.getD_eq_getElem?_getD]
                    by_cases q : j < i
                    · rw [if_pos q, List.getElem?_append_left (by omega), List.getElem?_take_of_lt q]
                    · rw [if_neg q, List.getElem?_append_right (by omega), hl, List.getElem?_drop, show i + 1 + (j - i) = j + 1 by omega]
                  intro j h0 hj
                  rw [key j hj, key (j - 1) (by omega)]
                  have hl : (ys.take i ++ ys.drop (i + 1)).length = ys.length - 1 := by rw [List.length_append, List.length_take, List.length_drop]; omega
                  refine ris_lt hR ?_ ?_
                  · split <;> split <;> omega
                  · split <;> omega
                have hmem : ∀ v, v ∈ ys.take i ++ ys.drop (i + 1) → v ∈ ys := fun v hv => by
                  rcases List.mem_append.mp hv with q | q
                  · exact List.mem_of_mem_take q
                  · exact List.mem_of_mem_drop q
                generalize ys.take i ++ ys.drop (i + 1) = zs at hd hdel hzl hzR hmem
                have hsp : ∀ {q}, Ev (fun k => spec_ChangePct.j2 k n a b xs ys xs zs) q → Ev (fun k => spec_ChangePct.j0 k n a b false xs ys) q := by
                  intro q h
                  refine Ev.step (fun k => by simp only [spec_ChangePct.j0, hcs, Option.bind_some]; rw [if_neg (by simp), if_neg n0, if_pos (by omega)]) ?_
                  refine Ev.step (fun k => by simp only [spec_ChangePct.j1, ei, rd_nat]; rw [if_neg (by simp [e0]), if_pos (by omega), if_neg (by omega), if_pos (by omega), if_pos (by omega)]) (Ev.bind hd h)
                have hw64 : wrap64 ((i : Int) + 1) = (i : Int) + 1 := wrap_id (by omega) (by omega)
                have hct := contains_ev ys hy b
                have him : ∀ {q}, Ev (fun k => (if n = 3 then ((impl_Pct_withChange.f k xs zs b).bind fun bt297 => (if bt297.2.2 = true then (if decide (b ∈ ys) = true then (some (([] : List Int), ([] : List Int), false)) else ((impl_GoodPct.f k bt297.1 bt297.2.1).bind fun t304 => (if t304 = true then (some (bt297.1, bt297.2.1, true)) else (some (([] : List Int), ([] : List Int), false))))) else (some (([] : List Int), ([] : List Int), false)))) else ((impl_GoodPct.f k xs zs).bind fun t305 => (if t305 = true then (some (xs, zs, true)) else (some (([] : List Int), ([] : List Int), false)))))) q → Ev (fun k => impl_ChangePct.j0 k n a b false xs ys) q := by
                  intro q h
                  refine Ev.step (fun k => by simp only [impl_ChangePct.j0, hci, Option.bind_some, ei, hw64, hdel]; rw [if_neg (by simp), if_neg n0, if_neg n1, if_neg (by omega)]) (Ev.bind hct h)
                by_cases n3 : n = 3
                · obtain ⟨ws, r, hw, hI, hS, gs, gi⟩ := both_put xs zs b hx hzl hzR
                  have hh := has_ev ys hy b
                  have hsp3 : ∀ {q}, Ev (fun k => (spec_l1Has.f k ys b).bind fun t198 => (if t198 = true then (some (([] : List Int), ([] : List Int), false)) else ((spec_l1Put.f k zs b).bind fun t199 => ((spec_GoodPct.f k xs t199).bind fun t202 => (if t202 = true then (some (xs, t199, true)) else (some (([] : List Int), ([] : List Int), false))))))) q → Ev (fun k => spec_ChangePct.j0 k n a b false xs ys) q := by
                    intro q h
                    refine hsp (Ev.step (fun k => by simp only [spec_ChangePct.j2]; rw [if_pos n3]) ?_)
                    exact Ev.step (fun k => by simp only [spec_ChangePct.j3]; rw [if_neg (by omega)]) h
                  by_cases m : b ∈ ys
                  · rw [decide_eq_true m] at hh
                    refine ⟨none3, by simp [none3], by simp [none3], hsp3 (Ev.bind hh (Ev.ite_pos rfl (Ev.now _))), him (Ev.ite_pos n3 (Ev.bind hI ?_))⟩
                    by_cases m2 : b ∈ zs
                    · exact Ev.ite_neg (by simp [m2]) (Ev.now _)
                    · exact Ev.ite_pos (by simp [m2]) (Ev.ite_pos (decide_eq_true m) (Ev.now _))
                  · have m2 : b ∉ zs := fun q => m (hmem b q)
                    rw [decide_eq_false m] at hh
                    cases r with
                    | true => exact ⟨(xs, ws, true), hx, hw, hsp3 (Ev.bind hh (Ev.ite_neg (by simp) (Ev.bind (hS m2) (Ev.bind gs (Ev.ite_pos rfl (Ev.now _)))))), him (Ev.ite_pos n3 (Ev.bind hI (Ev.ite_pos (by simp [m2]) (Ev.ite_neg (by simp [m]) (Ev.bind gi (Ev.ite_pos rfl (Ev.now _)))))))⟩
                    | false => exact ⟨none3, by simp [none3], by simp [none3], hsp3 (Ev.bind hh (Ev.ite_neg (by simp) (Ev.bind (hS m2) (Ev.bind gs (Ev.ite_neg (by simp) (Ev.now _)))))), him (Ev.ite_pos n3 (Ev.bind hI (Ev.ite_pos (by simp [m2]) (Ev.ite_neg (by simp [m]) (Ev.bind gi (Ev.ite_neg (by simp) (Ev.now _)))))))⟩
                · have n2 : n = 2 := by omega
                  obtain ⟨r, gs, gi⟩ := good_same xs zs hx (by omega)
                  have hsp2 : ∀ {q}, Ev (fun k => (spec_GoodPct.f k xs zs).bind fun t197 => (if t197 = true then (some (xs, zs, true)) else (some (([] : List Int), ([] : List Int), false)))) q → Ev (fun k => spec_ChangePct.j0 k n a b false xs ys) q := by
                    intro q h
                    refine hsp (Ev.step (fun k => by simp only [spec_ChangePct.j2]; rw [if_neg n3]) ?_)
                    exact Ev.step (fun k => by simp only [spec_ChangePct.j3]; rw [if_pos n2]) h
                  cases r with
                  | true => exact ⟨(xs, zs, true), hx, by show zs.length ≤ _; omega, hsp2 (Ev.bind gs (Ev.ite_pos rfl (Ev.now _))), him (Ev.ite_neg n3 (Ev.bind gi (Ev.ite_pos rfl (Ev.now _))))⟩
                  | false => exact ⟨none3, by simp [none3], by simp [none3], hsp2 (Ev.bind gs (Ev.ite_neg (by simp) (Ev.now _))), him (Ev.ite_neg n3 (Ev.bind gi (Ev.ite_neg (by simp) (Ev.now _))))⟩
        · refine ⟨none3, by simp [none3], by simp [none3], Ev.bind hgs (Ev.ite_pos c0 (Ev.ite_pos (by simpa using c1) (Ev.ite_pos (by simpa using c2) ?_))), Ev.bind hgi (Ev.ite_pos c0 (Ev.ite_pos (by simpa using c1) (Ev.ite_pos (by simpa using c2) ?_)))⟩
          · rw [decide_eq_false c3]; exact hjs
          · rw [decide_eq_false c3]; exact hji
      · exact ⟨none3, by simp [none3], by simp [none3], Ev.bind hgs (Ev.ite_pos c0 (Ev.ite_pos (by simpa using c1) (Ev.ite_neg (by simpa using c2) hjs))), Ev.bind hgi (Ev.ite_pos c0 (Ev.ite_pos (by simpa using c1) (Ev.ite_neg (by simpa using c2) hji)))⟩
    · exact ⟨none3, by simp [none3], by simp [none3], Ev.bind hgs (Ev.ite_pos c0 (Ev.ite_neg (by simpa using c1) hjs)), Ev.bind hgi (Ev.ite_pos c0 (Ev.ite_neg (by simpa using c1) hji))⟩
  · exact ⟨none3, by simp [none3], by simp [none3], Ev.bind hgs (Ev.ite_neg c0 hjs), Ev.bind hgi (Ev.ite_neg c0 hji)⟩
theorem FnExactChangePct : laws_FnExactChangePct.Pure2 := by
  rintro ⟨xs, ys⟩ n a b ⟨⟨h1, _⟩, ⟨h2, _⟩⟩ _ _ _
  show ∃ k, laws_FnExactChangePct.f k xs ys n a b = some true
  apply Ev.rounds
  simp only [laws_FnExactChangePct.f, laws_szPct.f]
  rw [sz_int xs 1048576 (by omega) (by omega) h1]
  simp only [Option.bind_some]
  by_cases c1 : 1048576 - (xs.length : Int) < 0
  · rw [if_pos c1, if_pos (by omega)]
    exact Ev.bind (Ev.const rfl) (Ev.ite_pos (by omega) (Ev.now _))
  · rw [if_neg c1, if_neg c1, sz_int ys _ (by omega) (by omega) h2]
    simp only [Option.bind_some]
    by_cases c2 : 1048576 - (xs.length : Int) - (ys.length : Int) < 0
    · rw [if_pos c2, if_pos (by omega)]
      exact Ev.bind (Ev.const rfl) (Ev.ite_pos (by omega) (Ev.now _))
    · rw [if_neg c2, if_neg c2]
      refine Ev.bind (Ev.const rfl) (Ev.ite_neg c2 ?_)
      have hx : xs.length ≤ 1048576 := by omega
      have hy : ys.length ≤ 1048576 := by omega
      have ht : ∀ us vs : List Int, us.length ≤ 1048576 → vs.length ≤ 1048576 → Ev (fun k => laws_toPct.f k us vs) (us, vs) := fun us vs hu hv => Ev.bind (toIntS_ev us hu) (Ev.bind (toIntS_ev vs hv) (Ev.now _))
      have hq : ∀ us vs : List Int, us.length ≤ 1048576 → vs.length ≤ 1048576 → Ev (fun k => laws_eqPct.f k us vs us vs) true := fun us vs hu hv => Ev.bind (eqIntS_ev us hu) (Ev.ite_pos rfl (Ev.bind (eqIntS_ev vs hv) (Ev.ite_pos rfl (Ev.now _))))
      have hm : ∀ us vs : List Int, us.length ≤ 1048576 → vs.length ≤ 1048576 → Ev (fun k => laws_markPct.f k us vs 1) (1 + us.length + vs.length, iota 1 us.length, iota (1 + us.length) vs.length) := fun us vs hu hv => Ev.bind (markIntS_ev us 1 hu (by omega) (by omega)) (Ev.bind (markIntS_ev vs (1 + us.length) hv (by omega) (by omega)) (Ev.now _))
      have hh : ∀ u v : Nat, u ≤ 1048576 → v ≤ 1048576 → Ev (fun k => laws_heldPct.f k (iota 1 u) (iota (1 + (u : Int)) v) 1) (1 + (u : Int) + (v : Int)) := fun u v hu hv => Ev.bind (heldIntS_ev u 1 hu (by omega) (by omega)) (Ev.ite_neg (by omega) (Ev.bind (heldIntS_ev v (1 + (u : Int)) hv (by omega) (by omega)) (Ev.ite_neg (by omega) (Ev.now _))))
      obtain ⟨⟨us, vs, o⟩, lu, lv, hS, hI⟩ := change_same xs ys hx hy n a b
      simp only at lu lv
      have ho : (o != o) = false := by simp
      have hj2 : Ev (fun k => laws_FnExactChangePct.j2 k (1 + (us.length : Int) + (vs.length : Int)) (o != o) (iota 1 us.length) (iota (1 + (us.length : Int)) vs.length)) true := by
        rw [ho]
        refine Ev.step (fun k => by simp only [laws_FnExactChangePct.j2]; rw [if_neg (by simp)]) ?_
        exact Ev.bind (hh us.length vs.length lu lv) (Ev.ite_neg (by omega) (Ev.ite_pos rfl (Ev.now _)))
      have hj1 : Ev (fun k => laws_FnExactChangePct.j1 k n a b o (o != o) xs ys us vs us vs) true := by
        rw [ho]
        refine Ev.step (fun k => by simp only [laws_FnExactChangePct.j1]; rw [if_neg (by simp)]) ?_
        exact Ev.bind (hm us vs lu lv) (Ev.bind (hh us.length vs.length lu lv) (Ev.ite_neg (by omega) (Ev.ite_pos rfl (Ev.bind (ht xs ys hx hy) (Ev.bind hI (Ev.bind (hq us vs lu lv) (Ev.ite_pos rfl hj2)))))))
      have hj0 : Ev (fun k => laws_FnExactChangePct.j0 k n a b o o (o != o) xs ys us vs xs ys us vs) true := by
        rw [ho]
        refine Ev.step (fun k => by simp only [laws_FnExactChangePct.j0]; rw [if_neg (by simp)]) ?_
        exact Ev.bind (ht xs ys hx hy) (Ev.bind (hq xs ys hx hy) (Ev.ite_pos rfl (Ev.bind (hm xs ys hx hy) (Ev.ite_neg (by omega) (Ev.bind (hq us vs lu lv) (Ev.ite_pos rfl hj1))))))
      exact Ev.bind (ht xs ys hx hy) (Ev.bind hS (Ev.bind (ht xs ys hx hy) (Ev.bind hI (Ev.bind (hq us vs lu lv) (Ev.ite_pos rfl hj0)))))

end Go.Proofs.Ytpfbiopcfbokbaa.Pure

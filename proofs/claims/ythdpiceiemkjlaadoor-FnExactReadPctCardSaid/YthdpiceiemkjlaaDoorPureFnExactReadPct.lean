/- The pure statement of FnExactReadPct: parts at commas and at a stroke, and numbers in their one form. -/
import Derived.Test.YthdpiceiemkjlaaDoorQFnExactReadPct
import Derived.Test.YthdpiceiemkjlaaDoorMBase
import Derived.KernelRfl
import Derived.Lib.ItoaLen
import Derived.Lib.ItoaMem
import Derived.Lib.AtoiAll
import Derived.Lib.Split
set_option linter.unusedVariables false
set_option linter.unusedSimpArgs false
namespace Go.Proofs.YthdpiceiemkjlaaDoor.Pure
open Go.RowKit Go.Proofs.YthdpiceiemkjlaaDoor.GReadPct Go.Proofs.YthdpiceiemkjlaaDoorW.PrintWords Go.Proofs.YthdpiceiemkjlaaDoorW.PrintLast Go.Proofs.YthdpiceiemkjlaaDoorW.PrintMore Go.Proofs.YthdpiceiemkjlaaDoor.MBase
theorem l1In_dec (a b c : Int) : spec_l1In.f a b c = some (decide (b ≤ a ∧ a ≤ c)) := by
  unfold spec_l1In.f
  by_cases h : b ≤ a
  · rw [if_pos h]; simp [h]
  · rw [if_neg h]; simp [h]
theorem in_dec (a b c : Int) : impl_in.f a b c = some (decide (b ≤ a ∧ a ≤ c)) := l1In_dec a b c
theorem eqIntS_l0 (xs : List Int) (hx : xs.length ≤ 1048576) : ∀ (d i : Nat), i + d = xs.length → Ev (fun k => laws_eqIntS.l0 k xs xs (i : Int)) true
  | 0, i, h => by
    refine Ev.step (f := fun _ => some true) (fun k => ?_) (Ev.now _)
    simp only [laws_eqIntS.l0]
    rw [if_neg (by omega)]
  | d + 1, i, h => by
    refine Ev.step (fun k => ?_) (eqIntS_l0 xs hx d (i + 1) (by omega))
    simp only [laws_eqIntS.l0]
    rw [if_pos (by omega), if_pos (by omega), if_pos (by omega), if_pos trivial, wrap_id (by omega) (by omega)]
    rfl
theorem eqIntS_ev (xs : List Int) (hx : xs.length ≤ 1048576) : Ev (fun k => laws_eqIntS.f k xs xs) true := by
  refine Ev.congr (fun k => ?_) (eqIntS_l0 xs hx xs.length 0 (by omega))
  simp only [laws_eqIntS.f]
  rw [if_pos trivial]
  rfl
def inB (lo hi x : Int) : Bool := decide (lo ≤ x ∧ x ≤ hi)
theorem all_loop (lo hi : Int) (xs : List Int) (hx : xs.length ≤ 1048576) : ∀ d i : Nat, i + d = xs.length → Ev (fun k => spec_l1All.l0 k lo hi xs (xs.length : Int) (i : Int)) ((xs.drop i).all (inB lo hi))
  | 0, i, h => by
    rw [List.drop_eq_nil_of_le (by omega)]
    refine Ev.step (f := fun _ => some true) (fun k => ?_) (Ev.now _)
    simp only [spec_l1All.l0]; rw [if_neg (by omega)]
  | d + 1, i, h => by
    have hil : i < xs.length := by omega
    rw [List.drop_eq_getElem_cons hil, List.all_cons]
    have hst : ∀ k, spec_l1All.l0 (k+1) lo hi xs (xs.length : Int) (i : Int) = if inB lo hi xs[i] = true then spec_l1All.l0 k lo hi xs (xs.length : Int) ((i + 1 : Nat) : Int) else some false := by
      intro k
      simp only [spec_l1All.l0, l1In_dec, Option.bind_some]
      rw [if_pos (by omega), if_pos (by omega), if_pos (by omega), rd_nat, wrap_id (n := (i : Int) + 1) (by omega) (by omega)]
      have : xs.getD i 0 = xs[i] := by simp [hil]
      rw [this]
      rfl
    cases hg : inB lo hi xs[i] with
    | true => rw [Bool.true_and]; exact Ev.step hst (Ev.ite_pos hg (all_loop lo hi xs hx d (i + 1) (by omega)))
    | false => rw [Bool.false_and]; exact Ev.step hst (Ev.ite_neg (by simp [hg]) (Ev.now _))
theorem has_loop (n : Int) (xs : List Int) (hx : xs.length ≤ 1048576) : ∀ d i : Nat, i + d = xs.length → Ev (fun k => spec_l1Has.l0 k n xs (xs.length : Int) (i : Int)) (decide (n ∈ xs.drop i))
  | 0, i, h => by
    rw [List.drop_eq_nil_of_le (by omega)]
    refine Ev.step (f := fun _ => some (decide (n ∈ ([] : List Int)))) (fun k => ?_) (Ev.now _)
    simp only [spec_l1Has.l0]; rw [if_neg (by omega)]; simp
  | d + 1, i, h => by
    have hi : i < xs.length := by omega
    rw [List.drop_eq_getElem_cons hi]
    have hst : ∀ k, spec_l1Has.l0 (k+1) n xs (xs.length : Int) (i : Int) = if xs[i] = n then some true else spec_l1Has.l0 k n xs (xs.length : Int) ((i + 1 : Nat) : Int) := by
      intro k
      simp only [spec_l1Has.l0]
      rw [if_pos (by omega), if_pos (by omega), if_pos (by omega), rd_nat, wrap_id (n := (i : Int) + 1) (by omega) (by omega)]
      have : xs.getD i 0 = xs[i] := by simp [hi]
      rw [this]
      rfl
    by_cases he : xs[i] = n
    · rw [decide_eq_true (by rw [he]; exact List.mem_cons_self)]
      exact Ev.step hst (Ev.ite_pos he (Ev.now _))
    · have e : decide (n ∈ xs[i] :: xs.drop (i + 1)) = decide (n ∈ xs.drop (i + 1)) := by
        rw [decide_eq_decide, List.mem_cons]
        exact ⟨fun q => q.resolve_left (fun z => he z.symm), Or.inr⟩
      rw [e]
      exact Ev.step hst (Ev.ite_neg he (has_loop n xs hx d (i + 1) (by omega)))
/-- Whether numbers rise, within bounds, from place i on. -/
def riseR (lo hi : Int) (xs : List Int) : Nat → Nat → Bool
  | 0, _ => true
  | d + 1, i => if inB lo hi (xs.getD i 0) = true then (if 0 < i ∧ xs.getD (i - 1) 0 ≥ xs.getD i 0 then false else riseR lo hi xs d (i + 1)) else false
theorem spec_rise (lo hi : Int) (xs : List Int) (hx : xs.length ≤ 1048576) : ∀ d i : Nat, i + d = xs.length → Ev (fun k => spec_l1Rising.l0 k xs lo hi xs (xs.length : Int) (i : Int)) (riseR lo hi xs d i)
  | 0, i, h => by
    refine Ev.step (f := fun _ => some true) (fun k => ?_) (Ev.now _)
    simp only [spec_l1Rising.l0]; rw [if_neg (by omega)]
  | d + 1, i, h => by
    unfold riseR
    have hst : ∀ k, spec_l1Rising.l0 (k+1) xs lo hi xs (xs.length : Int) (i : Int) = if inB lo hi (xs.getD i 0) = true then (if 0 < i ∧ xs.getD (i - 1) 0 ≥ xs.getD i 0 then some false else spec_l1Rising.l0 k xs lo hi xs (xs.length : Int) ((i + 1 : Nat) : Int)) else some false := by
      intro k
      simp only [spec_l1Rising.l0, l1In_dec, Option.bind_some]
      rw [if_pos (by omega), if_pos (by omega), if_pos (by omega), rd_nat, wrap_id (n := (i : Int) + 1) (by omega) (by omega)]
      by_cases hb : inB lo hi (xs.getD i 0) = true
      · rw [if_pos (show decide (lo ≤ xs.getD i 0 ∧ xs.getD i 0 ≤ hi) = true from hb), if_pos hb]
        by_cases h0 : 0 < i
        · have e1 : wrap64 ((i : Int) - 1) = ((i - 1 : Nat) : Int) := by rw [wrap_id] <;> omega
          rw [if_pos (show (i : Int) > 0 by omega), e1, if_pos (by omega), if_pos (by omega), rd_nat]
          simp only [h0, true_and]
          rfl
        · rw [if_neg (show ¬ (i : Int) > 0 by omega)]
          simp only [h0, false_and, if_false]
          rfl
      · rw [if_neg (show ¬ decide (lo ≤ xs.getD i 0 ∧ xs.getD i 0 ≤ hi) = true from hb), if_neg hb]
    by_cases hb : inB lo hi (xs.getD i 0) = true
    · rw [if_pos hb]
      by_cases hc : 0 < i ∧ xs.getD (i - 1) 0 ≥ xs.getD i 0
      · rw [if_pos hc]; exact Ev.step hst (Ev.ite_pos hb (Ev.ite_pos hc (Ev.now _)))
      · rw [if_neg hc]; exact Ev.step hst (Ev.ite_pos hb (Ev.ite_neg hc (spec_rise lo hi xs hx d (i + 1) (by omega))))
    · rw [if_neg hb]; exact Ev.step hst (Ev.ite_neg hb (Ev.now _))
theorem impl_rise (hi : Int) (xs : List Int) (hx : xs.length ≤ 1048576) : ∀ d i : Nat, i + d = xs.length → Ev (fun k => impl_isRising.l0 k xs hi xs (xs.length : Int) (i : Int)) (riseR 0 hi xs d i)
  | 0, i, h => by
    refine Ev.step (f := fun _ => some true) (fun k => ?_) (Ev.now _)
    simp only [impl_isRising.l0]; rw [if_neg (by omega)]
  | d + 1, i, h => by
    unfold riseR
    have hst : ∀ k, impl_isRising.l0 (k+1) xs hi xs (xs.length : Int) (i : Int) = if inB 0 hi (xs.getD i 0) = true then (if 0 < i ∧ xs.getD (i - 1) 0 ≥ xs.getD i 0 then some false else impl_isRising.l0 k xs hi xs (xs.length : Int) ((i + 1 : Nat) : Int)) else some false := by
      intro k
      simp only [impl_isRising.l0, in_dec, Option.bind_some]
      rw [if_pos (by omega), if_pos (by omega), if_pos (by omega), rd_nat, wrap_id (n := (i : Int) + 1) (by omega) (by omega)]
      by_cases hb : inB 0 hi (xs.getD i 0) = true
      · rw [if_pos (show decide (0 ≤ xs.getD i 0 ∧ xs.getD i 0 ≤ hi) = true from hb), if_pos hb]
        by_cases h0 : 0 < i
        · have e1 : wrap64 ((i : Int) - 1) = ((i - 1 : Nat) : Int) := by rw [wrap_id] <;> omega
          rw [if_pos (show (i : Int) > 0 by omega), e1, if_pos (by omega), if_pos (by omega), rd_nat]
          simp only [h0, true_and]
          rfl
        · rw [if_neg (show ¬ (i : Int) > 0 by omega)]
          simp only [h0, false_and, if_false]
          rfl
      · rw [if_neg (show ¬ decide (0 ≤ xs.getD i 0 ∧ xs.getD i 0 ≤ hi) = true from hb), if_neg hb]
    by_cases hb : inB 0 hi (xs.getD i 0) = true
    · rw [if_pos hb]
      by_cases hc : 0 < i ∧ xs.getD (i - 1) 0 ≥ xs.getD i 0
      · rw [if_pos hc]; exact Ev.step hst (Ev.ite_pos hb (Ev.ite_pos hc (Ev.now _)))
      · rw [if_neg hc]; exact Ev.step hst (Ev.ite_pos hb (Ev.ite_neg hc (impl_rise hi xs hx d (i + 1) (by omega))))
    · rw [if_neg hb]; exact Ev.step hst (Ev.ite_neg hb (Ev.now _))
/-- What a row that rises is. -/
theorem riseR_iff (lo hi : Int) (xs : List Int) : ∀ d i : Nat, i + d = xs.length → (riseR lo hi xs d i = true ↔ ∀ j, i ≤ j → j < xs.length → (lo ≤ xs.getD j 0 ∧ xs.getD j 0 ≤ hi) ∧ (0 < j → xs.getD (j - 1) 0 < xs.getD j 0))
  | 0, i, h => by
    unfold riseR
    exact ⟨fun _ j h1 h2 => by omega, fun _ => rfl⟩
  | d + 1, i, h => by
    unfold riseR
    have ih := riseR_iff lo hi xs d (i + 1) (by omega)
    by_cases hb : inB lo hi (xs.getD i 0) = true
    · rw [if_pos hb]
      have hb' := of_decide_eq_true hb
      by_cases hc : 0 < i ∧ xs.getD (i - 1) 0 ≥ xs.getD i 0
      · rw [if_pos hc]
        refine ⟨fun q => (by cases q), fun q => ?_⟩
        have := (q i (Nat.le_refl _) (by omega)).2 hc.1
        omega
      · rw [if_neg hc, ih]
        constructor
        · intro q j h1 h2
          by_cases e : j = i
          · subst e
            exact ⟨hb', fun z => by
              have : ¬ xs.getD (j - 1) 0 ≥ xs.getD j 0 := fun y => hc ⟨z, y⟩
              omega⟩
          · exact q j (by omega) h2
        · intro q j h1 h2
          exact q j (by omega) h2
    · rw [if_neg hb]
      refine ⟨fun q => (by cases q), fun q => ?_⟩
      exact absurd (decide_eq_true (q i (Nat.le_refl _) (by omega)).1) hb
/-- The loop over the ranks, from place i on. -/
def dupR (xs : List Int) (e : Bool) : Nat → Nat → Bool
  | 0, _ => e
  | d + 1, i => if xs.getD i 0 ∈ xs.take i then false else dupR xs e d (i + 1)
theorem dupR_iff (xs : List Int) (e : Bool) : ∀ d i : Nat, i + d = xs.length → (dupR xs e d i = true ↔ e = true ∧ ∀ j, i ≤ j → j < xs.length → xs.getD j 0 ∉ xs.take j)
  | 0, i, h => by
    unfold dupR
    exact ⟨fun q => ⟨q, fun j h1 h2 => by omega⟩, fun q => q.1⟩
  | d + 1, i, h => by
    unfold dupR
    have ih := dupR_iff xs e d (i + 1) (by omega)
    by_cases hm : xs.getD i 0 ∈ xs.take i
    · rw [if_pos hm]
      exact ⟨fun q => (by cases q), fun q => absurd hm (q.2 i (Nat.le_refl _) (by omega))⟩
    · rw [if_neg hm, ih]
      refine ⟨fun q => ⟨q.1, fun j h1 h2 => ?_⟩, fun q => ⟨q.1, fun j h1 h2 => q.2 j (by omega) h2⟩⟩
      by_cases e1 : j = i
      · subst e1; exact hm
      · exact q.2 j (by omega) h2
theorem dup_loop (xs ys : List Int) (hx : xs.length ≤ 1048576) (e : Bool) (he : Ev (fun k => if (ys.length : Int) ≤ 4 then ((spec_l1Rising.f k ys 0 199).bind fun t => some t) else some false) e) : ∀ d i : Nat, i + d = xs.length → Ev (fun k => spec_GoodPct.l0 k xs (xs.length : Int) (i : Int) xs ys) (dupR xs e d i)
  | 0, i, h => by
    refine Ev.step (fun k => ?_) he
    simp only [spec_GoodPct.l0]; rw [if_neg (by omega)]
  | d + 1, i, h => by
    have hil : i < xs.length := by omega
    unfold dupR
    have hh := has_loop (xs.getD i 0) (xs.take i) (by simp; omega) (xs.take i).length 0 (by omega)
    rw [List.drop_zero] at hh
    refine Ev.step (f := fun k => (spec_l1Has.f k (xs.take i) (xs.getD i 0)).bind fun t => if t = true then some false else spec_GoodPct.l0 k xs (xs.length : Int) ((i + 1 : Nat) : Int) xs ys) (fun k => ?_) (Ev.bind hh ?_)
    · simp only [spec_GoodPct.l0]
      rw [if_pos (by omega), if_pos (by omega), if_pos (by omega), if_pos (by omega), rd_nat, Int.toNat_natCast, wrap_id (n := (i : Int) + 1) (by omega) (by omega)]
      rfl
    · by_cases hm : xs.getD i 0 ∈ xs.take i
      · rw [if_pos hm]; exact Ev.ite_pos (decide_eq_true hm) (Ev.now _)
      · rw [if_neg hm]; exact Ev.ite_neg (by simpa using hm) (dup_loop xs ys hx e he d (i + 1) (by omega))
theorem keeps_all (s : List Int) (h : (Go.Lib.compact s).length = s.length) : ∀ j, j < s.length → Go.Lib.keeps s.toArray j = true := by
  unfold Go.Lib.compact Go.Lib.compactUpTo at h
  rw [List.length_map] at h
  have h2 : ((List.range s.length).filter (Go.Lib.keeps s.toArray)).length = (List.range s.length).length := by rw [h, List.length_range]
  rw [List.length_filter_eq_length_iff] at h2
  exact fun j hj => h2 j (List.mem_range.mpr hj)
theorem compact_self (s : List Int) (h : ∀ j, j < s.length → Go.Lib.keeps s.toArray j = true) : Go.Lib.compact s = s := by
  unfold Go.Lib.compact Go.Lib.compactUpTo
  rw [List.filter_eq_self.mpr (fun j hj => h j (List.mem_range.mp hj))]
  apply List.ext_getElem
  · simp
  · intro i h1 h2
    simp at h1
    simp [getElem!_pos, h1]
theorem nodup_take (xs : List Int) : (∀ j, j < xs.length → xs.getD j 0 ∉ xs.take j) ↔ xs.Nodup := by
  rw [List.Nodup, List.pairwise_iff_getElem]
  constructor
  · intro h i j hi hj hij e
    apply h j hj
    have : xs.getD j 0 = xs[j] := by simp [hj]
    rw [this, ← e]
    exact List.mem_take_iff_getElem.mpr ⟨i, by omega, rfl⟩
  · intro h j hj hm
    have e : xs.getD j 0 = xs[j] := by simp [hj]
    rw [e] at hm
    obtain ⟨i, hi, hx⟩ := List.mem_take_iff_getElem.mp hm
    exact h i j (by omega) hj (by omega) hx
theorem adj_lt (s : List Int) (h : ∀ j, 0 < j → j < s.length → s.getD (j - 1) 0 < s.getD j 0) : ∀ d i : Nat, i + (d + 1) < s.length → s.getD i 0 < s.getD (i + (d + 1)) 0
  | 0, i, hl => by have := h (i + 1) (by omega) hl; simpa using this
  | d + 1, i, hl => by
    have h1 := adj_lt s h d i (by omega)
    have h2 := h (i + (d + 1 + 1)) (by omega) hl
    rw [show i + (d + 1 + 1) - 1 = i + (d + 1) from by omega] at h2
    omega
theorem ranks_iff (xs : List Int) (h5 : xs.length = 5) :
    (xs.all (inB 0 4) = true ∧ ∀ j, j < xs.length → xs.getD j 0 ∉ xs.take j) ↔ ((Go.Lib.compact (xs.mergeSort fun x y => decide (x ≤ y))).length = 5 ∧ riseR 0 4 (Go.Lib.compact (xs.mergeSort fun x y => decide (x ≤ y))) (Go.Lib.compact (xs.mergeSort fun x y => decide (x ≤ y))).length 0 = true) := by
  have hp : (xs.mergeSort fun x y => decide (x ≤ y)).Perm xs := List.mergeSort_perm xs _
  have hs : (xs.mergeSort fun x y => decide (x ≤ y)).Pairwise (fun a b => decide (a ≤ b) = true) := List.pairwise_mergeSort (by intro a b c; simp; omega) (by intro a b; simp; omega) xs
  generalize (xs.mergeSort fun x y => decide (x ≤ y)) = s at hp hs
  have hl : s.length = 5 := by rw [hp.length_eq, h5]
  rw [nodup_take, ← hp.nodup_iff]
  have hs' := List.pairwise_iff_getElem.mp hs
  constructor
  · rintro ⟨ha, hn⟩
    have hn' := List.pairwise_iff_getElem.mp hn
    have hk : ∀ j, j < s.length → Go.Lib.keeps s.toArray j = true := by
      intro j hj
      unfold Go.Lib.keeps
      rw [decide_eq_true_eq]
      by_cases h0 : j = 0
      · exact .inl h0
      · right
        have := hn' (j - 1) j (by omega) hj (by omega)
        simp [getElem!_pos, hj, show j - 1 < s.length by omega]
        exact fun e => this e.symm
    rw [compact_self s hk]
    refine ⟨hl, (riseR_iff 0 4 s s.length 0 (by omega)).mpr (fun j _ hj => ⟨?_, fun h0 => ?_⟩)⟩
    · have e : s.getD j 0 = s[j] := by simp [hj]
      rw [e]
      have := List.all_eq_true.mp ha s[j] (hp.mem_iff.mp (List.getElem_mem hj))
      exact of_decide_eq_true this
    · have e : s.getD j 0 = s[j] := by simp [hj]
      have e2 : s.getD (j - 1) 0 = s[j - 1] := by simp [show j - 1 < s.length by omega]
      have h1 := of_decide_eq_true (hs' (j - 1) j (by omega) hj (by omega))
      have h2 := hn' (j - 1) j (by omega) hj (by omega)
      rw [e, e2]
      omega
  · rintro ⟨hc, hr⟩
    have hk := keeps_all s (by omega)
    rw [compact_self s hk] at hr
    have hr' := (riseR_iff 0 4 s s.length 0 (by omega)).mp hr
    refine ⟨List.all_eq_true.mpr (fun x hx => ?_), List.pairwise_iff_getElem.mpr (fun i j hi hj hij => ?_)⟩
    · obtain ⟨j, hj, rfl⟩ := List.getElem_of_mem (hp.mem_iff.mpr hx)
      have e : s.getD j 0 = s[j] := by simp [hj]
      have := (hr' j (by omega) hj).1
      rw [e] at this
      exact decide_eq_true this
    · obtain ⟨d, hd⟩ : ∃ d, j = i + (d + 1) := ⟨j - i - 1, by omega⟩
      have h1 := adj_lt s (fun k h0 hk => (hr' k (by omega) hk).2 h0) d i (by omega)
      rw [← hd] at h1
      have e : s.getD j 0 = s[j] := by simp [hj]
      have e2 : s.getD i 0 = s[i] := by simp [hi]
      rw [e, e2] at h1
      omega
theorem clone_eq (xs : List Int) (hx : xs.length ≤ 1048576) : slices_Clone_int_int.f xs = some xs := by
  simp only [slices_Clone_int_int.f, Option.bind_some]; rw [if_pos (by simp; omega)]; rfl
/-- What a good schedule is. -/
def goodP (xs ys : List Int) : Prop := (xs.length = 5 ∧ xs.all (inB 0 4) = true ∧ xs.Nodup) ∧ ys.length ≤ 4 ∧ ∀ j, 0 ≤ j → j < ys.length → (0 ≤ ys.getD j 0 ∧ ys.getD j 0 ≤ 199) ∧ (0 < j → ys.getD (j - 1) 0 < ys.getD j 0)
theorem good_char (xs ys : List Int) (hx : xs.length ≤ 1048576) (hy : ys.length ≤ 1048576) : ∃ r, (r = true ↔ goodP xs ys) ∧ Ev (fun k => spec_GoodPct.f k xs ys) r ∧ Ev (fun k => impl_GoodPct.f k xs ys) r := by
  have hj0 : Ev (fun k => spec_GoodPct.j0 k true xs ys) false := Ev.step (f := fun _ => some false) (fun k => by simp only [spec_GoodPct.j0]; rw [if_pos trivial]) (Ev.now _)
  obtain ⟨e, hev, he, hi⟩ : ∃ e, (e = true ↔ ys.length ≤ 4 ∧ ∀ j, 0 ≤ j → j < ys.length → (0 ≤ ys.getD j 0 ∧ ys.getD j 0 ≤ 199) ∧ (0 < j → ys.getD (j - 1) 0 < ys.getD j 0)) ∧ Ev (fun k => if (ys.length : Int) ≤ 4 then ((spec_l1Rising.f k ys 0 199).bind fun t => some t) else some false) e ∧ Ev (fun k => if (ys.length : Int) ≤ 4 then ((impl_isRising.f k ys 199).bind fun t => some t) else some false) e := by
    by_cases h4 : (ys.length : Int) ≤ 4
    · exact ⟨riseR 0 199 ys ys.length 0, by rw [riseR_iff 0 199 ys ys.length 0 (by omega)]; exact ⟨fun q => ⟨by omega, q⟩, fun q => q.2⟩, Ev.ite_pos h4 (Ev.bind (g := fun k => spec_l1Rising.f k ys 0 199) (spec_rise 0 199 ys hy ys.length 0 (by omega)) (Ev.now _)), Ev.ite_pos h4 (Ev.bind (g := fun k => impl_isRising.f k ys 199) (impl_rise 199 ys hy ys.length 0 (by omega)) (Ev.now _))⟩
    · exact ⟨false, ⟨fun q => (by cases q), fun q => absurd q.1 (by omega)⟩, Ev.ite_neg h4 (Ev.now _), Ev.ite_neg h4 (Ev.now _)⟩
  have hris : impl_rising.f xs = some (Go.Lib.compact (xs.mergeSort fun x y => decide (x ≤ y))) := by
    simp only [impl_rising.f, slices_Sort_int_int.f, slices_Compact_int_int.f]
    rw [if_pos (by omega), Option.bind_some, Option.bind_some]
  simp only [spec_GoodPct.f, impl_GoodPct.f, clone_eq xs hx, hris, Option.bind_some]
  by_cases h5 : (xs.length : Int) = 5
  · have h5' : xs.length = 5 := by omega
    have hall := all_loop 0 4 xs hx xs.length 0 (by omega)
    rw [List.drop_zero] at hall
    have hR := ranks_iff xs h5'
    have hcl : (Go.Lib.compact (xs.mergeSort fun x y => decide (x ≤ y))).length ≤ 1048576 := by
      unfold Go.Lib.compact Go.Lib.compactUpTo
      rw [List.length_map]
      refine Nat.le_trans (List.length_filter_le _ _) ?_
      rw [List.length_range, List.length_mergeSort]
      exact hx
    have hrise := impl_rise 4 _ hcl _ 0 (Nat.zero_add _)
    generalize Go.Lib.compact (xs.mergeSort fun x y => decide (x ≤ y)) = c at hR hcl hrise
    have hdup := dup_loop xs ys hx e he xs.length 0 (by omega)
    have hdi := dupR_iff xs e xs.length 0 (by omega)
    by_cases hcond : xs.all (inB 0 4) = true ∧ ∀ j, j < xs.length → xs.getD j 0 ∉ xs.take j
    · obtain ⟨hc5, hcr⟩ := hR.mp hcond
      have hde : dupR xs e xs.length 0 = e := by
        rw [Bool.eq_iff_iff, hdi]
        exact ⟨fun q => q.1, fun q => ⟨q, fun j _ hj => hcond.2 j hj⟩⟩
      rw [hde] at hdup
      refine ⟨e, ⟨fun q => ⟨⟨h5', hcond.1, (nodup_take xs).mp hcond.2⟩, hev.mp q⟩, fun q => hev.mpr q.2⟩, Ev.ite_pos h5 (Ev.bind (g := fun k => spec_l1All.f k xs 0 4) hall ?_), Ev.ite_pos h5 (Ev.ite_pos (by omega) (Ev.bind (g := fun k => impl_isRising.f k c 4) hrise (Ev.ite_pos hcr hi)))⟩
      rw [hcond.1]
      refine Ev.step (fun k => ?_) hdup
      simp only [spec_GoodPct.j0]; rw [if_neg (by simp)]; rfl
    · refine ⟨false, ⟨fun q => (by cases q), fun q => absurd ⟨q.1.2.1, (nodup_take xs).mpr q.1.2.2⟩ hcond⟩, Ev.ite_pos h5 (Ev.bind (g := fun k => spec_l1All.f k xs 0 4) hall ?_), Ev.ite_pos h5 ?_⟩
      · cases ha : xs.all (inB 0 4) with
        | false => exact hj0
        | true =>
          have hde : dupR xs e xs.length 0 = false := by
            rw [← Bool.not_eq_true, hdi]
            exact fun q => hcond ⟨ha, fun j hj => q.2 j (by omega) hj⟩
          rw [hde] at hdup
          refine Ev.step (fun k => ?_) hdup
          simp only [spec_GoodPct.j0]; rw [if_neg (by simp)]; rfl
      · by_cases hc5 : (c.length : Int) = 5
        · refine Ev.ite_pos hc5 (Ev.bind (g := fun k => impl_isRising.f k c 4) hrise (Ev.ite_neg (fun q => hcond (hR.mpr ⟨by omega, q⟩)) (Ev.now _)))
        · exact Ev.ite_neg hc5 (Ev.now _)
  · exact ⟨false, ⟨fun q => (by cases q), fun q => absurd q.1.1 (by omega)⟩, Ev.ite_neg h5 hj0, Ev.ite_neg h5 (Ev.now _)⟩
theorem good_same (xs ys : List Int) (hx : xs.length ≤ 1048576) (hy : ys.length ≤ 1048576) : ∃ r, Ev (fun k => spec_GoodPct.f k xs ys) r ∧ Ev (fun k => impl_GoodPct.f k xs ys) r := by
  obtain ⟨r, _, h⟩ := good_char xs ys hx hy
  exact ⟨r, h⟩
theorem markIntS_l0 (n : Nat) (hn : n ≤ 1048576) : ∀ (d i : Nat) (xs : List Int) (a : Int), i + d = n → xs.length = n → 0 ≤ a → a + (d : Int) ≤ 5000000000000000000 →
    Ev (fun k => laws_markIntS.l0 k xs a (i : Int)) (a + d, xs.take i ++ iota a d)
  | 0, i, xs, a, h, hl, h0, h1 => by
    have e : xs.take i ++ iota a 0 = xs := by rw [List.take_of_length_le (by omega), iota, List.append_nil]
    rw [e]
    refine Ev.step (f := fun _ => some (a, xs)) (fun k => ?_) ⟨0, fun _ _ => by simp⟩
    simp only [laws_markIntS.l0]
    rw [if_neg (by omega)]
  | d + 1, i, xs, a, h, hl, h0, h1 => by
    have ih := markIntS_l0 n hn d (i + 1) (xs.set i a) (a + 1) (by omega) (by simpa using hl) (by omega) (by omega)
    have e : (xs.set i a).take (i + 1) ++ iota (a + 1) d = xs.take i ++ iota a (d + 1) := by
      rw [List.take_succ_eq_append_getElem (by simp; omega), List.getElem_set_self, List.take_set, List.set_eq_of_length_le (by simp; omega), List.append_assoc]
      rfl
    rw [e, show a + 1 + (d : Int) = a + ((d + 1 : Nat) : Int) from by omega] at ih
    refine Ev.step (fun k => ?_) ih
    simp only [laws_markIntS.l0]
    rw [if_pos (by omega), if_pos (by omega), wrap_id (by omega) (by omega), wrap_id (by omega) (by omega)]
    rfl
theorem markIntS_ev (xs : List Int) (a : Int) (hn : xs.length ≤ 1048576) (h0 : 0 ≤ a) (h1 : a ≤ 4611686018427387000) : Ev (fun k => laws_markIntS.f k xs a) (a + xs.length, iota a xs.length) := by
  have h := markIntS_l0 xs.length hn xs.length 0 xs a (by omega) rfl h0 (by omega)
  simp only [List.take_zero, List.nil_append] at h
  exact h
theorem heldIntS_l0 (n : Nat) (hn : n ≤ 1048576) (a : Int) (h0 : 0 ≤ a) (h1 : a ≤ 4611686018427387000) : ∀ (d i : Nat), i + d = n →
    Ev (fun k => laws_heldIntS.l0 k (iota a n) (a + i) (i : Int)) (a + n)
  | 0, i, h => by
    obtain rfl : i = n := by omega
    refine Ev.step (f := fun _ => some (a + (i : Int))) (fun k => ?_) (Ev.now _)
    simp only [laws_heldIntS.l0, iota_length]
    rw [if_neg (by omega)]
  | d + 1, i, h => by
    refine Ev.step (fun k => ?_) (heldIntS_l0 n hn a h0 h1 d (i + 1) (by omega))
    simp only [laws_heldIntS.l0, iota_length]
    rw [if_pos (by omega), if_pos (by omega), if_pos (by rw [rd_nat, iota_getD _ _ _ (by omega)]), wrap_id (by omega) (by omega), wrap_id (by omega) (by omega), show a + (i : Int) + 1 = a + ((i + 1 : Nat) : Int) from by omega]
    rfl
theorem heldIntS_ev (n : Nat) (a : Int) (hn : n ≤ 1048576) (h0 : 0 ≤ a) (h1 : a ≤ 4611686018427387000) : Ev (fun k => laws_heldIntS.f k (iota a n) a) (a + n) := by
  have h := heldIntS_l0 n hn a h0 h1 n 0 (by omega)
  simp only [Int.ofNat_zero, Int.add_zero, Int.natCast_zero] at h
  exact h
/-! ### Texts -/
/-- A text out of its bytes. -/
def bs (l : List UInt8) : ByteArray := ⟨l.toArray⟩
theorem bs_size (l : List UInt8) : (bs l).size = l.length := by simp [bs, ByteArray.size]
theorem cat_bs (a b : List UInt8) : cat (bs a) (bs b) = bs (a ++ b) := by
  apply ByteArray.ext
  show (bs a ++ bs b).data = _
  rw [ByteArray.data_append]
  simp [bs]
theorem catOk_bs {a b : List UInt8} (h : a.length + b.length ≤ 9223372036854775807) : catOk (bs a) (bs b) = true := catOk_of (by rw [bs_size, bs_size]; exact h)
theorem bt_bs (w : List UInt8) (i : Nat) (h : i < w.length) : bt (bs w) (i : Int) = ((w[i]).toNat : Int) := by
  unfold bt
  rw [dif_pos (by rw [bs_size]; simpa using h)]
  rfl
theorem data_bs (w : List UInt8) : (bs w).data.toList = w := by simp [bs]
/-! ### Decimal digits -/
theorem u8_digit (c : UInt8) (h : 48 ≤ c.toNat ∧ c.toNat ≤ 57) : UInt8.ofNat (48 + (c.toNat - 48)) = c := by
  have : 48 + (c.toNat - 48) = c.toNat := by omega
  rw [this]
  exact UInt8.ofNat_toNat
theorem u8_48 {c : UInt8} (h : c.toNat = 48) : c = 48 := UInt8.toNat_inj.1 (by rw [h]; rfl)
theorem of_digit {d : Nat} (h : d < 10) : (UInt8.ofNat (48 + d)).toNat = 48 + d := by
  rw [UInt8.toNat_ofNat']
  omega
theorem dec_snoc (n d : Nat) (hn : 0 < n) (hd : d < 10) : Lib.decDigits (10 * n + d) = Lib.decDigits n ++ [UInt8.ofNat (48 + d)] := by
  have h1 : (10 * n + d) / 10 = n := by omega
  have h2 : (10 * n + d) % 10 = d := by omega
  rw [Lib.decDigits, dif_neg (by omega), h1, h2]
/-- The value of digits behind a value; none where one is no digit. -/
def dgo : Nat → List UInt8 → Option Nat
  | n, [] => some n
  | n, x :: r => if 48 ≤ x.toNat ∧ x.toNat ≤ 57 then dgo (10 * n + (x.toNat - 48)) r else none
theorem dgo_dec : ∀ (r : List UInt8) (n m : Nat), 0 < n → dgo n r = some m → Lib.decDigits m = Lib.decDigits n ++ r
  | [], n, m, _, h => by
    simp only [dgo, Option.some.injEq] at h
    subst h
    simp
  | x :: r, n, m, hn, h => by
    unfold dgo at h
    by_cases c : 48 ≤ x.toNat ∧ x.toNat ≤ 57
    · rw [if_pos c] at h
      rw [dgo_dec r _ m (by omega) h, dec_snoc n (x.toNat - 48) hn (by omega), u8_digit x c, List.append_assoc]
      rfl
    · rw [if_neg c] at h; cases h
theorem dgo_le : ∀ (r : List UInt8) (n m : Nat), dgo n r = some m → n ≤ m
  | [], n, m, h => by simp only [dgo, Option.some.injEq] at h; omega
  | x :: r, n, m, h => by
    unfold dgo at h
    by_cases c : 48 ≤ x.toNat ∧ x.toNat ≤ 57
    · rw [if_pos c] at h
      have := dgo_le r _ m h
      omega
    · rw [if_neg c] at h; cases h
theorem dgo_digits : ∀ (r : List UInt8) (n m : Nat), dgo n r = some m → ∀ x ∈ r, 48 ≤ x.toNat ∧ x.toNat ≤ 57
  | [], _, _, _, x, hx => by cases hx
  | y :: r, n, m, h, x, hx => by
    unfold dgo at h
    by_cases c : 48 ≤ y.toNat ∧ y.toNat ≤ 57
    · rw [if_pos c] at h
      rcases List.mem_cons.1 hx with rfl | hx
      · exact c
      · exact dgo_digits r _ m h x hx
    · rw [if_neg c] at h; cases h
theorem dgo_snoc : ∀ (l : List UInt8) (a m : Nat) (x : UInt8), dgo a l = some m → 48 ≤ x.toNat ∧ x.toNat ≤ 57 → dgo a (l ++ [x]) = some (10 * m + (x.toNat - 48))
  | [], a, m, x, h, hx => by
    simp only [dgo, Option.some.injEq] at h
    subst h
    simp only [List.nil_append, dgo]
    rw [if_pos hx]
  | y :: l, a, m, x, h, hx => by
    unfold dgo at h
    by_cases c : 48 ≤ y.toNat ∧ y.toNat ≤ 57
    · rw [if_pos c] at h
      rw [List.cons_append]
      unfold dgo
      rw [if_pos c]
      exact dgo_snoc l _ m x h hx
    · rw [if_neg c] at h; cases h
theorem dgo_of_dec (n : Nat) : dgo 0 (Lib.decDigits n) = some n := by
  induction n using Nat.strongRecOn with
  | ind n ih =>
    by_cases h : n < 10
    · rw [Lib.decDigits_one h]
      simp only [dgo]
      rw [of_digit h, if_pos (by omega)]
      congr 1
      omega
    · have hd : Lib.decDigits n = Lib.decDigits (n / 10) ++ [UInt8.ofNat (48 + n % 10)] := by rw [Lib.decDigits, dif_neg h]
      have hm : n % 10 < 10 := by omega
      rw [hd, dgo_snoc _ 0 (n / 10) _ (ih (n / 10) (by omega)) (by rw [of_digit hm]; omega), of_digit hm]
      congr 1
      omega
theorem dec_ne (n : Nat) : Lib.decDigits n ≠ [] := by
  rw [Lib.decDigits]
  split <;> simp
theorem dec_head (n : Nat) (h0 : 0 < n) : (Lib.decDigits n).head? ≠ some 48 := by
  induction n using Nat.strongRecOn with
  | ind n ih =>
    by_cases h : n < 10
    · rw [Lib.decDigits_one h]
      intro q
      simp only [List.head?_cons, Option.some.injEq] at q
      have := of_digit h
      rw [q] at this
      have e : (48 : UInt8).toNat = 48 := rfl
      omega
    · have hd : Lib.decDigits n = Lib.decDigits (n / 10) ++ [UInt8.ofNat (48 + n % 10)] := by rw [Lib.decDigits, dif_neg h]
      have ih' := ih (n / 10) (by omega) (by omega)
      rw [hd]
      cases hq : Lib.decDigits (n / 10) with
      | nil => exact absurd hq (dec_ne _)
      | cons y ys => rw [hq] at ih'; simpa using ih'
theorem dec_len3 {n : Nat} (h : n ≤ 999) : (Lib.decDigits n).length ≤ 3 := by
  by_cases h1 : n < 10
  · rw [Lib.decDigits_one h1]; simp
  · by_cases h2 : n < 100
    · rw [Lib.decDigits_two h1 h2]; simp
    · rw [Lib.decDigits, dif_neg h1]
      have h3 : n / 10 < 100 := by omega
      have h4 : ¬ n / 10 < 10 := by omega
      rw [Lib.decDigits_two h4 h3]
      simp
/-- A number in its one form. -/
def oneForm (w : List UInt8) : Option Nat := if w = [] ∨ 16 < w.length ∨ (w.head? = some 48 ∧ 1 < w.length) then none else dgo 0 w
theorem oneForm_dec {w : List UInt8} {m : Nat} (h : oneForm w = some m) : w = Lib.decDigits m := by
  unfold oneForm at h
  split at h
  · cases h
  · rename_i hc
    cases w with
    | nil => exact absurd (Or.inl rfl) hc
    | cons x r =>
      unfold dgo at h
      by_cases c : 48 ≤ x.toNat ∧ x.toNat ≤ 57
      · rw [if_pos c] at h
        by_cases z : x.toNat = 48
        · have hx := u8_48 z
          have hr : r = [] := by
            have : ¬ 1 < (x :: r).length := fun q => hc (Or.inr (Or.inr ⟨by rw [hx]; rfl, q⟩))
            simp only [List.length_cons] at this
            exact List.length_eq_zero_iff.mp (by omega)
          subst hr
          rw [z] at h
          simp only [dgo, Option.some.injEq] at h
          have : m = 0 := by omega
          subst this
          rw [Lib.decDigits_one (by omega), hx]
          rfl
        · have := dgo_dec r _ m (by omega) h
          rw [this, show 10 * 0 + (x.toNat - 48) = x.toNat - 48 by omega, Lib.decDigits_one (by omega), u8_digit x c]
          rfl
      · rw [if_neg c] at h; cases h
theorem oneForm_of {n : Nat} (h : n ≤ 999) : oneForm (Lib.decDigits n) = some n := by
  unfold oneForm
  have hl := dec_len3 h
  rw [if_neg, dgo_of_dec]
  rintro (q | q | ⟨q1, q2⟩)
  · exact dec_ne n q
  · omega
  · by_cases h0 : 0 < n
    · exact dec_head n h0 q1
    · obtain rfl : n = 0 := by omega
      rw [Lib.decDigits_one (by omega)] at q2
      simp at q2
theorem pow_bound {i n : Nat} (hi : i < 16) (h : n < 10 ^ i) : n < 1000000000000000 := by
  have : (10 : Nat) ^ i ≤ 10 ^ 15 := Nat.pow_le_pow_right (by omega) (by omega)
  have e : (10 : Nat) ^ 15 = 1000000000000000 := by decide
  omega
theorem digits_loop (w : List UInt8) (hw : w.length ≤ 16) : ∀ (d i n : Nat), i + d = w.length → n < 10 ^ i → Ev (fun k => spec_l1Digits.l0 k (bs w) (n : Int) (i : Int)) ((dgo n (w.drop i)).elim (-1) (fun m => (m : Int)))
  | 0, i, n, h, _ => by
    rw [List.drop_eq_nil_of_le (by omega)]
    refine Ev.step (f := fun _ => some (n : Int)) (fun k => ?_) (Ev.now _)
    simp only [spec_l1Digits.l0]
    rw [if_neg (by rw [bs_size]; omega)]
  | d + 1, i, n, h, hn => by
    have hi : i < w.length := by omega
    have hb := pow_bound (by omega) hn
    rw [List.drop_eq_getElem_cons hi]
    have hbt := bt_bs w i hi
    unfold dgo
    by_cases c : 48 ≤ (w[i]).toNat ∧ (w[i]).toNat ≤ 57
    · rw [if_pos c]
      refine Ev.step (fun k => ?_) (digits_loop w hw d (i + 1) (10 * n + ((w[i]).toNat - 48)) (by omega) (by rw [Nat.pow_succ]; omega))
      simp only [spec_l1Digits.l0]
      have e : wrap64 ((wrap64 (10 * (n : Int))) + (((((w[i]).toNat : Int)) - 48) % 256)) = ((10 * n + ((w[i]).toNat - 48) : Nat) : Int) := by
        rw [wrap_id (n := 10 * (n : Int)) (by omega) (by omega)]
        rw [wrap_id] <;> omega
      rw [if_pos (by rw [bs_size]; omega), if_pos (by omega), hbt, if_neg (by omega), if_neg (by omega), e, wrap_id (n := (i : Int) + 1) (by omega) (by omega)]
      rfl
    · rw [if_neg c]
      refine Ev.step (f := fun _ => some (-1)) (fun k => ?_) (Ev.now _)
      simp only [spec_l1Digits.l0]
      rw [if_pos (by rw [bs_size]; omega), if_pos (by omega), hbt]
      by_cases c1 : ((w[i]).toNat : Int) < 48
      · rw [if_pos c1]
      · rw [if_neg c1, if_pos (by omega)]
theorem digits_ev (w : List UInt8) : Ev (fun k => spec_l1Digits.f k (bs w)) ((oneForm w).elim (-1) (fun m => (m : Int))) := by
  have hT : Ev (fun k => spec_l1Digits.j0 k (bs w) true) (-1) := Ev.step (f := fun _ => some (-1)) (fun k => by simp only [spec_l1Digits.j0]; rw [if_pos trivial]) (Ev.now _)
  simp only [spec_l1Digits.f, bs_size]
  unfold oneForm
  by_cases h0 : w.length = 0
  · have : w = [] := List.length_eq_zero_iff.mp h0
    rw [if_pos (Or.inl this)]
    exact Ev.ite_pos (by omega) hT
  · refine Ev.ite_neg (by omega) ?_
    by_cases h1 : 16 < w.length
    · rw [if_pos (Or.inr (Or.inl h1))]
      exact Ev.ite_pos (by omega) hT
    · refine Ev.ite_neg (by omega) (Ev.ite_pos (by omega) ?_)
      have hl := digits_loop w (by omega) w.length 0 0 (by omega) (by simp)
      rw [List.drop_zero] at hl
      have hF : Ev (fun k => spec_l1Digits.j0 k (bs w) false) ((dgo 0 w).elim (-1) (fun m => (m : Int))) := Ev.step (fun k => by simp only [spec_l1Digits.j0]; rw [if_neg (by simp)]; rfl) hl
      have hne : w ≠ [] := fun q => h0 (by rw [q]; rfl)
      cases w with
      | nil => exact absurd rfl hne
      | cons x r =>
        have hb := bt_bs (x :: r) 0 (by simp)
        have hb' : bt (bs (x :: r)) 0 = (x.toNat : Int) := hb
        by_cases hx : x.toNat = 48
        · refine Ev.ite_pos (by rw [hb', hx]; rfl) ?_
          by_cases h2 : 1 < (x :: r).length
          · rw [if_pos (Or.inr (Or.inr ⟨by rw [u8_48 hx]; rfl, h2⟩)), decide_eq_true (by omega)]
            exact hT
          · rw [if_neg, decide_eq_false (by omega)]
            · exact hF
            · rintro (q | q | ⟨_, q⟩)
              · exact hne q
              · omega
              · omega
        · refine Ev.ite_neg (by rw [hb']; omega) ?_
          rw [if_neg]
          · exact hF
          · rintro (q | q | ⟨q, _⟩)
            · exact hne q
            · omega
            · simp only [List.head?_cons, Option.some.injEq] at q
              rw [q] at hx
              exact hx rfl
theorem parse_of_dgo : ∀ (l : List UInt8) (a m : Nat), dgo a l = some m → m ≤ 999 → Lib.parseUint10 a l = .ok m
  | [], a, m, h, _ => by
    simp only [dgo, Option.some.injEq] at h
    subst h
    rfl
  | x :: r, a, m, h, hm => by
    have hle := dgo_le _ _ _ h
    unfold dgo at h
    by_cases c : 48 ≤ x.toNat ∧ x.toNat ≤ 57
    · rw [if_pos c] at h
      have hle2 := dgo_le _ _ _ h
      unfold Lib.parseUint10
      rw [if_pos c, if_neg (by omega), if_neg (by omega), Nat.mul_comm a 10]
      exact parse_of_dgo r _ m h hm
    · rw [if_neg c] at h; cases h
theorem atoi_dec {n : Nat} (h : n ≤ 999) : Go.Proofs.YthdpiceiemkjlaaDoor.MRead.atoiN (Lib.decDigits n) = ((n : Int), true) := by
  have hp := parse_of_dgo _ 0 n (dgo_of_dec n) h
  have hd := dgo_digits _ 0 n (dgo_of_dec n)
  have hne := dec_ne n
  unfold Go.Proofs.YthdpiceiemkjlaaDoor.MRead.atoiN
  have e : Lib.atoiAll (Lib.decDigits n) = .ok (n : Int) := by
    generalize hw : Lib.decDigits n = w at hp hd hne
    cases w with
    | nil => exact absurd rfl hne
    | cons x r =>
      have hx := hd x List.mem_cons_self
      have hpm : Lib.parseMag (x :: r) = .ok n := by unfold Lib.parseMag; rw [if_neg (by simp)]; exact hp
      unfold Lib.atoiAll
      simp only
      rw [if_neg (by omega), hpm]
      simp only
      rw [if_neg (by omega), if_neg (by omega), if_neg (by omega)]
  rw [e]
theorem read_ok {n : Nat} (h : n ≤ 999) : Go.Proofs.YthdpiceiemkjlaaDoor.MRead.readN (bs (Lib.decDigits n)) 999 = ((n : Int), true) := by
  unfold Go.Proofs.YthdpiceiemkjlaaDoor.MRead.readN
  rw [data_bs, atoi_dec h]
  simp only [Lib.itoa_nonneg, decide_true, Bool.and_self, Bool.true_and]
  rw [decide_eq_true (by omega)]
theorem read_bad {w : List UInt8} (h : ∀ n, n ≤ 999 → w ≠ Lib.decDigits n) : (Go.Proofs.YthdpiceiemkjlaaDoor.MRead.readN (bs w) 999).2 = false := by
  unfold Go.Proofs.YthdpiceiemkjlaaDoor.MRead.readN
  rw [data_bs]
  generalize Go.Proofs.YthdpiceiemkjlaaDoor.MRead.atoiN w = q
  cases hb : (q.2 && decide (Lib.itoa q.1 = w) && decide (0 ≤ q.1 ∧ q.1 ≤ 999)) with
  | false => rfl
  | true =>
    simp only [Bool.and_eq_true, decide_eq_true_eq] at hb
    obtain ⟨⟨_, h1⟩, h2⟩ := hb
    exfalso
    apply h q.1.toNat (by omega)
    have e : q.1 = ((q.1.toNat : Nat) : Int) := by omega
    have e2 : Lib.itoa q.1 = Lib.decDigits q.1.toNat := by
      conv => lhs; rw [e]
      rw [Lib.itoa_nonneg]
    rw [← h1, e2]
theorem cut_bs (l : List UInt8) (i j : Nat) : cutS (bs l) i j = bs ((l.take j).drop i) := by
  apply ByteArray.ext
  unfold cutS
  rw [ByteArray.data_extract]
  apply Array.toList_inj.1
  rw [Array.toList_extract]
  simp [bs, List.extract_eq_take_drop, List.drop_take]
/-! what the library's index says of one byte -/
theorem occ_iff (l : List UInt8) (b : UInt8) (i : Nat) : Lib.occAt l [b] i = true ↔ l[i]? = some b := by
  constructor
  · exact fun h => Lib.occAt_head rfl h
  · intro h
    have hi : i < l.length := (List.getElem?_eq_some_iff.1 h).1
    have e : l[i] = b := (List.getElem?_eq_some_iff.1 h).2
    unfold Lib.occAt
    rw [List.drop_eq_getElem_cons hi, e]
    simp [List.isPrefixOf]
theorem index_byte (l : List UInt8) (b : UInt8) : (Lib.index l [b] = -1 ∧ b ∉ l) ∨ ∃ a r, l = a ++ b :: r ∧ b ∉ a ∧ Lib.index l [b] = (a.length : Int) := by
  rcases Lib.index_spec l [b] with ⟨h1, h2⟩ | ⟨i, h1, h2, h3, h4⟩
  · refine Or.inl ⟨h1, fun hm => ?_⟩
    obtain ⟨j, hj, e⟩ := List.getElem_of_mem hm
    have := (occ_iff l b j).2 (by rw [List.getElem?_eq_getElem hj, e])
    rw [h2 j (by omega)] at this
    cases this
  · have hib := (occ_iff l b i).1 h3
    have hi : i < l.length := (List.getElem?_eq_some_iff.1 hib).1
    have e : l[i] = b := (List.getElem?_eq_some_iff.1 hib).2
    refine Or.inr ⟨l.take i, l.drop (i + 1), ?_, fun hm => ?_, by rw [h1, List.length_take]; omega⟩
    · rw [← e, ← List.drop_eq_getElem_cons hi, List.take_append_drop]
    · obtain ⟨j, hj, ej⟩ := List.mem_take_iff_getElem.1 hm
      have := (occ_iff l b j).2 (by rw [List.getElem?_eq_getElem (by omega), ej])
      have h5 := h4 j (by omega)
      rw [h5] at this
      cases this
/-! ### Parts at a byte -/
/-- The parts that a text falls into at a byte; p stands ahead of the first. -/
def gl (b : UInt8) : List UInt8 → List UInt8 → List (List UInt8)
  | p, [] => [p]
  | p, x :: r => if x = b then p :: gl b [] r else gl b (p ++ [x]) r
theorem gl_miss (b : UInt8) : ∀ (l p : List UInt8), b ∉ l → gl b p l = [p ++ l]
  | [], p, _ => by simp [gl]
  | x :: r, p, h => by
    have h1 : x ≠ b := fun e => h (e ▸ List.mem_cons_self)
    unfold gl
    rw [if_neg h1, gl_miss b r _ (fun q => h (List.mem_cons_of_mem _ q)), List.append_assoc]
    rfl
theorem gl_hit (b : UInt8) : ∀ (a p r : List UInt8), b ∉ a → gl b p (a ++ b :: r) = (p ++ a) :: gl b [] r
  | [], p, r, _ => by simp [gl]
  | x :: a, p, r, h => by
    have h1 : x ≠ b := fun e => h (e ▸ List.mem_cons_self)
    rw [List.cons_append]
    conv => lhs; unfold gl
    rw [if_neg h1, gl_hit b a _ r (fun q => h (List.mem_cons_of_mem _ q)), List.append_assoc]
    rfl
theorem gl_pos (b : UInt8) : ∀ (l p : List UInt8), 0 < (gl b p l).length
  | [], p => by simp [gl]
  | x :: r, p => by
    unfold gl
    split
    · simp
    · exact gl_pos b r _
theorem gl_lens (b : UInt8) : ∀ (l p : List UInt8), Lib.lens (gl b p l) + (gl b p l).length = p.length + l.length + 1
  | [], p => by simp [gl, Lib.lens]
  | x :: r, p => by
    unfold gl
    split
    · have := gl_lens b r []
      simp only [Lib.lens, List.map_cons, List.sum_cons, List.length_cons, List.length_nil] at this ⊢
      omega
    · have := gl_lens b r (p ++ [x])
      simp only [List.length_append, List.length_cons, List.length_nil] at this ⊢
      omega
theorem gl_mem (b : UInt8) : ∀ (l p : List UInt8) (x : UInt8), (x ∈ p ∨ x ∈ l) → x ≠ b → ∃ q ∈ gl b p l, x ∈ q
  | [], p, x, h, hx => ⟨p, by simp [gl], by simpa using h⟩
  | y :: r, p, x, h, hx => by
    unfold gl
    split
    · rename_i e
      rcases h with h | h
      · exact ⟨p, List.mem_cons_self, h⟩
      · rcases List.mem_cons.1 h with rfl | h
        · exact absurd e hx
        · obtain ⟨q, h1, h2⟩ := gl_mem b r [] x (Or.inr h) hx
          exact ⟨q, List.mem_cons_of_mem _ h1, h2⟩
    · refine gl_mem b r (p ++ [y]) x ?_ hx
      rcases h with h | h
      · exact Or.inl (List.mem_append_left _ h)
      · rcases List.mem_cons.1 h with rfl | h
        · exact Or.inl (by simp)
        · exact Or.inr h
theorem gl_le (b : UInt8) (l p : List UInt8) : (gl b p l).length ≤ p.length + l.length + 1 := by have := gl_lens b l p; omega
theorem spec_split (b : UInt8) (l : List UInt8) (hl : l.length ≤ 1048576) : ∀ (d i from_ : Nat) (acc : List ByteArray), i + d = l.length → from_ ≤ i → acc.length ≤ i →
    Ev (fun k => spec_l1Split.l0 k (bs l) (b.toNat : Int) acc (from_ : Int) (i : Int)) (acc ++ (gl b ((l.take i).drop from_) (l.drop i)).map bs)
  | 0, i, from_, acc, h, hf, ha => by
    rw [List.drop_eq_nil_of_le (show l.length ≤ i by omega)]
    refine Ev.step (f := fun _ => some (acc ++ (gl b ((l.take i).drop from_) []).map bs)) (fun k => ?_) (Ev.now _)
    simp only [spec_l1Split.l0, bs_size]
    have e : l.take i = l.take l.length := by rw [List.take_of_length_le (by omega), List.take_of_length_le (by omega)]
    rw [if_neg (by omega), if_pos (by omega), if_pos (by omega), if_pos (by omega), Int.toNat_natCast, cut_bs, e]
    rfl
  | d + 1, i, from_, acc, h, hf, ha => by
    have hi : i < l.length := by omega
    have hbt := bt_bs l i hi
    rw [List.drop_eq_getElem_cons hi]
    unfold gl
    by_cases c : l[i] = b
    · rw [if_pos c]
      have ih := spec_split b l hl d (i + 1) (i + 1) (acc ++ [bs ((l.take i).drop from_)]) (by omega) (by omega) (by simp; omega)
      have e0 : (l.take (i + 1)).drop (i + 1) = [] := List.drop_eq_nil_of_le (by simp; omega)
      rw [e0, List.append_assoc] at ih
      refine Ev.step (fun k => ?_) ih
      simp only [spec_l1Split.l0, bs_size]
      rw [if_pos (by omega), if_pos (by omega), hbt, if_pos (by rw [c]), if_pos (by omega), if_pos (by omega), if_pos (by omega), if_pos (by omega), wrap_id (n := (i : Int) + 1) (by omega) (by omega), Int.toNat_natCast, Int.toNat_natCast, cut_bs]
      rfl
    · rw [if_neg c]
      have ih := spec_split b l hl d (i + 1) from_ acc (by omega) (by omega) (by omega)
      have e : (l.take (i + 1)).drop from_ = (l.take i).drop from_ ++ [l[i]] := by
        have e1 : l.take (i + 1) = l.take i ++ [l[i]] := by rw [List.take_add_one, List.getElem?_eq_getElem hi]; rfl
        rw [e1, List.drop_append_of_le_length (by simp; omega)]
      rw [e] at ih
      refine Ev.step (fun k => ?_) ih
      simp only [spec_l1Split.l0, bs_size]
      rw [if_pos (by omega), if_pos (by omega), hbt, if_neg (fun q => c (UInt8.toNat_inj.1 (by omega))), wrap_id (n := (i : Int) + 1) (by omega) (by omega)]
      rfl
theorem split_ev (b : UInt8) (n : Int) (hn : n = (b.toNat : Int)) (l : List UInt8) (hl : l.length ≤ 1048576) : Ev (fun k => spec_l1Split.f k (bs l) n) ((gl b [] l).map bs) := by
  subst hn
  have h := spec_split b l hl l.length 0 0 [] (by omega) (by omega) (by simp)
  simpa [spec_l1Split.f] using h
theorem splitK_gl (b : UInt8) : ∀ (n : Nat) (l : List UInt8), l.length ≤ n → Lib.splitK [b] 0 (Lib.count l [b]) l = gl b [] l ∧ (gl b [] l).length = Lib.count l [b] + 1 := by
  intro n
  induction n with
  | zero =>
    intro l hl
    have : l = [] := List.length_eq_zero_iff.mp (by omega)
    subst this
    have : Lib.count [] [b] = 0 := Lib.count_miss (by rfl)
    rw [this]
    simp [Lib.splitK, gl]
  | succ n ih =>
    intro l hl
    rcases index_byte l b with ⟨h1, h2⟩ | ⟨a, r, rfl, h2, h3⟩
    · rw [Lib.count_miss h1, gl_miss b l [] h2]
      simp [Lib.splitK]
    · have hd : (a ++ b :: r).drop (a.length + [b].length) = r := by simp
      have hc := Lib.count_hit (sub := [b]) (by simp) h3
      rw [hd] at hc
      rw [hc, gl_hit b a [] r h2, Nat.add_comm 1]
      obtain ⟨i1, i2⟩ := ih r (by simp at hl; omega)
      unfold Lib.splitK
      have hne : ¬ (Lib.index (a ++ b :: r) [b] == -1) = true := fun e => by have := beq_iff_eq.1 e; omega
      have ht : (Lib.index (a ++ b :: r) [b]).toNat = a.length := by rw [h3]; rfl
      rw [if_neg hne, ht, hd, i1]
      refine ⟨by simp, by simp only [List.length_cons]; omega⟩
theorem splitL_bs (b : UInt8) (l : List UInt8) : Go.Proofs.YthdpiceiemkjlaaDoor.MRead.splitL (bs l) (bs [b]) = (gl b [] l).map bs ∧ (gl b [] l).length = Lib.countB (bs l) (bs [b]) + 1 := by
  obtain ⟨h1, h2⟩ := splitK_gl b l.length l (Nat.le_refl _)
  have hd := Lib.splitB_data (bs [b]) 0 (Lib.countB (bs l) (bs [b])) (bs l)
  have e1 : (bs [b]).data.toList = [b] := by simp [bs]
  have e2 : (bs l).data.toList = l := by simp [bs]
  have hcb : Lib.countB (bs l) (bs [b]) = Lib.count l [b] := by unfold Lib.countB; rw [e1, e2]
  rw [e1, e2, hcb, h1] at hd
  refine ⟨?_, by rw [hcb]; exact h2⟩
  unfold Go.Proofs.YthdpiceiemkjlaaDoor.MRead.splitL
  rw [hcb]
  rw [← hd, List.map_map]
  conv => lhs; rw [← List.map_id (Lib.splitB (bs [b]) 0 (Lib.count l [b]) (bs l))]
  apply List.map_congr_left
  intro x _
  apply ByteArray.ext
  simp [bs]
theorem split_now (b : UInt8) (l : List UInt8) (hl : l.length ≤ 1048576) : strings_Split.f (bs l) (bs [b]) = some ((gl b [] l).map bs) := by
  obtain ⟨h1, h2⟩ := splitL_bs b l
  have h3 := gl_le b l []
  unfold strings_Split.f
  rw [if_pos (by rw [bs_size]; omega), if_pos (by rw [bs_size]; simp), h1, if_pos (by rw [List.length_map]; exact h2), if_pos (by simp only [List.length_nil] at h3; omega)]
/-- The numbers that parts tell, where each is one. -/
def nums : List (List UInt8) → Option (List Int)
  | [] => some []
  | w :: r => match oneForm w with
    | some n => if n ≤ 999 then (nums r).map (fun t => (n : Int) :: t) else none
    | none => none
def res (acc : List Int) (o : Option (List Int)) : List Int × Bool := o.elim ([], false) (fun t => (acc ++ t, true))
theorem rdOf_bs (ws : List (List UInt8)) (i : Nat) (h : i < ws.length) : rdOf ByteArray.empty (ws.map bs) (i : Int) = bs ws[i] := by simp [rdOf, h]
theorem spec_nums (ws : List (List UInt8)) (hl : ws.length ≤ 2000000) : ∀ (d i : Nat) (acc : List Int), i + d = ws.length → acc.length ≤ i →
    Ev (fun k => spec_l5List.l0 k acc (ws.map bs) (ws.length : Int) (i : Int)) (res acc (nums (ws.drop i)))
  | 0, i, acc, h, ha => by
    rw [List.drop_eq_nil_of_le (by omega)]
    refine Ev.step (f := fun _ => some (acc, true)) (fun k => ?_) (by simpa [nums, res] using Ev.now (acc, true))
    simp only [spec_l5List.l0]
    rw [if_neg (by omega)]
  | d + 1, i, acc, h, ha => by
    have hi : i < ws.length := by omega
    rw [List.drop_eq_getElem_cons hi]
    have hd := digits_ev ws[i]
    have hst : ∀ k, spec_l5List.l0 (k + 1) acc (ws.map bs) (ws.length : Int) (i : Int) = (spec_l1Digits.f k (bs ws[i])).bind fun t => if decide (0 ≤ t ∧ t ≤ 999) = true then spec_l5List.l0 k (acc ++ [t]) (ws.map bs) (ws.length : Int) ((i + 1 : Nat) : Int) else some ([], false) := by
      intro k
      simp only [spec_l5List.l0, l1In_dec, Option.bind_some]
      rw [if_pos (by omega), if_pos (by omega), if_pos (by rw [List.length_map]; omega), rdOf_bs ws i hi, wrap_id (n := (i : Int) + 1) (by omega) (by omega)]
      congr 1
      funext t
      by_cases c : decide (0 ≤ t ∧ t ≤ 999) = true
      · rw [if_pos c, if_pos c, if_pos (by omega)]; rfl
      · rw [if_neg c, if_neg c]
    unfold nums
    cases hq : oneForm ws[i] with
    | none =>
      rw [hq] at hd
      exact Ev.step hst (Ev.bind hd (Ev.ite_neg (by simp) (Ev.now _)))
    | some n =>
      rw [hq] at hd
      by_cases c : n ≤ 999
      · simp only [if_pos c]
        have ih := spec_nums ws hl d (i + 1) (acc ++ [(n : Int)]) (by omega) (by simp; omega)
        have e : res (acc ++ [(n : Int)]) (nums (ws.drop (i + 1))) = res acc ((nums (ws.drop (i + 1))).map (fun t => (n : Int) :: t)) := by
          cases nums (ws.drop (i + 1)) with
          | none => rfl
          | some t => simp [res]
        rw [e] at ih
        exact Ev.step hst (Ev.bind hd (Ev.ite_pos (decide_eq_true (by simp only [Option.elim]; omega)) ih))
      · simp only [if_neg c]
        exact Ev.step hst (Ev.bind hd (Ev.ite_neg (by rw [decide_eq_true_eq]; show ¬ ((0 : Int) ≤ (n : Int) ∧ (n : Int) ≤ 999); omega) (Ev.now _)))
theorem impl_nums (ws : List (List UInt8)) (hl : ws.length ≤ 2000000) (hs : ∀ w ∈ ws, w.length ≤ 2000000) : ∀ (d i : Nat) (acc : List Int), i + d = ws.length → acc.length ≤ i →
    Ev (fun k => impl_readNumbers.l0 k acc (ws.map bs) (ws.length : Int) (i : Int)) (res acc (nums (ws.drop i)))
  | 0, i, acc, h, ha => by
    rw [List.drop_eq_nil_of_le (by omega)]
    refine Ev.step (f := fun _ => some (acc, true)) (fun k => ?_) (by simpa [nums, res] using Ev.now (acc, true))
    simp only [impl_readNumbers.l0]
    rw [if_neg (by omega)]
  | d + 1, i, acc, h, ha => by
    have hi : i < ws.length := by omega
    rw [List.drop_eq_getElem_cons hi]
    have hst : ∀ k, impl_readNumbers.l0 (k + 1) acc (ws.map bs) (ws.length : Int) (i : Int) = if (Go.Proofs.YthdpiceiemkjlaaDoor.MRead.readN (bs ws[i]) 999).2 = true then impl_readNumbers.l0 k (acc ++ [(Go.Proofs.YthdpiceiemkjlaaDoor.MRead.readN (bs ws[i]) 999).1]) (ws.map bs) (ws.length : Int) ((i + 1 : Nat) : Int) else some ([], false) := by
      intro k
      simp only [impl_readNumbers.l0, impl_readNumber.f]
      have hwl := hs _ (List.getElem_mem hi)
      rw [if_pos (by omega), if_pos (by omega), if_pos (by rw [List.length_map]; omega), rdOf_bs ws i hi, if_pos (by rw [bs_size]; omega), Option.bind_some, wrap_id (n := (i : Int) + 1) (by omega) (by omega)]
      by_cases c : (Go.Proofs.YthdpiceiemkjlaaDoor.MRead.readN (bs ws[i]) 999).2 = true
      · rw [if_pos c, if_pos c, if_pos (by omega)]; rfl
      · rw [if_neg c, if_neg c]
    unfold nums
    have bad : (∀ n, n ≤ 999 → ws[i] ≠ Lib.decDigits n) → Ev (fun k => impl_readNumbers.l0 k acc (ws.map bs) (ws.length : Int) (i : Int)) ([], false) := fun hb => Ev.step hst (Ev.ite_neg (by rw [read_bad hb]; simp) (Ev.now _))
    cases hq : oneForm ws[i] with
    | none =>
      refine bad (fun n hn e => ?_)
      rw [e, oneForm_of hn] at hq
      cases hq
    | some n =>
      by_cases c : n ≤ 999
      · simp only [if_pos c]
        have ih := impl_nums ws hl hs d (i + 1) (acc ++ [(n : Int)]) (by omega) (by simp; omega)
        have e : res (acc ++ [(n : Int)]) (nums (ws.drop (i + 1))) = res acc ((nums (ws.drop (i + 1))).map (fun t => (n : Int) :: t)) := by
          cases nums (ws.drop (i + 1)) with
          | none => rfl
          | some t => simp [res]
        rw [e] at ih
        have hr := read_ok c
        rw [← oneForm_dec hq] at hr
        refine Ev.step hst (Ev.ite_pos (by rw [hr]) ?_)
        rw [hr]
        exact ih
      · simp only [if_neg c]
        refine bad (fun m hm e => ?_)
        rw [e, oneForm_of hm] at hq
        injection hq with hq
        omega
/-- The numbers that a text tells. -/
def listN (l : List UInt8) : List Int × Bool := if l = [] then ([], true) else res [] (nums (gl 44 [] l))
theorem bs_nil (l : List UInt8) : (bs l).toList = ([] : List UInt8) ↔ l = [] := by rw [ByteArray.toList_eq]; simp [bs]
theorem spec_listN (l : List UInt8) (hl : l.length ≤ 1048576) : Ev (fun k => spec_l5List.f k (bs l)) (listN l) := by
  simp only [spec_l5List.f, bs_nil]
  unfold listN
  by_cases h : l = []
  · rw [if_pos h]; exact Ev.ite_pos h (Ev.now _)
  · rw [if_neg h]
    have h3 := gl_le 44 l []
    simp only [List.length_nil] at h3
    have hn := spec_nums (gl 44 [] l) (by omega) (gl 44 [] l).length 0 [] (by omega) (by simp)
    rw [List.drop_zero] at hn
    refine Ev.ite_neg h (Ev.bind (split_ev 44 44 rfl l hl) ?_)
    rw [List.length_map]
    exact hn
theorem piece_le (b : UInt8) (l : List UInt8) (hl : l.length ≤ 1048576) : ∀ w ∈ gl b [] l, w.length ≤ 2000000 := by
  intro w hw
  have h := gl_lens b l []
  have : w.length ≤ Lib.lens (gl b [] l) := by
    generalize gl b [] l = ws at hw
    induction ws with
    | nil => cases hw
    | cons y r ih =>
      simp only [Lib.lens, List.map_cons, List.sum_cons]
      rcases List.mem_cons.1 hw with rfl | hw
      · omega
      · have := ih hw
        simp only [Lib.lens] at this
        omega
  simp only [List.length_nil] at h
  omega
theorem impl_listN (l : List UInt8) (hl : l.length ≤ 1048576) : Ev (fun k => impl_readNumbers.f k (bs l)) (listN l) := by
  simp only [impl_readNumbers.f, bs_nil, Option.bind_some]
  unfold listN
  by_cases h : l = []
  · rw [if_pos h]; exact Ev.ite_pos h (Ev.now _)
  · rw [if_neg h]
    have h3 := gl_le 44 l []
    simp only [List.length_nil] at h3
    have hn := impl_nums (gl 44 [] l) (by omega) (piece_le 44 l hl) (gl 44 [] l).length 0 [] (by omega) (by simp)
    rw [List.drop_zero] at hn
    have e : (⟨#[44]⟩ : ByteArray) = bs [44] := rfl
    refine Ev.ite_neg h ?_
    rw [e]
    refine Ev.congr (fun k => by rw [split_now 44 l hl, Option.bind_some, List.length_map]; rfl) hn
theorem nums_len : ∀ (ws : List (List UInt8)) (xs : List Int), nums ws = some xs → xs.length = ws.length ∧ Lib.lens ws ≤ 3 * ws.length ∧ ∀ w ∈ ws, ∀ x ∈ w, 48 ≤ x.toNat ∧ x.toNat ≤ 57
  | [], xs, h => by
    simp only [nums, Option.some.injEq] at h
    subst h
    exact ⟨rfl, by simp [Lib.lens], fun w hw => by cases hw⟩
  | w :: r, xs, h => by
    unfold nums at h
    cases hq : oneForm w with
    | none => rw [hq] at h; cases h
    | some n =>
      rw [hq] at h
      by_cases c : n ≤ 999
      · simp only [if_pos c] at h
        cases hr : nums r with
        | none => rw [hr] at h; cases h
        | some t =>
          rw [hr] at h
          simp only [Option.map_some, Option.some.injEq] at h
          subst h
          obtain ⟨h1, h2, h3⟩ := nums_len r t hr
          have hw := oneForm_dec hq
          have hl := dec_len3 c
          rw [← hw] at hl
          refine ⟨by simp [h1], by simp only [Lib.lens, List.map_cons, List.sum_cons, List.length_cons] at h2 ⊢; omega, fun v hv => ?_⟩
          rcases List.mem_cons.1 hv with rfl | hv
          · have := dgo_digits _ 0 n (dgo_of_dec n)
            rw [← hw] at this
            exact this
          · exact h3 v hv
      · simp only [if_neg c] at h; cases h
/-- Where numbers are told, the text is short, and has nothing but digits and commas. -/
theorem listN_ok {l : List UInt8} (h : (listN l).2 = true) : l.length ≤ 4 * (listN l).1.length ∧ ∀ x ∈ l, x ≠ 44 → 48 ≤ x.toNat ∧ x.toNat ≤ 57 := by
  unfold listN at h ⊢
  by_cases c : l = []
  · subst c
    exact ⟨by simp, fun x hx => by cases hx⟩
  · rw [if_neg c] at h ⊢
    cases hq : nums (gl 44 [] l) with
    | none => rw [hq] at h; cases h
    | some xs =>
      obtain ⟨h1, h2, h3⟩ := nums_len _ _ hq
      have hg := gl_lens 44 l []
      simp only [List.length_nil] at hg
      refine ⟨?_, fun x hx hne => ?_⟩
      · simp only [res, Option.elim, List.nil_append]
        omega
      · obtain ⟨q, hq1, hq2⟩ := gl_mem 44 l [] x (Or.inr hx) hne
        exact h3 q hq1 x hq2
theorem listN_len (l : List UInt8) (hl : l.length ≤ 1048576) : (listN l).1.length ≤ 1048577 := by
  unfold listN
  split
  · simp
  · have h3 := gl_le 44 l []
    simp only [List.length_nil] at h3
    cases hq : nums (gl 44 [] l) with
    | none => simp [res]
    | some xs =>
      have := (nums_len _ _ hq).1
      simp only [res, Option.elim, List.nil_append]
      omega
theorem listN_len' (l : List UInt8) (hl : l.length < 1048576) : (listN l).1.length ≤ 1048576 := by
  unfold listN
  split
  · simp
  · have h3 := gl_le 44 l []
    simp only [List.length_nil] at h3
    cases hq : nums (gl 44 [] l) with
    | none => simp [res]
    | some xs =>
      have := (nums_len _ _ hq).1
      simp only [res, Option.elim, List.nil_append]
      omega
/-- What both give. -/
def outR (a b : List Int × Bool) (g : Bool) : List Int × List Int × Bool := if a.2 = true then (if b.2 = true then (if g = true then (a.1, b.1, true) else ([], [], false)) else ([], [], false)) else ([], [], false)
theorem read_same (l : List UInt8) (hl : l.length ≤ 1048576) : ∃ r : List Int × List Int × Bool, r.1.length ≤ 5 ∧ r.2.1.length ≤ 4 ∧ Ev (fun k => spec_ReadPct.f k (bs l)) r ∧ Ev (fun k => impl_ReadPct.f k (bs l)) r := by
  have e47 : (⟨#[47]⟩ : ByteArray) = bs [47] := rfl
  have hcut : strings_Cut.f (bs l) (bs [47]) = some (bs (Lib.cut l [47]).1, bs (Lib.cut l [47]).2.1, (Lib.cut l [47]).2.2) := by
    unfold strings_Cut.f
    rw [if_pos (by rw [bs_size]; omega), data_bs, data_bs]
    rfl
  simp only [spec_ReadPct.f, impl_ReadPct.f, e47, hcut, Option.bind_some]
  rcases index_byte l 47 with ⟨h1, h2⟩ | ⟨a, r, rfl, h2, h3⟩
  · have hc : Lib.cut l [47] = (l, [], false) := by unfold Lib.cut; rw [if_neg (by omega)]
    refine ⟨([], [], false), by simp, by simp, ?_, ?_⟩
    · by_cases c : ((bs l).size : Int) > 100
      · exact Ev.ite_pos c (Ev.now _)
      · refine Ev.ite_neg c (Ev.bind (split_ev 47 47 rfl l hl) ?_)
        rw [gl_miss 47 l [] h2]
        exact Ev.ite_neg (by simp) (Ev.now _)
    · rw [hc]
      exact Ev.bind (impl_listN l hl) (Ev.bind (impl_listN [] (by simp)) (Ev.ite_neg (by simp) (Ev.now _)))
  · have hla : a.length < 1048576 ∧ r.length < 1048576 := by simp only [List.length_append, List.length_cons] at hl; omega
    have hc : Lib.cut (a ++ 47 :: r) [47] = (a, r, true) := by
      unfold Lib.cut
      rw [if_pos (by omega), h3]
      simp
    rw [hc]
    have hgl := gl_hit 47 a [] r h2
    rw [List.nil_append] at hgl
    have ga := listN_len' a hla.1
    have gr := listN_len' r hla.2
    have ia := impl_listN a (by omega)
    have ir := impl_listN r (by omega)
    have sa := spec_listN a (by omega)
    have sr := spec_listN r (by omega)
    have fin : ∀ b : Bool, Ev (fun k => impl_ReadPct.f k (bs (a ++ 47 :: r))) ([], [], false) → True := fun _ _ => trivial
    by_cases ha : (listN a).2 = true
    · by_cases hb : (listN r).2 = true
      · obtain ⟨g, hg, hs, hi⟩ := good_char (listN a).1 (listN r).1 ga gr
        have hno : (47 : UInt8) ∉ r := fun hm => by
          have := (listN_ok hb).2 47 hm (by decide)
          have e : (47 : UInt8).toNat = 47 := rfl
          omega
        rw [gl_miss 47 r [] hno, List.nil_append] at hgl
        have ht := split_ev 47 47 rfl (a ++ 47 :: r) hl
        rw [hgl] at ht
        cases hgv : g with
        | true =>
          rw [hgv] at hs hi hg
          have hgp := hg.mp rfl
          have l1 := (listN_ok ha).1
          have l2 := (listN_ok hb).1
          have n1 := hgp.1.1
          have n2 := hgp.2.1
          refine ⟨((listN a).1, (listN r).1, true), by simp only; omega, by simp only; omega, ?_, ?_⟩
          · refine Ev.ite_neg (by rw [bs_size]; simp only [List.length_append, List.length_cons]; omega) (Ev.bind ht (Ev.ite_pos (by simp) (Ev.ite_pos (by simp) (Ev.bind sa (Ev.ite_pos (by simp) (Ev.bind sr (Ev.ite_pos ha (Ev.ite_pos hb (Ev.bind hs (Ev.ite_pos rfl (Ev.now _)))))))))))
          · exact Ev.bind ia (Ev.bind ir (Ev.ite_pos rfl (Ev.ite_pos ha (Ev.ite_pos hb (Ev.bind hi (Ev.ite_pos rfl (Ev.now _)))))))
        | false =>
          rw [hgv] at hs hi
          refine ⟨([], [], false), by simp, by simp, ?_, ?_⟩
          · by_cases c : ((bs (a ++ 47 :: r)).size : Int) > 100
            · exact Ev.ite_pos c (Ev.now _)
            · exact Ev.ite_neg c (Ev.bind ht (Ev.ite_pos (by simp) (Ev.ite_pos (by simp) (Ev.bind sa (Ev.ite_pos (by simp) (Ev.bind sr (Ev.ite_pos ha (Ev.ite_pos hb (Ev.bind hs (Ev.ite_neg (by simp) (Ev.now _)))))))))))
          · exact Ev.bind ia (Ev.bind ir (Ev.ite_pos rfl (Ev.ite_pos ha (Ev.ite_pos hb (Ev.bind hi (Ev.ite_neg (by simp) (Ev.now _)))))))
      · refine ⟨([], [], false), by simp, by simp, ?_, Ev.bind ia (Ev.bind ir (Ev.ite_pos rfl (Ev.ite_pos ha (Ev.ite_neg hb (Ev.now _)))))⟩
        by_cases c : ((bs (a ++ 47 :: r)).size : Int) > 100
        · exact Ev.ite_pos c (Ev.now _)
        · refine Ev.ite_neg c (Ev.bind (split_ev 47 47 rfl (a ++ 47 :: r) hl) ?_)
          rw [hgl]
          by_cases hm : (47 : UInt8) ∈ r
          · have h2l : 2 < ((a :: gl 47 [] r).map bs).length := by
              obtain ⟨x, y, rfl, hxy, _⟩ := (index_byte r 47).resolve_left (fun q => q.2 hm)
              rw [gl_hit 47 x [] y hxy]
              have := gl_pos 47 y []
              simp only [List.map_cons, List.length_cons, List.length_map]
              omega
            exact Ev.ite_neg (by omega) (Ev.now _)
          · rw [gl_miss 47 r [] hm, List.nil_append]
            exact Ev.ite_pos (by simp) (Ev.ite_pos (by simp) (Ev.bind sa (Ev.ite_pos (by simp) (Ev.bind sr (Ev.ite_pos ha (Ev.ite_neg hb (Ev.now _)))))))
    · refine ⟨([], [], false), by simp, by simp, ?_, Ev.bind ia (Ev.bind ir (Ev.ite_pos rfl (Ev.ite_neg ha (Ev.now _))))⟩
      by_cases c : ((bs (a ++ 47 :: r)).size : Int) > 100
      · exact Ev.ite_pos c (Ev.now _)
      · refine Ev.ite_neg c (Ev.bind (split_ev 47 47 rfl (a ++ 47 :: r) hl) ?_)
        rw [hgl]
        by_cases hm : (47 : UInt8) ∈ r
        · have h2l : 2 < ((a :: gl 47 [] r).map bs).length := by
            obtain ⟨x, y, rfl, hxy, _⟩ := (index_byte r 47).resolve_left (fun q => q.2 hm)
            rw [gl_hit 47 x [] y hxy]
            have := gl_pos 47 y []
            simp only [List.map_cons, List.length_cons, List.length_map]
            omega
          exact Ev.ite_neg (by omega) (Ev.now _)
        · rw [gl_miss 47 r [] hm, List.nil_append]
          exact Ev.ite_pos (by simp) (Ev.ite_pos (by simp) (Ev.bind sa (Ev.ite_pos (by simp) (Ev.bind sr (Ev.ite_neg ha (Ev.now _))))))
theorem FnExactReadPct : laws_FnExactReadPct.Pure2 := by
  intro s _ _
  apply Ev.rounds
  simp only [laws_FnExactReadPct.f]
  by_cases h : (s.size : Int) > 1048576
  · exact Ev.ite_pos h (Ev.now _)
  refine Ev.ite_neg h ?_
  obtain ⟨l, rfl⟩ : ∃ l, s = bs l := ⟨s.data.toList, by apply ByteArray.ext; simp [bs]⟩
  rw [bs_size] at h
  obtain ⟨⟨xs, ys, b⟩, h1, h2, hs, hi⟩ := read_same l (by omega)
  simp only at h1 h2
  have hq : Ev (fun k => laws_eqPct.f k xs ys xs ys) true := Ev.bind (eqIntS_ev xs (by omega)) (Ev.ite_pos rfl (Ev.bind (eqIntS_ev ys (by omega)) (Ev.ite_pos rfl (Ev.now _))))
  have hm : Ev (fun k => laws_markPct.f k xs ys 1) (1 + (xs.length : Int) + ys.length, iota 1 xs.length, iota (1 + (xs.length : Int)) ys.length) := Ev.bind (markIntS_ev xs 1 (by omega) (by omega) (by omega)) (Ev.bind (markIntS_ev ys (1 + (xs.length : Int)) (by omega) (by omega) (by omega)) (Ev.now _))
  have hh : Ev (fun k => laws_heldPct.f k (iota 1 xs.length) (iota (1 + (xs.length : Int)) ys.length) 1) (1 + (xs.length : Int) + ys.length) := Ev.bind (heldIntS_ev xs.length 1 (by omega) (by omega) (by omega)) (Ev.ite_neg (by omega) (Ev.bind (heldIntS_ev ys.length (1 + (xs.length : Int)) (by omega) (by omega) (by omega)) (Ev.ite_neg (by omega) (Ev.now _))))
  refine Ev.bind hs (Ev.bind hi (Ev.bind hq (Ev.ite_pos rfl ?_)))
  refine Ev.congr (fun k => by rw [show (b != b) = false from by simp]) ?_
  refine Ev.step (fun k => by simp only [laws_FnExactReadPct.j0]; rw [if_neg (by simp)]) ?_
  refine Ev.bind hm (Ev.bind hh (Ev.ite_neg (by omega) (Ev.ite_pos rfl (Ev.bind hi (Ev.bind hq (Ev.ite_pos rfl ?_))))))
  refine Ev.congr (fun k => by rw [show (b != b) = false from by simp]) ?_
  refine Ev.step (fun k => by simp only [laws_FnExactReadPct.j1]; rw [if_neg (by simp)]) ?_
  exact Ev.bind hh (Ev.ite_neg (by omega) (Ev.ite_pos rfl (Ev.now _)))

end Go.Proofs.YthdpiceiemkjlaaDoor.Pure

/- The pure statement of FnExactPctText: the numbers of a good schedule in their texts, with commas between. -/
import Derived.Test.YtfpibhpmcolggaaDoorQFnExactPctText
import Derived.Test.YtfpibhpmcolggaaDoorMBase
import Derived.KernelRfl
import Derived.Lib.ItoaLen
import Derived.Lib.ItoaMem
set_option linter.unusedVariables false
set_option linter.unusedSimpArgs false
namespace Go.Proofs.YtfpibhpmcolggaaDoor.Pure
open Go.RowKit Go.Proofs.YtfpibhpmcolggaaDoor.GPctText Go.Proofs.YtfpibhpmcolggaaDoorW.PrintWords Go.Proofs.YtfpibhpmcolggaaDoorW.PrintLast Go.Proofs.YtfpibhpmcolggaaDoorW.PrintMore Go.Proofs.YtfpibhpmcolggaaDoor.MBase
theorem l1In_dec (a b c : Int) : spec_l1In.f a b c = some (decide (b ≤ a ∧ a ≤ c)) := by
  unfold spec_l1In.f
  by_cases h : b ≤ a
  · rw [if_pos h]; simp [h]
  · rw [if_neg h]; simp [h]
theorem in_dec (a b c : Int) : impl_in.f a b c = some (decide (b ≤ a ∧ a ≤ c)) := l1In_dec a b c
theorem toIntS_l0 (xs : List Int) (hx : xs.length ≤ 1048576) : ∀ (d i : Nat) (acc : List Int), i + d = xs.length → acc.length = xs.length →
    Ev (fun k => laws_toIntS.l0 k xs acc (i : Int)) (acc.take i ++ xs.drop i)
  | 0, i, acc, h, ha => by
    have e : acc.take i ++ xs.drop i = acc := by rw [List.take_of_length_le (by omega), List.drop_eq_nil_of_le (by omega), List.append_nil]
    rw [e]
    refine Ev.step (f := fun _ => some acc) (fun k => ?_) (Ev.now _)
    simp only [laws_toIntS.l0]
    rw [if_neg (by omega)]
  | d + 1, i, acc, h, ha => by
    have ih := toIntS_l0 xs hx d (i + 1) (acc.set i (xs.getD i 0)) (by omega) (by simpa using ha)
    rw [set_take_drop xs acc 0 i (by omega) ha] at ih
    refine Ev.step (fun k => ?_) ih
    simp only [laws_toIntS.l0]
    rw [if_pos (by omega), if_pos (by omega), if_pos (by omega), wrap_id (by omega) (by omega), rd_nat]
    rfl
theorem toIntS_ev (xs : List Int) (hx : xs.length ≤ 1048576) : Ev (fun k => laws_toIntS.f k xs) xs := by
  have h := toIntS_l0 xs hx xs.length 0 (List.replicate xs.length 0) (by omega) (by simp)
  simp only [List.take_zero, List.drop_zero, List.nil_append] at h
  refine Ev.congr (fun k => ?_) h
  simp only [laws_toIntS.f]
  rw [if_pos (by omega), if_pos (by simp only [Int.toNat_natCast]; omega)]
  simp only [Int.toNat_natCast]
  rfl
theorem eqIntS_l0 (xs : List Int) (hx : xs.length ≤ 1048576) : ∀ (d i : Nat), i + d = xs.length → Ev (fun k => laws_eqIntS.l0 k xs xs (i : Int)) true
  | 0, i, h => by
    refine Ev.step (f := fun _ => some true) (fun k => ?_) (Ev.now _)
    simp only [laws_eqIntS.l0]
    rw [if_neg (by omega)]
  | d + 1, i, h => by
    refine Ev.step (fun k => ?_) (eqIntS_l0 xs hx d (i + 1) (by omega))
    simp only [laws_eqIntS.l0]
    rw [if_pos (by omega), if_pos (by omega), if_pos (by omega), if_pos trivial, wrap_id (by omega) (by omega)]
    rfl
theorem eqIntS_ev (xs : List Int) (hx : xs.length ≤ 1048576) : Ev (fun k => laws_eqIntS.f k xs xs) true := by
  refine Ev.congr (fun k => ?_) (eqIntS_l0 xs hx xs.length 0 (by omega))
  simp only [laws_eqIntS.f]
  rw [if_pos trivial]
  rfl
def inB (lo hi x : Int) : Bool := decide (lo ≤ x ∧ x ≤ hi)
theorem all_loop (lo hi : Int) (xs : List Int) (hx : xs.length ≤ 1048576) : ∀ d i : Nat, i + d = xs.length → Ev (fun k => spec_l1All.l0 k lo hi xs (xs.length : Int) (i : Int)) ((xs.drop i).all (inB lo hi))
  | 0, i, h => by
    rw [List.drop_eq_nil_of_le (by omega)]
    refine Ev.step (f := fun _ => some true) (fun k => ?_) (Ev.now _)
    simp only [spec_l1All.l0]; rw [if_neg (by omega)]
  | d + 1, i, h => by
    have hil : i < xs.length := by omega
    rw [List.drop_eq_getElem_cons hil, List.all_cons]
    have hst : ∀ k, spec_l1All.l0 (k+1) lo hi xs (xs.length : Int) (i : Int) = if inB lo hi xs[i] = true then spec_l1All.l0 k lo hi xs (xs.length : Int) ((i + 1 : Nat) : Int) else some false := by
      intro k
      simp only [spec_l1All.l0, l1In_dec, Option.bind_some]
      rw [if_pos (by omega), if_pos (by omega), if_pos (by omega), rd_nat, wrap_id (n := (i : Int) + 1) (by omega) (by omega)]
      have : xs.getD i 0 = xs[i] := by simp [hil]
      rw [this]
      rfl
    cases hg : inB lo hi xs[i] with
    | true => rw [Bool.true_and]; exact Ev.step hst (Ev.ite_pos hg (all_loop lo hi xs hx d (i + 1) (by omega)))
    | false => rw [Bool.false_and]; exact Ev.step hst (Ev.ite_neg (by simp [hg]) (Ev.now _))
theorem has_loop (n : Int) (xs : List Int) (hx : xs.length ≤ 1048576) : ∀ d i : Nat, i + d = xs.length → Ev (fun k => spec_l1Has.l0 k n xs (xs.length : Int) (i : Int)) (decide (n ∈ xs.drop i))
  | 0, i, h => by
    rw [List.drop_eq_nil_of_le (by omega)]
    refine Ev.step (f := fun _ => some (decide (n ∈ ([] : List Int)))) (fun k => ?_) (Ev.now _)
    simp only [spec_l1Has.l0]; rw [if_neg (by omega)]; simp
  | d + 1, i, h => by
    have hi : i < xs.length := by omega
    rw [List.drop_eq_getElem_cons hi]
    have hst : ∀ k, spec_l1Has.l0 (k+1) n xs (xs.length : Int) (i : Int) = if xs[i] = n then some true else spec_l1Has.l0 k n xs (xs.length : Int) ((i + 1 : Nat) : Int) := by
      intro k
      simp only [spec_l1Has.l0]
      rw [if_pos (by omega), if_pos (by omega), if_pos (by omega), rd_nat, wrap_id (n := (i : Int) + 1) (by omega) (by omega)]
      have : xs.getD i 0 = xs[i] := by simp [hi]
      rw [this]
      rfl
    by_cases he : xs[i] = n
    · rw [decide_eq_true (by rw [he]; exact List.mem_cons_self)]
      exact Ev.step hst (Ev.ite_pos he (Ev.now _))
    · have e : decide (n ∈ xs[i] :: xs.drop (i + 1)) = decide (n ∈ xs.drop (i + 1)) := by
        rw [decide_eq_decide, List.mem_cons]
        exact ⟨fun q => q.resolve_left (fun z => he z.symm), Or.inr⟩
      rw [e]
      exact Ev.step hst (Ev.ite_neg he (has_loop n xs hx d (i + 1) (by omega)))
/-- Whether numbers rise, within bounds, from place i on. -/
def riseR (lo hi : Int) (xs : List Int) : Nat → Nat → Bool
  | 0, _ => true
  | d + 1, i => if inB lo hi (xs.getD i 0) = true then (if 0 < i ∧ xs.getD (i - 1) 0 ≥ xs.getD i 0 then false else riseR lo hi xs d (i + 1)) else false
theorem spec_rise (lo hi : Int) (xs : List Int) (hx : xs.length ≤ 1048576) : ∀ d i : Nat, i + d = xs.length → Ev (fun k => spec_l1Rising.l0 k xs lo hi xs (xs.length : Int) (i : Int)) (riseR lo hi xs d i)
  | 0, i, h => by
    refine Ev.step (f := fun _ => some true) (fun k => ?_) (Ev.now _)
    simp only [spec_l1Rising.l0]; rw [if_neg (by omega)]
  | d + 1, i, h => by
    unfold riseR
    have hst : ∀ k, spec_l1Rising.l0 (k+1) xs lo hi xs (xs.length : Int) (i : Int) = if inB lo hi (xs.getD i 0) = true then (if 0 < i ∧ xs.getD (i - 1) 0 ≥ xs.getD i 0 then some false else spec_l1Rising.l0 k xs lo hi xs (xs.length : Int) ((i + 1 : Nat) : Int)) else some false := by
      intro k
      simp only [spec_l1Rising.l0, l1In_dec, Option.bind_some]
      rw [if_pos (by omega), if_pos (by omega), if_pos (by omega), rd_nat, wrap_id (n := (i : Int) + 1) (by omega) (by omega)]
      by_cases hb : inB lo hi (xs.getD i 0) = true
      · rw [if_pos (show decide (lo ≤ xs.getD i 0 ∧ xs.getD i 0 ≤ hi) = true from hb), if_pos hb]
        by_cases h0 : 0 < i
        · have e1 : wrap64 ((i : Int) - 1) = ((i - 1 : Nat) : Int) := by rw [wrap_id] <;> omega
          rw [if_pos (show (i : Int) > 0 by omega), e1, if_pos (by omega), if_pos (by omega), rd_nat]
          simp only [h0, true_and]
          rfl
        · rw [if_neg (show ¬ (i : Int) > 0 by omega)]
          simp only [h0, false_and, if_false]
          rfl
      · rw [if_neg (show ¬ decide (lo ≤ xs.getD i 0 ∧ xs.getD i 0 ≤ hi) = true from hb), if_neg hb]
    by_cases hb : inB lo hi (xs.getD i 0) = true
    · rw [if_pos hb]
      by_cases hc : 0 < i ∧ xs.getD (i - 1) 0 ≥ xs.getD i 0
      · rw [if_pos hc]; exact Ev.step hst (Ev.ite_pos hb (Ev.ite_pos hc (Ev.now _)))
      · rw [if_neg hc]; exact Ev.step hst (Ev.ite_pos hb (Ev.ite_neg hc (spec_rise lo hi xs hx d (i + 1) (by omega))))
    · rw [if_neg hb]; exact Ev.step hst (Ev.ite_neg hb (Ev.now _))
theorem impl_rise (hi : Int) (xs : List Int) (hx : xs.length ≤ 1048576) : ∀ d i : Nat, i + d = xs.length → Ev (fun k => impl_isRising.l0 k xs hi xs (xs.length : Int) (i : Int)) (riseR 0 hi xs d i)
  | 0, i, h => by
    refine Ev.step (f := fun _ => some true) (fun k => ?_) (Ev.now _)
    simp only [impl_isRising.l0]; rw [if_neg (by omega)]
  | d + 1, i, h => by
    unfold riseR
    have hst : ∀ k, impl_isRising.l0 (k+1) xs hi xs (xs.length : Int) (i : Int) = if inB 0 hi (xs.getD i 0) = true then (if 0 < i ∧ xs.getD (i - 1) 0 ≥ xs.getD i 0 then some false else impl_isRising.l0 k xs hi xs (xs.length : Int) ((i + 1 : Nat) : Int)) else some false := by
      intro k
      simp only [impl_isRising.l0, in_dec, Option.bind_some]
      rw [if_pos (by omega), if_pos (by omega), if_pos (by omega), rd_nat, wrap_id (n := (i : Int) + 1) (by omega) (by omega)]
      by_cases hb : inB 0 hi (xs.getD i 0) = true
      · rw [if_pos (show decide (0 ≤ xs.getD i 0 ∧ xs.getD i 0 ≤ hi) = true from hb), if_pos hb]
        by_cases h0 : 0 < i
        · have e1 : wrap64 ((i : Int) - 1) = ((i - 1 : Nat) : Int) := by rw [wrap_id] <;> omega
          rw [if_pos (show (i : Int) > 0 by omega), e1, if_pos (by omega), if_pos (by omega), rd_nat]
          simp only [h0, true_and]
          rfl
        · rw [if_neg (show ¬ (i : Int) > 0 by omega)]
          simp only [h0, false_and, if_false]
          rfl
      · rw [if_neg (show ¬ decide (0 ≤ xs.getD i 0 ∧ xs.getD i 0 ≤ hi) = true from hb), if_neg hb]
    by_cases hb : inB 0 hi (xs.getD i 0) = true
    · rw [if_pos hb]
      by_cases hc : 0 < i ∧ xs.getD (i - 1) 0 ≥ xs.getD i 0
      · rw [if_pos hc]; exact Ev.step hst (Ev.ite_pos hb (Ev.ite_pos hc (Ev.now _)))
      · rw [if_neg hc]; exact Ev.step hst (Ev.ite_pos hb (Ev.ite_neg hc (impl_rise hi xs hx d (i + 1) (by omega))))
    · rw [if_neg hb]; exact Ev.step hst (Ev.ite_neg hb (Ev.now _))
/-- What a row that rises is. -/
theorem riseR_iff (lo hi : Int) (xs : List Int) : ∀ d i : Nat, i + d = xs.length → (riseR lo hi xs d i = true ↔ ∀ j, i ≤ j → j < xs.length → (lo ≤ xs.getD j 0 ∧ xs.getD j 0 ≤ hi) ∧ (0 < j → xs.getD (j - 1) 0 < xs.getD j 0))
  | 0, i, h => by
    unfold riseR
    exact ⟨fun _ j h1 h2 => by omega, fun _ => rfl⟩
  | d + 1, i, h => by
    unfold riseR
    have ih := riseR_iff lo hi xs d (i + 1) (by omega)
    by_cases hb : inB lo hi (xs.getD i 0) = true
    · rw [if_pos hb]
      have hb' := of_decide_eq_true hb
      by_cases hc : 0 < i ∧ xs.getD (i - 1) 0 ≥ xs.getD i 0
      · rw [if_pos hc]
        refine ⟨fun q => (by cases q), fun q => ?_⟩
        have := (q i (Nat.le_refl _) (by omega)).2 hc.1
        omega
      · rw [if_neg hc, ih]
        constructor
        · intro q j h1 h2
          by_cases e : j = i
          · subst e
            exact ⟨hb', fun z => by
              have : ¬ xs.getD (j - 1) 0 ≥ xs.getD j 0 := fun y => hc ⟨z, y⟩
              omega⟩
          · exact q j (by omega) h2
        · intro q j h1 h2
          exact q j (by omega) h2
    · rw [if_neg hb]
      refine ⟨fun q => (by cases q), fun q => ?_⟩
      exact absurd (decide_eq_true (q i (Nat.le_refl _) (by omega)).1) hb
/-- The loop over the ranks, from place i on. -/
def dupR (xs : List Int) (e : Bool) : Nat → Nat → Bool
  | 0, _ => e
  | d + 1, i => if xs.getD i 0 ∈ xs.take i then false else dupR xs e d (i + 1)
theorem dupR_iff (xs : List Int) (e : Bool) : ∀ d i : Nat, i + d = xs.length → (dupR xs e d i = true ↔ e = true ∧ ∀ j, i ≤ j → j < xs.length → xs.getD j 0 ∉ xs.take j)
  | 0, i, h => by
    unfold dupR
    exact ⟨fun q => ⟨q, fun j h1 h2 => by omega⟩, fun q => q.1⟩
  | d + 1, i, h => by
    unfold dupR
    have ih := dupR_iff xs e d (i + 1) (by omega)
    by_cases hm : xs.getD i 0 ∈ xs.take i
    · rw [if_pos hm]
      exact ⟨fun q => (by cases q), fun q => absurd hm (q.2 i (Nat.le_refl _) (by omega))⟩
    · rw [if_neg hm, ih]
      refine ⟨fun q => ⟨q.1, fun j h1 h2 => ?_⟩, fun q => ⟨q.1, fun j h1 h2 => q.2 j (by omega) h2⟩⟩
      by_cases e1 : j = i
      · subst e1; exact hm
      · exact q.2 j (by omega) h2
theorem dup_loop (xs ys : List Int) (hx : xs.length ≤ 1048576) (e : Bool) (he : Ev (fun k => if (ys.length : Int) ≤ 4 then ((spec_l1Rising.f k ys 0 199).bind fun t => some t) else some false) e) : ∀ d i : Nat, i + d = xs.length → Ev (fun k => spec_GoodPct.l0 k xs (xs.length : Int) (i : Int) xs ys) (dupR xs e d i)
  | 0, i, h => by
    refine Ev.step (fun k => ?_) he
    simp only [spec_GoodPct.l0]; rw [if_neg (by omega)]
  | d + 1, i, h => by
    have hil : i < xs.length := by omega
    unfold dupR
    have hh := has_loop (xs.getD i 0) (xs.take i) (by simp; omega) (xs.take i).length 0 (by omega)
    rw [List.drop_zero] at hh
    refine Ev.step (f := fun k => (spec_l1Has.f k (xs.take i) (xs.getD i 0)).bind fun t => if t = true then some false else spec_GoodPct.l0 k xs (xs.length : Int) ((i + 1 : Nat) : Int) xs ys) (fun k => ?_) (Ev.bind hh ?_)
    · simp only [spec_GoodPct.l0]
      rw [if_pos (by omega), if_pos (by omega), if_pos (by omega), if_pos (by omega), rd_nat, Int.toNat_natCast, wrap_id (n := (i : Int) + 1) (by omega) (by omega)]
      rfl
    · by_cases hm : xs.getD i 0 ∈ xs.take i
      · rw [if_pos hm]; exact Ev.ite_pos (decide_eq_true hm) (Ev.now _)
      · rw [if_neg hm]; exact Ev.ite_neg (by simpa using hm) (dup_loop xs ys hx e he d (i + 1) (by omega))
theorem keeps_all (s : List Int) (h : (Go.Lib.compact s).length = s.length) : ∀ j, j < s.length → Go.Lib.keeps s.toArray j = true := by
  unfold Go.Lib.compact Go.Lib.compactUpTo at h
  rw [List.length_map] at h
  have h2 : ((List.range s.length).filter (Go.Lib.keeps s.toArray)).length = (List.range s.length).length := by rw [h, List.length_range]
  rw [List.length_filter_eq_length_iff] at h2
  exact fun j hj => h2 j (List.mem_range.mpr hj)
theorem compact_self (s : List Int) (h : ∀ j, j < s.length → Go.Lib.keeps s.toArray j = true) : Go.Lib.compact s = s := by
  unfold Go.Lib.compact Go.Lib.compactUpTo
  rw [List.filter_eq_self.mpr (fun j hj => h j (List.mem_range.mp hj))]
  apply List.ext_getElem
  · simp
  · intro i h1 h2
    simp at h1
    simp [getElem!_pos, h1]
theorem nodup_take (xs : List Int) : (∀ j, j < xs.length → xs.getD j 0 ∉ xs.take j) ↔ xs.Nodup := by
  rw [List.Nodup, List.pairwise_iff_getElem]
  constructor
  · intro h i j hi hj hij e
    apply h j hj
    have : xs.getD j 0 = xs[j] := by simp [hj]
    rw [this, ← e]
    exact List.mem_take_iff_getElem.mpr ⟨i, by omega, rfl⟩
  · intro h j hj hm
    have e : xs.getD j 0 = xs[j] := by simp [hj]
    rw [e] at hm
    obtain ⟨i, hi, hx⟩ := List.mem_take_iff_getElem.mp hm
    exact h i j (by omega) hj (by omega) hx
theorem adj_lt (s : List Int) (h : ∀ j, 0 < j → j < s.length → s.getD (j - 1) 0 < s.getD j 0) : ∀ d i : Nat, i + (d + 1) < s.length → s.getD i 0 < s.getD (i + (d + 1)) 0
  | 0, i, hl => by have := h (i + 1) (by omega) hl; simpa using this
  | d + 1, i, hl => by
    have h1 := adj_lt s h d i (by omega)
    have h2 := h (i + (d + 1 + 1)) (by omega) hl
    rw [show i + (d + 1 + 1) - 1 = i + (d + 1) from by omega] at h2
    omega
theorem ranks_iff (xs : List Int) (h5 : xs.length = 5) :
    (xs.all (inB 0 4) = true ∧ ∀ j, j < xs.length → xs.getD j 0 ∉ xs.take j) ↔ ((Go.Lib.compact (xs.mergeSort fun x y => decide (x ≤ y))).length = 5 ∧ riseR 0 4 (Go.Lib.compact (xs.mergeSort fun x y => decide (x ≤ y))) (Go.Lib.compact (xs.mergeSort fun x y => decide (x ≤ y))).length 0 = true) := by
  have hp : (xs.mergeSort fun x y => decide (x ≤ y)).Perm xs := List.mergeSort_perm xs _
  have hs : (xs.mergeSort fun x y => decide (x ≤ y)).Pairwise (fun a b => decide (a ≤ b) = true) := List.pairwise_mergeSort (by intro a b c; simp; omega) (by intro a b; simp; omega) xs
  generalize (xs.mergeSort fun x y => decide (x ≤ y)) = s at hp hs
  have hl : s.length = 5 := by rw [hp.length_eq, h5]
  rw [nodup_take, ← hp.nodup_iff]
  have hs' := List.pairwise_iff_getElem.mp hs
  constructor
  · rintro ⟨ha, hn⟩
    have hn' := List.pairwise_iff_getElem.mp hn
    have hk : ∀ j, j < s.length → Go.Lib.keeps s.toArray j = true := by
      intro j hj
      unfold Go.Lib.keeps
      rw [decide_eq_true_eq]
      by_cases h0 : j = 0
      · exact .inl h0
      · right
        have := hn' (j - 1) j (by omega) hj (by omega)
        simp [getElem!_pos, hj, show j - 1 < s.length by omega]
        exact fun e => this e.symm
    rw [compact_self s hk]
    refine ⟨hl, (riseR_iff 0 4 s s.length 0 (by omega)).mpr (fun j _ hj => ⟨?_, fun h0 => ?_⟩)⟩
    · have e : s.getD j 0 = s[j] := by simp [hj]
      rw [e]
      have := List.all_eq_true.mp ha s[j] (hp.mem_iff.mp (List.getElem_mem hj))
      exact of_decide_eq_true this
    · have e : s.getD j 0 = s[j] := by simp [hj]
      have e2 : s.getD (j - 1) 0 = s[j - 1] := by simp [show j - 1 < s.length by omega]
      have h1 := of_decide_eq_true (hs' (j - 1) j (by omega) hj (by omega))
      have h2 := hn' (j - 1) j (by omega) hj (by omega)
      rw [e, e2]
      omega
  · rintro ⟨hc, hr⟩
    have hk := keeps_all s (by omega)
    rw [compact_self s hk] at hr
    have hr' := (riseR_iff 0 4 s s.length 0 (by omega)).mp hr
    refine ⟨List.all_eq_true.mpr (fun x hx => ?_), List.pairwise_iff_getElem.mpr (fun i j hi hj hij => ?_)⟩
    · obtain ⟨j, hj, rfl⟩ := List.getElem_of_mem (hp.mem_iff.mpr hx)
      have e : s.getD j 0 = s[j] := by simp [hj]
      have := (hr' j (by omega) hj).1
      rw [e] at this
      exact decide_eq_true this
    · obtain ⟨d, hd⟩ : ∃ d, j = i + (d + 1) := ⟨j - i - 1, by omega⟩
      have h1 := adj_lt s (fun k h0 hk => (hr' k (by omega) hk).2 h0) d i (by omega)
      rw [← hd] at h1
      have e : s.getD j 0 = s[j] := by simp [hj]
      have e2 : s.getD i 0 = s[i] := by simp [hi]
      rw [e, e2] at h1
      omega
theorem clone_eq (xs : List Int) (hx : xs.length ≤ 1048576) : slices_Clone_int_int.f xs = some xs := by
  simp only [slices_Clone_int_int.f, Option.bind_some]; rw [if_pos (by simp; omega)]; rfl
/-- What a good schedule is. -/
def goodP (xs ys : List Int) : Prop := (xs.length = 5 ∧ xs.all (inB 0 4) = true ∧ xs.Nodup) ∧ ys.length ≤ 4 ∧ ∀ j, 0 ≤ j → j < ys.length → (0 ≤ ys.getD j 0 ∧ ys.getD j 0 ≤ 199) ∧ (0 < j → ys.getD (j - 1) 0 < ys.getD j 0)
theorem good_char (xs ys : List Int) (hx : xs.length ≤ 1048576) (hy : ys.length ≤ 1048576) : ∃ r, (r = true ↔ goodP xs ys) ∧ Ev (fun k => spec_GoodPct.f k xs ys) r ∧ Ev (fun k => impl_GoodPct.f k xs ys) r := by
  have hj0 : Ev (fun k => spec_GoodPct.j0 k true xs ys) false := Ev.step (f := fun _ => some false) (fun k => by simp only [spec_GoodPct.j0]; rw [if_pos trivial]) (Ev.now _)
  obtain ⟨e, hev, he, hi⟩ : ∃ e, (e = true ↔ ys.length ≤ 4 ∧ ∀ j, 0 ≤ j → j < ys.length → (0 ≤ ys.getD j 0 ∧ ys.getD j 0 ≤ 199) ∧ (0 < j → ys.getD (j - 1) 0 < ys.getD j 0)) ∧ Ev (fun k => if (ys.length : Int) ≤ 4 then ((spec_l1Rising.f k ys 0 199).bind fun t => some t) else some false) e ∧ Ev (fun k => if (ys.length : Int) ≤ 4 then ((impl_isRising.f k ys 199).bind fun t => some t) else some false) e := by
    by_cases h4 : (ys.length : Int) ≤ 4
    · exact ⟨riseR 0 199 ys ys.length 0, by rw [riseR_iff 0 199 ys ys.length 0 (by omega)]; exact ⟨fun q => ⟨by omega, q⟩, fun q => q.2⟩, Ev.ite_pos h4 (Ev.bind (g := fun k => spec_l1Rising.f k ys 0 199) (spec_rise 0 199 ys hy ys.length 0 (by omega)) (Ev.now _)), Ev.ite_pos h4 (Ev.bind (g := fun k => impl_isRising.f k ys 199) (impl_rise 199 ys hy ys.length 0 (by omega)) (Ev.now _))⟩
    · exact ⟨false, ⟨fun q => (by cases q), fun q => absurd q.1 (by omega)⟩, Ev.ite_neg h4 (Ev.now _), Ev.ite_neg h4 (Ev.now _)⟩
  have hris : impl_rising.f xs = some (Go.Lib.compact (xs.mergeSort fun x y => decide (x ≤ y))) := by
    simp only [impl_rising.f, slices_Sort_int_int.f, slices_Compact_int_int.f]
    rw [if_pos (by omega), Option.bind_some, Option.bind_some]
  simp only [spec_GoodPct.f, impl_GoodPct.f, clone_eq xs hx, hris, Option.bind_some]
  by_cases h5 : (xs.length : Int) = 5
  · have h5' : xs.length = 5 := by omega
    have hall := all_loop 0 4 xs hx xs.length 0 (by omega)
    rw [List.drop_zero] at hall
    have hR := ranks_iff xs h5'
    have hcl : (Go.Lib.compact (xs.mergeSort fun x y => decide (x ≤ y))).length ≤ 1048576 := by
      unfold Go.Lib.compact Go.Lib.compactUpTo
      rw [List.length_map]
      refine Nat.le_trans (List.length_filter_le _ _) ?_
      rw [List.length_range, List.length_mergeSort]
      exact hx
    have hrise := impl_rise 4 _ hcl _ 0 (Nat.zero_add _)
    generalize Go.Lib.compact (xs.mergeSort fun x y => decide (x ≤ y)) = c at hR hcl hrise
    have hdup := dup_loop xs ys hx e he xs.length 0 (by omega)
    have hdi := dupR_iff xs e xs.length 0 (by omega)
    by_cases hcond : xs.all (inB 0 4) = true ∧ ∀ j, j < xs.length → xs.getD j 0 ∉ xs.take j
    · obtain ⟨hc5, hcr⟩ := hR.mp hcond
      have hde : dupR xs e xs.length 0 = e := by
        rw [Bool.eq_iff_iff, hdi]
        exact ⟨fun q => q.1, fun q => ⟨q, fun j _ hj => hcond.2 j hj⟩⟩
      rw [hde] at hdup
      refine ⟨e, ⟨fun q => ⟨⟨h5', hcond.1, (nodup_take xs).mp hcond.2⟩, hev.mp q⟩, fun q => hev.mpr q.2⟩, Ev.ite_pos h5 (Ev.bind (g := fun k => spec_l1All.f k xs 0 4) hall ?_), Ev.ite_pos h5 (Ev.ite_pos (by omega) (Ev.bind (g := fun k => impl_isRising.f k c 4) hrise (Ev.ite_pos hcr hi)))⟩
      rw [hcond.1]
      refine Ev.step (fun k => ?_) hdup
      simp only [spec_GoodPct.j0]; rw [if_neg (by simp)]; rfl
    · refine ⟨false, ⟨fun q => (by cases q), fun q => absurd ⟨q.1.2.1, (nodup_take xs).mpr q.1.2.2⟩ hcond⟩, Ev.ite_pos h5 (Ev.bind (g := fun k => spec_l1All.f k xs 0 4) hall ?_), Ev.ite_pos h5 ?_⟩
      · cases ha : xs.all (inB 0 4) with
        | false => exact hj0
        | true =>
          have hde : dupR xs e xs.length 0 = false := by
            rw [← Bool.not_eq_true, hdi]
            exact fun q => hcond ⟨ha, fun j hj => q.2 j (by omega) hj⟩
          rw [hde] at hdup
          refine Ev.step (fun k => ?_) hdup
          simp only [spec_GoodPct.j0]; rw [if_neg (by simp)]; rfl
      · by_cases hc5 : (c.length : Int) = 5
        · refine Ev.ite_pos hc5 (Ev.bind (g := fun k => impl_isRising.f k c 4) hrise (Ev.ite_neg (fun q => hcond (hR.mpr ⟨by omega, q⟩)) (Ev.now _)))
        · exact Ev.ite_neg hc5 (Ev.now _)
  · exact ⟨false, ⟨fun q => (by cases q), fun q => absurd q.1.1 (by omega)⟩, Ev.ite_neg h5 hj0, Ev.ite_neg h5 (Ev.now _)⟩
theorem good_same (xs ys : List Int) (hx : xs.length ≤ 1048576) (hy : ys.length ≤ 1048576) : ∃ r, Ev (fun k => spec_GoodPct.f k xs ys) r ∧ Ev (fun k => impl_GoodPct.f k xs ys) r := by
  obtain ⟨r, _, h⟩ := good_char xs ys hx hy
  exact ⟨r, h⟩
theorem sz_int (l : List Int) (m : Int) (h0 : 0 ≤ m) (h1 : m ≤ 1048576) (hl : l.length ≤ 9223372036854775807) : laws_szIntS.f l m = some (if m - (l.length : Int) < 0 then -1 else m - (l.length : Int)) := by
  simp only [laws_szIntS.f]
  rw [wrap_id (by omega) (by omega)]
  split <;> rfl
/-! ### Texts -/
/-- A text out of its bytes. -/
def bs (l : List UInt8) : ByteArray := ⟨l.toArray⟩
theorem bs_size (l : List UInt8) : (bs l).size = l.length := by simp [bs, ByteArray.size]
theorem cat_bs (a b : List UInt8) : cat (bs a) (bs b) = bs (a ++ b) := by
  apply ByteArray.ext
  show (bs a ++ bs b).data = _
  rw [ByteArray.data_append]
  simp [bs]
theorem catOk_bs {a b : List UInt8} (h : a.length + b.length ≤ 9223372036854775807) : catOk (bs a) (bs b) = true := catOk_of (by rw [bs_size, bs_size]; exact h)
theorem one_num (d : Nat) (h : d < 10) : strOfNums ([(wrap64 (48 + (d : Int))) % 256] : List Int) = bs [UInt8.ofNat (48 + d)] := by
  have e : (wrap64 (48 + (d : Int))) % 256 = ((48 + d : Nat) : Int) := by rw [wrap_id (by omega) (by omega)]; omega
  rw [e]
  rfl
theorem dec_len (n : Nat) (h : (n : Int) ≤ 9223372036854775807) : (Lib.decDigits n).length ≤ 21 := by
  have := Lib.itoa_length_le (n : Int) (by omega) h
  rwa [Lib.itoa_nonneg] at this
theorem num_text : ∀ (n : Nat), (n : Int) ≤ 9223372036854775807 → Ev (fun k => spec_l1Num.f k (n : Int)) (bs (Lib.decDigits n)) := by
  intro n
  induction n using Nat.strongRecOn with
  | ind n ih =>
    intro hn
    by_cases h : n < 10
    · rw [Lib.decDigits_one h]
      refine Ev.step (f := fun _ => some (bs [UInt8.ofNat (48 + n)])) (fun k => ?_) (Ev.now _)
      simp only [spec_l1Num.f]
      rw [if_pos (by omega), one_num n h]
    · have hd : Lib.decDigits n = Lib.decDigits (n / 10) ++ [UInt8.ofNat (48 + n % 10)] := by rw [Lib.decDigits, dif_neg h]
      have hl := dec_len (n / 10) (by omega)
      refine Ev.step (f := fun k => (spec_l1Num.f k ((n / 10 : Nat) : Int)).bind fun t => (if catOk t (strOfNums ([(wrap64 (48 + ((n % 10 : Nat) : Int))) % 256] : List Int)) = true then (some (cat t (strOfNums ([(wrap64 (48 + ((n % 10 : Nat) : Int))) % 256] : List Int)))) else none)) (fun k => ?_) (Ev.bind (ih (n / 10) (by omega) (by omega)) ?_)
      · simp only [spec_l1Num.f]
        rw [if_neg (by omega)]
        have e1 : wrap64 (Int.tdiv (n : Int) 10) = ((n / 10 : Nat) : Int) := by
          have : Int.tdiv (n : Int) 10 = ((n / 10 : Nat) : Int) := rfl
          rw [this, wrap_id] <;> omega
        have e2 : Int.tmod (n : Int) 10 = ((n % 10 : Nat) : Int) := rfl
        rw [e1, e2]
        rfl
      · rw [one_num (n % 10) (by omega), hd]
        refine Ev.ite_pos (catOk_bs (by simp; omega)) ?_
        rw [cat_bs]
        exact Ev.now _
theorem num_text' (n : Int) (h0 : 0 ≤ n) (h1 : n ≤ 9223372036854775807) : Ev (fun k => spec_l1Num.f k n) (bs (Lib.itoa n)) := by
  obtain ⟨m, rfl⟩ : ∃ m : Nat, n = m := ⟨n.toNat, by omega⟩
  rw [Lib.itoa_nonneg]
  exact num_text m h1
theorem itoa_now (n : Int) (h0 : -9223372036854775808 ≤ n) (h1 : n ≤ 9223372036854775807) : strconv_Itoa.f n = some (bs (Lib.itoa n)) := by
  unfold strconv_Itoa.f
  rw [if_pos h0, if_pos h1]
  rfl
/-! ### Numbers with commas between -/
def listT (l : List Int) : List UInt8 := Lib.join (l.map Lib.itoa) [44]
theorem lens_le (l : List Int) (h : ∀ x ∈ l, -9223372036854775808 ≤ x ∧ x ≤ 9223372036854775807) : Lib.lens (l.map Lib.itoa) ≤ 21 * l.length := by
  induction l with
  | nil => simp [Lib.lens]
  | cons x r ih =>
    have h1 := Lib.itoa_length_le x (h x List.mem_cons_self).1 (h x List.mem_cons_self).2
    have h2 := ih (fun y hy => h y (List.mem_cons_of_mem _ hy))
    simp only [Lib.lens, List.map_cons, List.sum_cons, List.length_cons] at h2 ⊢
    omega
theorem listT_len (l : List Int) (h : ∀ x ∈ l, -9223372036854775808 ≤ x ∧ x ≤ 9223372036854775807) : (listT l).length ≤ 22 * l.length := by
  unfold listT
  cases l with
  | nil => simp [Lib.join_nil]
  | cons x r =>
    rw [List.map_cons, Lib.join_length]
    have := lens_le (x :: r) h
    rw [List.map_cons] at this
    simp only [List.length_map, List.length_cons, List.length_nil] at this ⊢
    omega
theorem joined_step (l : List Int) (i : Nat) (hi : i < l.length) (h0 : 0 < i) : listT (l.take (i + 1)) = listT (l.take i) ++ [44] ++ Lib.itoa (l.getD i 0) := by
  cases l with
  | nil => simp at hi
  | cons x r =>
    obtain ⟨j, rfl⟩ : ∃ j, i = j + 1 := ⟨i - 1, by omega⟩
    simp only [listT, List.take_succ_cons, List.map_cons, Lib.join_cons, List.map_take]
    simp only [List.length_cons] at hi
    have hj : j < r.length := by omega
    rw [Lib.joinTail_take_succ [44] (r.map Lib.itoa) j (Lib.itoa (r.getD j 0)) (by simp [hj])]
    simp only [List.getD_cons_succ, List.append_assoc]
theorem joined_first (l : List Int) (h : 0 < l.length) : listT (l.take 1) = Lib.itoa (l.getD 0 0) := by
  cases l with
  | nil => simp at h
  | cons x r => simp [listT, Lib.join_one]
theorem spec_joined (l : List Int) (hl : l.length ≤ 1048576) (hr : ∀ x ∈ l, 0 ≤ x ∧ x ≤ 9223372036854775807) : ∀ d i : Nat, i + d = l.length → Ev (fun k => spec_l4List.l0 k (bs (listT (l.take i))) l (l.length : Int) (i : Int)) (bs (listT l))
  | 0, i, h => by
    have e : l.take i = l := List.take_of_length_le (by omega)
    rw [e]
    refine Ev.step (f := fun _ => some (bs (listT l))) (fun k => ?_) (Ev.now _)
    simp only [spec_l4List.l0]; rw [if_neg (by omega)]
  | d + 1, i, h => by
    have hil : i < l.length := by omega
    have hr' : ∀ x ∈ l, -9223372036854775808 ≤ x ∧ x ≤ 9223372036854775807 := fun x hx => by have := hr x hx; omega
    have hm : l.getD i 0 ∈ l := by
      have e : l.getD i 0 = l[i] := by simp [hil]
      rw [e]; exact List.getElem_mem hil
    have hx := hr _ hm
    have hxl := Lib.itoa_length_le (l.getD i 0) (by omega) hx.2
    have hacc := listT_len (l.take i) (fun x hx => hr' x (List.mem_of_mem_take hx))
    have htl : (l.take i).length ≤ 1048576 := by simp; omega
    have hn := num_text' (l.getD i 0) hx.1 hx.2
    have ih := spec_joined l hl hr d (i + 1) (by omega)
    by_cases h0 : 0 < i
    · rw [joined_step l i hil h0] at ih
      refine Ev.step (f := fun k => (spec_l1Num.f k (l.getD i 0)).bind fun t => (if catOk (bs (listT (l.take i) ++ [44])) t = true then (spec_l4List.l0 k (cat (bs (listT (l.take i) ++ [44])) t) l (l.length : Int) ((i + 1 : Nat) : Int)) else none)) (fun k => ?_) (Ev.bind hn (Ev.ite_pos (catOk_bs (by simp only [List.length_append, List.length_cons, List.length_nil]; omega)) ?_))
      · simp only [spec_l4List.l0]
        have e44 : (⟨#[44]⟩ : ByteArray) = bs [44] := rfl
        rw [if_pos (by omega), if_pos (by omega), if_pos (by omega), if_pos (by omega), e44, if_pos (catOk_bs (by simp; omega)), cat_bs, rd_nat, wrap_id (n := (i : Int) + 1) (by omega) (by omega)]
        rfl
      · rw [cat_bs]; exact ih
    · obtain rfl : i = 0 := by omega
      rw [joined_first l (by omega)] at ih
      have e0 : listT (l.take 0) = [] := rfl
      rw [e0]
      refine Ev.step (f := fun k => (spec_l1Num.f k (l.getD 0 0)).bind fun t => (if catOk (bs []) t = true then (spec_l4List.l0 k (cat (bs []) t) l (l.length : Int) ((0 + 1 : Nat) : Int)) else none)) (fun k => ?_) (Ev.bind hn (Ev.ite_pos (catOk_bs (by simp only [List.length_append, List.length_cons, List.length_nil]; omega)) ?_))
      · simp only [spec_l4List.l0]
        rw [if_pos (by omega), if_pos (by omega), if_pos (by omega), if_neg (by omega), rd_nat, wrap_id (n := ((0 : Nat) : Int) + 1) (by omega) (by omega)]
        rfl
      · rw [cat_bs]; exact ih
theorem impl_joined (l : List Int) (hl : l.length ≤ 1048576) (hr : ∀ x ∈ l, 0 ≤ x ∧ x ≤ 9223372036854775807) : ∀ d i : Nat, i + d = l.length → Ev (fun k => impl_joinNumbers.l0 k ((l.take i).map fun x => bs (Lib.itoa x)) l (l.length : Int) (i : Int)) (bs (listT l))
  | 0, i, h => by
    have e : l.take i = l := List.take_of_length_le (by omega)
    have hr' : ∀ x ∈ l, -9223372036854775808 ≤ x ∧ x ≤ 9223372036854775807 := fun x hx => by have := hr x hx; omega
    have hlen := listT_len l hr'
    have ej : Lib.join ((l.map fun x => bs (Lib.itoa x)).map (·.data.toList)) ((⟨#[44]⟩ : ByteArray).data.toList) = listT l := by
      unfold listT
      congr 1
      rw [List.map_map]
      apply List.map_congr_left
      intro x _
      simp [bs]
    rw [e]
    refine Ev.step (f := fun _ => some (bs (listT l))) (fun k => ?_) (Ev.now _)
    simp only [impl_joinNumbers.l0, strings_Join.f]
    rw [if_neg (by omega), ej, if_pos (by simp; omega), if_pos (by omega)]
    rfl
  | d + 1, i, h => by
    have hil : i < l.length := by omega
    have hm : l.getD i 0 ∈ l := by
      have e : l.getD i 0 = l[i] := by simp [hil]
      rw [e]; exact List.getElem_mem hil
    have hx := hr _ hm
    have ih := impl_joined l hl hr d (i + 1) (by omega)
    refine Ev.step (fun k => ?_) ih
    simp only [impl_joinNumbers.l0]
    rw [if_pos (by omega), if_pos (by omega), if_pos (by omega), rd_nat, itoa_now _ (by omega) hx.2, Option.bind_some, if_pos (by simp; omega), wrap_id (n := (i : Int) + 1) (by omega) (by omega)]
    have e : (l.take (i + 1)).map (fun x => bs (Lib.itoa x)) = (l.take i).map (fun x => bs (Lib.itoa x)) ++ [bs (Lib.itoa (l.getD i 0))] := by
      have e1 : l.take (i + 1) = l.take i ++ [l[i]] := by rw [List.take_add_one, List.getElem?_eq_getElem hil]; rfl
      have e2 : l.getD i 0 = l[i] := by simp [hil]
      rw [e1, e2, List.map_append]
      rfl
    rw [e]
    rfl
theorem spec_list (l : List Int) (hl : l.length ≤ 1048576) (hr : ∀ x ∈ l, 0 ≤ x ∧ x ≤ 9223372036854775807) : Ev (fun k => spec_l4List.f k l) (bs (listT l)) := spec_joined l hl hr l.length 0 (by omega)
theorem impl_list (l : List Int) (hl : l.length ≤ 1048576) (hr : ∀ x ∈ l, 0 ≤ x ∧ x ≤ 9223372036854775807) : Ev (fun k => impl_joinNumbers.f k l) (bs (listT l)) := impl_joined l hl hr l.length 0 (by omega)
theorem good_range {xs ys : List Int} (h : goodP xs ys) : (∀ x ∈ xs, 0 ≤ x ∧ x ≤ 9223372036854775807) ∧ (∀ x ∈ ys, 0 ≤ x ∧ x ≤ 9223372036854775807) := by
  refine ⟨fun x hx => ?_, fun x hx => ?_⟩
  · have := of_decide_eq_true (List.all_eq_true.mp h.1.2.1 x hx)
    omega
  · obtain ⟨j, hj, rfl⟩ := List.getElem_of_mem hx
    have := (h.2.2 j (by omega) hj).1
    have e : ys.getD j 0 = ys[j] := by simp [hj]
    rw [e] at this
    omega
theorem text_same (xs ys : List Int) (hx : xs.length ≤ 1048576) (hy : ys.length ≤ 1048576) : ∃ r, Ev (fun k => spec_PctText.f k xs ys) r ∧ Ev (fun k => impl_PctText.f k xs ys) r := by
  obtain ⟨g, hg, hs, hi⟩ := good_char xs ys hx hy
  simp only [spec_PctText.f, impl_PctText.f, spec_l5Text.f]
  cases g with
  | false => exact ⟨((⟨#[]⟩ : ByteArray), false), Ev.bind hs (Ev.ite_neg (by simp) (Ev.now _)), Ev.bind hi (Ev.ite_neg (by simp) (Ev.now _))⟩
  | true =>
    obtain ⟨h1, h2⟩ := good_range (hg.mp rfl)
    have e47 : (⟨#[47]⟩ : ByteArray) = bs [47] := rfl
    have l1 := listT_len xs (fun x hx => by have := h1 x hx; omega)
    have l2 := listT_len ys (fun x hx => by have := h2 x hx; omega)
    refine ⟨(bs (listT xs ++ [47] ++ listT ys), true), Ev.bind hs (Ev.ite_pos rfl (Ev.bind (Ev.bind (spec_list xs hx h1) ?_) (Ev.now _))), Ev.bind hi (Ev.ite_pos rfl (Ev.bind (impl_list xs hx h1) ?_))⟩
    · rw [e47]
      refine Ev.ite_pos (catOk_bs (by simp; omega)) (Ev.bind (spec_list ys hy h2) ?_)
      rw [cat_bs]
      refine Ev.ite_pos (catOk_bs (by simp; omega)) ?_
      rw [cat_bs]
      exact Ev.now _
    · rw [e47]
      refine Ev.ite_pos (catOk_bs (by simp; omega)) (Ev.bind (impl_list ys hy h2) ?_)
      rw [cat_bs]
      refine Ev.ite_pos (catOk_bs (by simp; omega)) ?_
      rw [cat_bs]
      exact Ev.now _
theorem FnExactPctText : laws_FnExactPctText.Pure2 := by
  rintro ⟨xs, ys⟩ ⟨⟨h1, _⟩, ⟨h2, _⟩⟩
  show ∃ k, laws_FnExactPctText.f k xs ys = some true
  apply Ev.rounds
  simp only [laws_FnExactPctText.f, laws_szPct.f]
  rw [sz_int xs 1048576 (by omega) (by omega) h1]
  simp only [Option.bind_some]
  by_cases c1 : 1048576 - (xs.length : Int) < 0
  · rw [if_pos c1, if_pos (by omega)]
    exact Ev.bind (Ev.const rfl) (Ev.ite_pos (by omega) (Ev.now _))
  · rw [if_neg c1, if_neg c1, sz_int ys _ (by omega) (by omega) h2]
    simp only [Option.bind_some]
    by_cases c2 : 1048576 - (xs.length : Int) - (ys.length : Int) < 0
    · rw [if_pos c2, if_pos (by omega)]
      exact Ev.bind (Ev.const rfl) (Ev.ite_pos (by omega) (Ev.now _))
    · rw [if_neg c2, if_neg c2]
      refine Ev.bind (Ev.const rfl) (Ev.ite_neg c2 ?_)
      have hx : xs.length ≤ 1048576 := by omega
      have hy : ys.length ≤ 1048576 := by omega
      have ht : Ev (fun k => laws_toPct.f k xs ys) (xs, ys) := Ev.bind (toIntS_ev xs hx) (Ev.bind (toIntS_ev ys hy) (Ev.now _))
      have hq : Ev (fun k => laws_eqPct.f k xs ys xs ys) true := Ev.bind (eqIntS_ev xs hx) (Ev.ite_pos rfl (Ev.bind (eqIntS_ev ys hy) (Ev.ite_pos rfl (Ev.now _))))
      obtain ⟨⟨t, b⟩, hs, hi⟩ := text_same xs ys hx hy
      have hj : Ev (fun k => laws_FnExactPctText.j0 k (b != b) xs ys xs ys) true := by
        refine Ev.step (f := fun k => (laws_toPct.f k xs ys).bind fun bt => ((laws_eqPct.f k xs ys bt.1 bt.2).bind fun t => (if t = true then (some true) else (some false)))) (fun k => ?_) (Ev.bind ht (Ev.bind hq (Ev.ite_pos rfl (Ev.now _))))
        simp only [laws_FnExactPctText.j0]; rw [if_neg (by simp)]
      exact Ev.bind ht (Ev.bind hs (Ev.bind ht (Ev.bind hi (Ev.ite_pos rfl hj))))

end Go.Proofs.YtfpibhpmcolggaaDoor.Pure

/- The pure statement of FnExactPlayObject: both sides ask a kind, a good history and an order, and tell the same. -/
import Derived.Test.YthdpiceiemkjlaaQFnExactPlayObject
import Derived.Test.YthdpiceiemkjlaaMBase
import Derived.KernelRfl
import Derived.Test.YthdpiceiemkjlaaMReal
set_option linter.unusedVariables false
set_option linter.unusedSimpArgs false
namespace Go.Proofs.Ythdpiceiemkjlaa.Pure
open Go.RowKit Go.Proofs.Ythdpiceiemkjlaa.GPlayObject Go.Proofs.YthdpiceiemkjlaaW.PrintWords Go.Proofs.YthdpiceiemkjlaaW.PrintLast Go.Proofs.YthdpiceiemkjlaaW.PrintMore Go.Proofs.Ythdpiceiemkjlaa.MBase
open Go.Proofs.Ythdpiceiemkjlaa Go.Proofs.Ythdpiceiemkjlaa.MNum Go.Proofs.Ythdpiceiemkjlaa.MIeee Go.Proofs.Ythdpiceiemkjlaa.MReal
/-- A loop that goes on to n with the same result. -/
theorem ev_up {α : Type} (L : Nat → Int → Option α) (n : Nat) (r : α) (hs : ∀ i : Nat, i < n → Ev (fun k => L k ((i + 1 : Nat) : Int)) r → Ev (fun k => L k (i : Int)) r) (he : Ev (fun k => L k (n : Int)) r) :
    ∀ d i : Nat, i + d = n → Ev (fun k => L k (i : Int)) r
  | 0, i, h => by
    have : i = n := by omega
    subst this
    exact he
  | d + 1, i, h => hs i (by omega) (ev_up L n r hs he d (i + 1) (by omega))
/-- A loop that fills a row, place by place. -/
theorem ev_map {α β : Type} (L : Nat → List β → Int → Option (List β)) (xs : List α) (f : α → β) (z : α)
    (hs : ∀ (i : Nat) (acc r : List β), i < xs.length → acc.length = xs.length → Ev (fun k => L k (acc.set i (f (xs.getD i z))) ((i + 1 : Nat) : Int)) r → Ev (fun k => L k acc (i : Int)) r)
    (he : ∀ acc : List β, acc.length = xs.length → Ev (fun k => L k acc (xs.length : Int)) acc) :
    ∀ (d i : Nat) (acc : List β), i + d = xs.length → acc.length = xs.length → Ev (fun k => L k acc (i : Int)) (acc.take i ++ (xs.drop i).map f)
  | 0, i, acc, h, ha => by
    have e : acc.take i ++ (xs.drop i).map f = acc := by rw [List.take_of_length_le (by omega), List.drop_eq_nil_of_le (by omega), List.map_nil, List.append_nil]
    rw [e]
    have : i = xs.length := by omega
    subst this
    exact he acc ha
  | d + 1, i, acc, h, ha => by
    have ih := ev_map L xs f z hs he d (i + 1) (acc.set i (f (xs.getD i z))) (by omega) (by simpa using ha)
    have e : (acc.set i (f (xs.getD i z))).take (i + 1) ++ (xs.drop (i + 1)).map f = acc.take i ++ (xs.drop i).map f := by
      rw [List.take_succ_eq_append_getElem (by simp; omega), List.getElem_set_self, List.take_set, List.set_eq_of_length_le (by simp; omega), List.append_assoc, List.drop_eq_getElem_cons (show i < xs.length by omega), List.map_cons]
      simp [List.getD_eq_getElem?_getD, List.getElem?_eq_getElem (show i < xs.length by omega)]
    rw [e] at ih
    exact hs i acc _ (by omega) ha ih
theorem ev_map_all {α β : Type} (L : Nat → List β → Int → Option (List β)) (xs : List α) (f : α → β) (z : α) (y : β)
    (hs : ∀ (i : Nat) (acc r : List β), i < xs.length → acc.length = xs.length → Ev (fun k => L k (acc.set i (f (xs.getD i z))) ((i + 1 : Nat) : Int)) r → Ev (fun k => L k acc (i : Int)) r)
    (he : ∀ acc : List β, acc.length = xs.length → Ev (fun k => L k acc (xs.length : Int)) acc) :
    Ev (fun k => L k (List.replicate xs.length y) 0) (xs.map f) := by
  have h := ev_map L xs f z hs he xs.length 0 (List.replicate xs.length y) (by omega) (by simp)
  simpa using h
theorem toIntS_l0 (xs : List Int) (hx : xs.length ≤ 1048576) : ∀ (d i : Nat) (acc : List Int), i + d = xs.length → acc.length = xs.length →
    Ev (fun k => laws_toIntS.l0 k xs acc (i : Int)) (acc.take i ++ xs.drop i)
  | 0, i, acc, h, ha => by
    have e : acc.take i ++ xs.drop i = acc := by rw [List.take_of_length_le (by omega), List.drop_eq_nil_of_le (by omega), List.append_nil]
    rw [e]
    refine Ev.step (f := fun _ => some acc) (fun k => ?_) (Ev.now _)
    simp only [laws_toIntS.l0]
    rw [if_neg (by omega)]
  | d + 1, i, acc, h, ha => by
    have ih := toIntS_l0 xs hx d (i + 1) (acc.set i (xs.getD i 0)) (by omega) (by simpa using ha)
    rw [set_take_drop xs acc 0 i (by omega) ha] at ih
    refine Ev.step (fun k => ?_) ih
    simp only [laws_toIntS.l0]
    rw [if_pos (by omega), if_pos (by omega), if_pos (by omega), wrap_id (by omega) (by omega), rd_nat]
    rfl
theorem toIntS_ev (xs : List Int) (hx : xs.length ≤ 1048576) : Ev (fun k => laws_toIntS.f k xs) xs := by
  have h := toIntS_l0 xs hx xs.length 0 (List.replicate xs.length 0) (by omega) (by simp)
  simp only [List.take_zero, List.drop_zero, List.nil_append] at h
  refine Ev.congr (fun k => ?_) h
  simp only [laws_toIntS.f]
  rw [if_pos (by omega), if_pos (by simp only [Int.toNat_natCast]; omega)]
  simp only [Int.toNat_natCast]
  rfl
theorem l1In_dec (a b c : Int) : spec_l1In.f a b c = some (decide (b ≤ a ∧ a ≤ c)) := by
  unfold spec_l1In.f
  by_cases h : b ≤ a
  · rw [if_pos h]; simp [h]
  · rw [if_neg h]; simp [h]
theorem in_dec (a b c : Int) : impl_in.f a b c = some (decide (b ≤ a ∧ a ≤ c)) := l1In_dec a b c
def inB (lo hi x : Int) : Bool := decide (lo ≤ x ∧ x ≤ hi)
theorem all_loop (lo hi : Int) (xs : List Int) (hx : xs.length ≤ 1048576) : ∀ d i : Nat, i + d = xs.length → Ev (fun k => spec_l1All.l0 k lo hi xs (xs.length : Int) (i : Int)) ((xs.drop i).all (inB lo hi))
  | 0, i, h => by
    rw [List.drop_eq_nil_of_le (by omega)]
    refine Ev.step (f := fun _ => some true) (fun k => ?_) (Ev.now _)
    simp only [spec_l1All.l0]; rw [if_neg (by omega)]
  | d + 1, i, h => by
    have hil : i < xs.length := by omega
    rw [List.drop_eq_getElem_cons hil, List.all_cons]
    have hst : ∀ k, spec_l1All.l0 (k+1) lo hi xs (xs.length : Int) (i : Int) = if inB lo hi xs[i] = true then spec_l1All.l0 k lo hi xs (xs.length : Int) ((i + 1 : Nat) : Int) else some false := by
      intro k
      simp only [spec_l1All.l0, l1In_dec, Option.bind_some]
      rw [if_pos (by omega), if_pos (by omega), if_pos (by omega), rd_nat, wrap_id (n := (i : Int) + 1) (by omega) (by omega)]
      have : xs.getD i 0 = xs[i] := by simp [hil]
      rw [this]
      rfl
    cases hg : inB lo hi xs[i] with
    | true => rw [Bool.true_and]; exact Ev.step hst (Ev.ite_pos hg (all_loop lo hi xs hx d (i + 1) (by omega)))
    | false => rw [Bool.false_and]; exact Ev.step hst (Ev.ite_neg (by simp [hg]) (Ev.now _))
theorem eqIntS_l0 (xs : List Int) (hx : xs.length ≤ 1048576) : ∀ (d i : Nat), i + d = xs.length → Ev (fun k => laws_eqIntS.l0 k xs xs (i : Int)) true
  | 0, i, h => by
    refine Ev.step (f := fun _ => some true) (fun k => ?_) (Ev.now _)
    simp only [laws_eqIntS.l0]
    rw [if_neg (by omega)]
  | d + 1, i, h => by
    refine Ev.step (fun k => ?_) (eqIntS_l0 xs hx d (i + 1) (by omega))
    simp only [laws_eqIntS.l0]
    rw [if_pos (by omega), if_pos (by omega), if_pos (by omega), if_pos trivial, wrap_id (by omega) (by omega)]
    rfl
theorem eqIntS_ev (xs : List Int) (hx : xs.length ≤ 1048576) : Ev (fun k => laws_eqIntS.f k xs xs) true := by
  refine Ev.congr (fun k => ?_) (eqIntS_l0 xs hx xs.length 0 (by omega))
  simp only [laws_eqIntS.f]
  rw [if_pos trivial]
  rfl
theorem has_loop (n : Int) (xs : List Int) (hx : xs.length ≤ 1048576) : ∀ d i : Nat, i + d = xs.length → Ev (fun k => spec_l1Has.l0 k n xs (xs.length : Int) (i : Int)) (decide (n ∈ xs.drop i))
  | 0, i, h => by
    rw [List.drop_eq_nil_of_le (by omega)]
    refine Ev.step (f := fun _ => some (decide (n ∈ ([] : List Int)))) (fun k => ?_) (Ev.now _)
    simp only [spec_l1Has.l0]; rw [if_neg (by omega)]; simp
  | d + 1, i, h => by
    have hi : i < xs.length := by omega
    rw [List.drop_eq_getElem_cons hi]
    have hst : ∀ k, spec_l1Has.l0 (k+1) n xs (xs.length : Int) (i : Int) = if xs[i] = n then some true else spec_l1Has.l0 k n xs (xs.length : Int) ((i + 1 : Nat) : Int) := by
      intro k
      simp only [spec_l1Has.l0]
      rw [if_pos (by omega), if_pos (by omega), if_pos (by omega), rd_nat, wrap_id (n := (i : Int) + 1) (by omega) (by omega)]
      have : xs.getD i 0 = xs[i] := by simp [hi]
      rw [this]
      rfl
    by_cases he : xs[i] = n
    · rw [decide_eq_true (by rw [he]; exact List.mem_cons_self)]
      exact Ev.step hst (Ev.ite_pos he (Ev.now _))
    · have e : decide (n ∈ xs[i] :: xs.drop (i + 1)) = decide (n ∈ xs.drop (i + 1)) := by
        rw [decide_eq_decide, List.mem_cons]
        exact ⟨fun q => q.resolve_left (fun z => he z.symm), Or.inr⟩
      rw [e]
      exact Ev.step hst (Ev.ite_neg he (has_loop n xs hx d (i + 1) (by omega)))
def riseR (lo hi : Int) (xs : List Int) : Nat → Nat → Bool
  | 0, _ => true
  | d + 1, i => if inB lo hi (xs.getD i 0) = true then (if 0 < i ∧ xs.getD (i - 1) 0 ≥ xs.getD i 0 then false else riseR lo hi xs d (i + 1)) else false
theorem impl_rise (hi : Int) (xs : List Int) (hx : xs.length ≤ 1048576) : ∀ d i : Nat, i + d = xs.length → Ev (fun k => impl_isRising.l0 k xs hi xs (xs.length : Int) (i : Int)) (riseR 0 hi xs d i)
  | 0, i, h => by
    refine Ev.step (f := fun _ => some true) (fun k => ?_) (Ev.now _)
    simp only [impl_isRising.l0]; rw [if_neg (by omega)]
  | d + 1, i, h => by
    unfold riseR
    have hst : ∀ k, impl_isRising.l0 (k+1) xs hi xs (xs.length : Int) (i : Int) = if inB 0 hi (xs.getD i 0) = true then (if 0 < i ∧ xs.getD (i - 1) 0 ≥ xs.getD i 0 then some false else impl_isRising.l0 k xs hi xs (xs.length : Int) ((i + 1 : Nat) : Int)) else some false := by
      intro k
      simp only [impl_isRising.l0, in_dec, Option.bind_some]
      rw [if_pos (by omega), if_pos (by omega), if_pos (by omega), rd_nat, wrap_id (n := (i : Int) + 1) (by omega) (by omega)]
      by_cases hb : inB 0 hi (xs.getD i 0) = true
      · rw [if_pos (show decide (0 ≤ xs.getD i 0 ∧ xs.getD i 0 ≤ hi) = true from hb), if_pos hb]
        by_cases h0 : 0 < i
        · have e1 : wrap64 ((i : Int) - 1) = ((i - 1 : Nat) : Int) := by rw [wrap_id] <;> omega
          rw [if_pos (show (i : Int) > 0 by omega), e1, if_pos (by omega), if_pos (by omega), rd_nat]
          simp only [h0, true_and]
          rfl
        · rw [if_neg (show ¬ (i : Int) > 0 by omega)]
          simp only [h0, false_and, if_false]
          rfl
      · rw [if_neg (show ¬ decide (0 ≤ xs.getD i 0 ∧ xs.getD i 0 ≤ hi) = true from hb), if_neg hb]
    by_cases hb : inB 0 hi (xs.getD i 0) = true
    · rw [if_pos hb]
      by_cases hc : 0 < i ∧ xs.getD (i - 1) 0 ≥ xs.getD i 0
      · rw [if_pos hc]; exact Ev.step hst (Ev.ite_pos hb (Ev.ite_pos hc (Ev.now _)))
      · rw [if_neg hc]; exact Ev.step hst (Ev.ite_pos hb (Ev.ite_neg hc (impl_rise hi xs hx d (i + 1) (by omega))))
    · rw [if_neg hb]; exact Ev.step hst (Ev.ite_neg hb (Ev.now _))
theorem riseR_iff (lo hi : Int) (xs : List Int) : ∀ d i : Nat, i + d = xs.length → (riseR lo hi xs d i = true ↔ ∀ j, i ≤ j → j < xs.length → (lo ≤ xs.getD j 0 ∧ xs.getD j 0 ≤ hi) ∧ (0 < j → xs.getD (j - 1) 0 < xs.getD j 0))
  | 0, i, h => by
    unfold riseR
    exact ⟨fun _ j h1 h2 => by omega, fun _ => rfl⟩
  | d + 1, i, h => by
    unfold riseR
    have ih := riseR_iff lo hi xs d (i + 1) (by omega)
    by_cases hb : inB lo hi (xs.getD i 0) = true
    · rw [if_pos hb]
      have hb' := of_decide_eq_true hb
      by_cases hc : 0 < i ∧ xs.getD (i - 1) 0 ≥ xs.getD i 0
      · rw [if_pos hc]
        refine ⟨fun q => (by cases q), fun q => ?_⟩
        have := (q i (Nat.le_refl _) (by omega)).2 hc.1
        omega
      · rw [if_neg hc, ih]
        constructor
        · intro q j h1 h2
          by_cases e : j = i
          · subst e
            exact ⟨hb', fun z => by
              have : ¬ xs.getD (j - 1) 0 ≥ xs.getD j 0 := fun y => hc ⟨z, y⟩
              omega⟩
          · exact q j (by omega) h2
        · intro q j h1 h2
          exact q j (by omega) h2
    · rw [if_neg hb]
      refine ⟨fun q => (by cases q), fun q => ?_⟩
      exact absurd (decide_eq_true (q i (Nat.le_refl _) (by omega)).1) hb
def dupR (xs : List Int) (e : Bool) : Nat → Nat → Bool
  | 0, _ => e
  | d + 1, i => if xs.getD i 0 ∈ xs.take i then false else dupR xs e d (i + 1)
theorem dupR_iff (xs : List Int) (e : Bool) : ∀ d i : Nat, i + d = xs.length → (dupR xs e d i = true ↔ e = true ∧ ∀ j, i ≤ j → j < xs.length → xs.getD j 0 ∉ xs.take j)
  | 0, i, h => by
    unfold dupR
    exact ⟨fun q => ⟨q, fun j h1 h2 => by omega⟩, fun q => q.1⟩
  | d + 1, i, h => by
    unfold dupR
    have ih := dupR_iff xs e d (i + 1) (by omega)
    by_cases hm : xs.getD i 0 ∈ xs.take i
    · rw [if_pos hm]
      exact ⟨fun q => (by cases q), fun q => absurd hm (q.2 i (Nat.le_refl _) (by omega))⟩
    · rw [if_neg hm, ih]
      refine ⟨fun q => ⟨q.1, fun j h1 h2 => ?_⟩, fun q => ⟨q.1, fun j h1 h2 => q.2 j (by omega) h2⟩⟩
      by_cases e1 : j = i
      · subst e1; exact hm
      · exact q.2 j (by omega) h2
theorem keeps_all (s : List Int) (h : (Go.Lib.compact s).length = s.length) : ∀ j, j < s.length → Go.Lib.keeps s.toArray j = true := by
  unfold Go.Lib.compact Go.Lib.compactUpTo at h
  rw [List.length_map] at h
  have h2 : ((List.range s.length).filter (Go.Lib.keeps s.toArray)).length = (List.range s.length).length := by rw [h, List.length_range]
  rw [List.length_filter_eq_length_iff] at h2
  exact fun j hj => h2 j (List.mem_range.mpr hj)
theorem compact_self (s : List Int) (h : ∀ j, j < s.length → Go.Lib.keeps s.toArray j = true) : Go.Lib.compact s = s := by
  unfold Go.Lib.compact Go.Lib.compactUpTo
  rw [List.filter_eq_self.mpr (fun j hj => h j (List.mem_range.mp hj))]
  apply List.ext_getElem
  · simp
  · intro i h1 h2
    simp at h1
    simp [getElem!_pos, h1]
theorem nodup_take (xs : List Int) : (∀ j, j < xs.length → xs.getD j 0 ∉ xs.take j) ↔ xs.Nodup := by
  rw [List.Nodup, List.pairwise_iff_getElem]
  constructor
  · intro h i j hi hj hij e
    apply h j hj
    have : xs.getD j 0 = xs[j] := by simp [hj]
    rw [this, ← e]
    exact List.mem_take_iff_getElem.mpr ⟨i, by omega, rfl⟩
  · intro h j hj hm
    have e : xs.getD j 0 = xs[j] := by simp [hj]
    rw [e] at hm
    obtain ⟨i, hi, hx⟩ := List.mem_take_iff_getElem.mp hm
    exact h i j (by omega) hj (by omega) hx
theorem adj_lt (s : List Int) (h : ∀ j, 0 < j → j < s.length → s.getD (j - 1) 0 < s.getD j 0) : ∀ d i : Nat, i + (d + 1) < s.length → s.getD i 0 < s.getD (i + (d + 1)) 0
  | 0, i, hl => by have := h (i + 1) (by omega) hl; simpa using this
  | d + 1, i, hl => by
    have h1 := adj_lt s h d i (by omega)
    have h2 := h (i + (d + 1 + 1)) (by omega) hl
    rw [show i + (d + 1 + 1) - 1 = i + (d + 1) from by omega] at h2
    omega
theorem ranks_iff (xs : List Int) (n : Nat) (h5 : xs.length = n) :
    (xs.all (inB 0 ((n : Int) - 1)) = true ∧ ∀ j, j < xs.length → xs.getD j 0 ∉ xs.take j) ↔ ((Go.Lib.compact (xs.mergeSort fun x y => decide (x ≤ y))).length = n ∧ riseR 0 ((n : Int) - 1) (Go.Lib.compact (xs.mergeSort fun x y => decide (x ≤ y))) (Go.Lib.compact (xs.mergeSort fun x y => decide (x ≤ y))).length 0 = true) := by
  have hp : (xs.mergeSort fun x y => decide (x ≤ y)).Perm xs := List.mergeSort_perm xs _
  have hs : (xs.mergeSort fun x y => decide (x ≤ y)).Pairwise (fun a b => decide (a ≤ b) = true) := List.pairwise_mergeSort (by intro a b c; simp; omega) (by intro a b; simp; omega) xs
  generalize (xs.mergeSort fun x y => decide (x ≤ y)) = s at hp hs
  have hl : s.length = n := by rw [hp.length_eq, h5]
  rw [nodup_take, ← hp.nodup_iff]
  have hs' := List.pairwise_iff_getElem.mp hs
  constructor
  · rintro ⟨ha, hn⟩
    have hn' := List.pairwise_iff_getElem.mp hn
    have hk : ∀ j, j < s.length → Go.Lib.keeps s.toArray j = true := by
      intro j hj
      unfold Go.Lib.keeps
      rw [decide_eq_true_eq]
      by_cases h0 : j = 0
      · exact .inl h0
      · right
        have := hn' (j - 1) j (by omega) hj (by omega)
        simp [getElem!_pos, hj, show j - 1 < s.length by omega]
        exact fun e => this e.symm
    rw [compact_self s hk]
    refine ⟨hl, (riseR_iff 0 ((n : Int) - 1) s s.length 0 (by omega)).mpr (fun j _ hj => ⟨?_, fun h0 => ?_⟩)⟩
    · have e : s.getD j 0 = s[j] := by simp [hj]
      rw [e]
      have := List.all_eq_true.mp ha s[j] (hp.mem_iff.mp (List.getElem_mem hj))
      exact of_decide_eq_true this
    · have e : s.getD j 0 = s[j] := by simp [hj]
      have e2 : s.getD (j - 1) 0 = s[j - 1] := by simp [show j - 1 < s.length by omega]
      have h1 := of_decide_eq_true (hs' (j - 1) j (by omega) hj (by omega))
      have h2 := hn' (j - 1) j (by omega) hj (by omega)
      rw [e, e2]
      omega
  · rintro ⟨hc, hr⟩
    have hk := keeps_all s (by omega)
    rw [compact_self s hk] at hr
    have hr' := (riseR_iff 0 ((n : Int) - 1) s s.length 0 (by omega)).mp hr
    refine ⟨List.all_eq_true.mpr (fun x hx => ?_), List.pairwise_iff_getElem.mpr (fun i j hi hj hij => ?_)⟩
    · obtain ⟨j, hj, rfl⟩ := List.getElem_of_mem (hp.mem_iff.mpr hx)
      have e : s.getD j 0 = s[j] := by simp [hj]
      have := (hr' j (by omega) hj).1
      rw [e] at this
      exact decide_eq_true this
    · obtain ⟨d, hd⟩ : ∃ d, j = i + (d + 1) := ⟨j - i - 1, by omega⟩
      have h1 := adj_lt s (fun k h0 hk => (hr' k (by omega) hk).2 h0) d i (by omega)
      rw [← hd] at h1
      have e : s.getD j 0 = s[j] := by simp [hj]
      have e2 : s.getD i 0 = s[i] := by simp [hi]
      rw [e, e2] at h1
      omega
theorem clone_eq (xs : List Int) (hx : xs.length ≤ 1048576) : slices_Clone_int_int.f xs = some xs := by
  simp only [slices_Clone_int_int.f, Option.bind_some]; rw [if_pos (by simp; omega)]; rfl
theorem order_dup (xs : List Int) (hx : xs.length ≤ 1048576) : ∀ d i : Nat, i + d = xs.length → Ev (fun k => spec_l16Order.l0 k xs xs (xs.length : Int) (i : Int)) (dupR xs true d i)
  | 0, i, h => by
    refine Ev.step (f := fun _ => some true) (fun k => ?_) (Ev.now _)
    simp only [spec_l16Order.l0]; rw [if_neg (by omega)]
  | d + 1, i, h => by
    have hil : i < xs.length := by omega
    unfold dupR
    have hh := has_loop (xs.getD i 0) (xs.take i) (by simp; omega) (xs.take i).length 0 (by omega)
    rw [List.drop_zero] at hh
    refine Ev.step (f := fun k => (spec_l1Has.f k (xs.take i) (xs.getD i 0)).bind fun t => if t = true then some false else spec_l16Order.l0 k xs xs (xs.length : Int) ((i + 1 : Nat) : Int)) (fun k => ?_) (Ev.bind hh ?_)
    · simp only [spec_l16Order.l0]
      rw [if_pos (by omega), if_pos (by omega), if_pos (by omega), if_pos (by omega), rd_nat, Int.toNat_natCast, wrap_id (n := (i : Int) + 1) (by omega) (by omega)]
      rfl
    · by_cases hm : xs.getD i 0 ∈ xs.take i
      · rw [if_pos hm]; exact Ev.ite_pos (decide_eq_true hm) (Ev.now _)
      · rw [if_neg hm]; exact Ev.ite_neg (by simpa using hm) (order_dup xs hx d (i + 1) (by omega))
/-- An order of n: each number below n once. -/
theorem order_char (hs : List S77) (xs : List Int) (hh : hs.length ≤ 1048576) (hx : xs.length ≤ 1048576) :
    ∃ r : Bool, (r = true → xs.length = hs.length ∧ ∀ x ∈ xs, 0 ≤ x ∧ x < (hs.length : Int)) ∧ Ev (fun k => spec_l16Order.f k hs xs) r ∧ Ev (fun k => impl_isOrder.f k xs (hs.length : Int)) r := by
  have hj0 : Ev (fun k => spec_l16Order.j0 k xs true) false := Ev.step (f := fun _ => some false) (fun k => by simp only [spec_l16Order.j0]; rw [if_pos trivial]) (Ev.now _)
  have hris : impl_rising.f xs = some (Go.Lib.compact (xs.mergeSort fun x y => decide (x ≤ y))) := by
    simp only [impl_rising.f, slices_Sort_int_int.f, slices_Compact_int_int.f]
    rw [if_pos (by omega), Option.bind_some, Option.bind_some]
  have hw : wrap64 ((hs.length : Int) - 1) = (hs.length : Int) - 1 := wrap_id (by omega) (by omega)
  simp only [spec_l16Order.f, impl_isOrder.f, clone_eq xs hx, hris, Option.bind_some, hw]
  by_cases h5 : (xs.length : Int) = (hs.length : Int)
  · have h5' : xs.length = hs.length := by omega
    have hall := all_loop 0 ((hs.length : Int) - 1) xs hx xs.length 0 (by omega)
    rw [List.drop_zero] at hall
    have hR := ranks_iff xs hs.length h5'
    have hcl : (Go.Lib.compact (xs.mergeSort fun x y => decide (x ≤ y))).length ≤ 1048576 := by
      unfold Go.Lib.compact Go.Lib.compactUpTo
      rw [List.length_map]
      refine Nat.le_trans (List.length_filter_le _ _) ?_
      rw [List.length_range, List.length_mergeSort]
      exact hx
    have hrise := impl_rise ((hs.length : Int) - 1) _ hcl _ 0 (Nat.zero_add _)
    generalize Go.Lib.compact (xs.mergeSort fun x y => decide (x ≤ y)) = c at hR hcl hrise
    have hdup := order_dup xs hx xs.length 0 (by omega)
    have hdi := dupR_iff xs true xs.length 0 (by omega)
    by_cases hcond : xs.all (inB 0 ((hs.length : Int) - 1)) = true ∧ ∀ j, j < xs.length → xs.getD j 0 ∉ xs.take j
    · obtain ⟨hc5, hcr⟩ := hR.mp hcond
      have hde : dupR xs true xs.length 0 = true := hdi.mpr ⟨rfl, fun j _ hj => hcond.2 j hj⟩
      rw [hde] at hdup
      refine ⟨true, fun _ => ⟨h5', fun x hx => ?_⟩, Ev.ite_pos h5 (Ev.bind (g := fun k => spec_l1All.f k xs 0 ((hs.length : Int) - 1)) hall ?_), Ev.ite_pos h5 (Ev.ite_pos (by omega) (Ev.bind (g := fun k => impl_isRising.f k c ((hs.length : Int) - 1)) hrise (by rw [hcr]; exact Ev.now _)))⟩
      · have := of_decide_eq_true (List.all_eq_true.mp hcond.1 x hx)
        omega
      · rw [hcond.1]
        refine Ev.step (fun k => ?_) hdup
        simp only [spec_l16Order.j0]; rw [if_neg (by simp)]; rfl
    · refine ⟨false, fun q => (by cases q), Ev.ite_pos h5 (Ev.bind (g := fun k => spec_l1All.f k xs 0 ((hs.length : Int) - 1)) hall ?_), Ev.ite_pos h5 ?_⟩
      · cases ha : xs.all (inB 0 ((hs.length : Int) - 1)) with
        | false => exact hj0
        | true =>
          have hde : dupR xs true xs.length 0 = false := by
            rw [← Bool.not_eq_true, hdi]
            exact fun q => hcond ⟨ha, fun j hj => q.2 j (by omega) hj⟩
          rw [hde] at hdup
          refine Ev.step (fun k => ?_) hdup
          simp only [spec_l16Order.j0]; rw [if_neg (by simp)]; rfl
      · by_cases hc5 : (c.length : Int) = (hs.length : Int)
        · refine Ev.ite_pos hc5 (Ev.bind (g := fun k => impl_isRising.f k c ((hs.length : Int) - 1)) hrise ?_)
          cases hq : riseR 0 ((hs.length : Int) - 1) c c.length 0 with
          | false => exact Ev.now _
          | true => exact absurd (hR.mpr ⟨by omega, hq⟩) hcond
        · exact Ev.ite_neg hc5 (Ev.now _)
  · exact ⟨false, fun q => (by cases q), Ev.ite_neg h5 hj0, Ev.ite_neg h5 (Ev.now _)⟩
def badC (x : S77) : Bool := !decide ((0 ≤ x.f0 ∧ x.f0 ≤ 9) ∧ 0 ≤ x.f1 ∧ x.f1 < x.f2 ∧ x.f2 ≤ 999)
def meets (x y : S77) : Bool := decide (x.f0 = y.f0 ∧ x.f2 ≥ y.f1 ∧ y.f2 ≥ x.f1)
theorem rd92 (xs : List S77) (i : Nat) (h : i < xs.length) : rd_T77 xs (i : Int) = xs[i] := by
  simp [rd_T77, h]
theorem spec_l0_step (xs : List S77) (hx : xs.length ≤ 1048576) (i : Nat) (hi : i < xs.length) (k : Nat) :
    spec_l16Good.l0 (k+1) xs xs (xs.length : Int) (i : Int) = spec_l16Good.j1 k xs (i : Int) xs (xs.length : Int) (i : Int) (badC xs[i]) (xs[i]).f0 (xs[i]).f1 (xs[i]).f2 (xs[i]).f3 (xs[i]).f4 := by
  simp only [spec_l16Good.l0, l1In_dec, Option.bind_some, decide_eq_true_eq]
  rw [if_pos (by omega), if_pos (by omega), if_pos (by omega), rd92 xs i hi]
  unfold badC
  by_cases h0 : 0 ≤ (xs[i]).f0 ∧ (xs[i]).f0 ≤ 9
  · by_cases h1 : 0 ≤ (xs[i]).f1 ∧ (xs[i]).f1 ≤ 999
    · rw [if_pos h0, if_pos h1, wrap_id (n := (xs[i]).f1 + 1) (by omega) (by omega)]
      congr 2
      rw [decide_eq_decide]
      omega
    · rw [if_pos h0, if_neg h1, decide_eq_false (by omega)]; rfl
  · rw [if_neg h0, decide_eq_false (by omega)]; rfl
theorem impl_l0_step (xs : List S77) (hx : xs.length ≤ 1048576) (i : Nat) (hi : i < xs.length) (k : Nat) :
    impl_GoodHistory.l0 (k+1) xs xs (xs.length : Int) (i : Int) = impl_GoodHistory.j1 k xs (i : Int) xs (xs.length : Int) (i : Int) (badC xs[i]) (xs[i]).f0 (xs[i]).f1 (xs[i]).f2 (xs[i]).f3 (xs[i]).f4 := by
  simp only [impl_GoodHistory.l0, in_dec, Option.bind_some, decide_eq_true_eq]
  rw [if_pos (by omega), if_pos (by omega), if_pos (by omega), rd92 xs i hi]
  unfold badC
  by_cases h0 : 0 ≤ (xs[i]).f0 ∧ (xs[i]).f0 ≤ 9
  · by_cases h1 : (xs[i]).f1 < 0
    · rw [if_pos h0, if_pos h1, decide_eq_false (by omega)]; rfl
    · by_cases h2 : (xs[i]).f1 ≥ (xs[i]).f2
      · rw [if_pos h0, if_neg h1, if_pos h2, decide_eq_false (by omega)]; rfl
      · rw [if_pos h0, if_neg h1, if_neg h2]
        congr 1
        rw [← decide_not, decide_eq_decide]
        omega
  · rw [if_neg h0, decide_eq_false (by omega)]; rfl
theorem spec_l1_step (xs ys : List S77) (hy : ys.length ≤ 1048576) (i : Int) (x : S77) (j : Nat) (hj : j < ys.length) (k : Nat) :
    spec_l16Good.l1 (k+1) xs xs (xs.length : Int) i ys (ys.length : Int) (j : Int) x.f0 x.f1 x.f2 x.f3 x.f4 = if meets x ys[j] = true then some false else spec_l16Good.l1 k xs xs (xs.length : Int) i ys (ys.length : Int) ((j + 1 : Nat) : Int) x.f0 x.f1 x.f2 x.f3 x.f4 := by
  simp only [spec_l16Good.l1]
  rw [if_pos (by omega), if_pos (by omega), if_pos (by omega), rd92 ys j hj, wrap_id (n := (j : Int) + 1) (by omega) (by omega)]
  unfold meets
  simp only [decide_eq_true_eq]
  by_cases h0 : x.f0 = (ys[j]).f0 <;> by_cases h1 : x.f2 ≥ (ys[j]).f1 <;> by_cases h2 : (ys[j]).f2 ≥ x.f1 <;> simp only [h0, h1, h2, if_true, if_false, true_and, and_true, false_and, and_false] <;> rfl
theorem impl_l1_step (xs ys : List S77) (hy : ys.length ≤ 1048576) (i : Int) (x : S77) (j : Nat) (hj : j < ys.length) (k : Nat) :
    impl_GoodHistory.l1 (k+1) xs xs (xs.length : Int) i ys (ys.length : Int) (j : Int) x.f0 x.f1 x.f2 x.f3 x.f4 = if meets x ys[j] = true then some false else impl_GoodHistory.l1 k xs xs (xs.length : Int) i ys (ys.length : Int) ((j + 1 : Nat) : Int) x.f0 x.f1 x.f2 x.f3 x.f4 := by
  simp only [impl_GoodHistory.l1]
  rw [if_pos (by omega), if_pos (by omega), if_pos (by omega), rd92 ys j hj, wrap_id (n := (j : Int) + 1) (by omega) (by omega)]
  unfold meets
  simp only [decide_eq_true_eq]
  have e : ((ys[j]).f0 = x.f0) = (x.f0 = (ys[j]).f0) := propext ⟨Eq.symm, Eq.symm⟩
  simp only [e]
  by_cases h0 : x.f0 = (ys[j]).f0 <;> by_cases h1 : x.f2 ≥ (ys[j]).f1 <;> by_cases h2 : (ys[j]).f2 ≥ x.f1 <;> simp only [h0, h1, h2, if_true, if_false, true_and, and_true, false_and, and_false] <;> rfl
/-- What both loops come to, from call i on. -/
def goodR (xs : List S77) : Nat → Nat → Bool
  | 0, _ => decide ((xs.length : Int) ≤ 8)
  | d + 1, i => if badC (xs.getD i z77) = true then false else if (xs.take i).any (meets (xs.getD i z77)) = true then false else goodR xs d (i + 1)
theorem inner_spec (xs ys : List S77) (hy : ys.length ≤ 1048576) (i : Int) (x : S77) (r : Bool) (h : Ev (fun k => spec_l16Good.l0 k xs xs (xs.length : Int) (wrap64 (i + 1))) r) : ∀ d j : Nat, j + d = ys.length →
    Ev (fun k => spec_l16Good.l1 k xs xs (xs.length : Int) i ys (ys.length : Int) (j : Int) x.f0 x.f1 x.f2 x.f3 x.f4) (if (ys.drop j).any (meets x) = true then false else r)
  | 0, j, e => by
    rw [List.drop_eq_nil_of_le (by omega), List.any_nil, if_neg (by simp)]
    refine Ev.step (fun k => ?_) h
    simp only [spec_l16Good.l1]; rw [if_neg (by omega)]
  | d + 1, j, e => by
    have hj : j < ys.length := by omega
    rw [List.drop_eq_getElem_cons hj, List.any_cons]
    refine Ev.step (spec_l1_step xs ys hy i x j hj) ?_
    cases hm : meets x ys[j] with
    | true => rw [Bool.true_or, if_pos rfl]; exact Ev.ite_pos rfl (Ev.now _)
    | false => rw [Bool.false_or]; exact Ev.ite_neg (by simp) (inner_spec xs ys hy i x r h d (j + 1) (by omega))
theorem inner_impl (xs ys : List S77) (hy : ys.length ≤ 1048576) (i : Int) (x : S77) (r : Bool) (h : Ev (fun k => impl_GoodHistory.l0 k xs xs (xs.length : Int) (wrap64 (i + 1))) r) : ∀ d j : Nat, j + d = ys.length →
    Ev (fun k => impl_GoodHistory.l1 k xs xs (xs.length : Int) i ys (ys.length : Int) (j : Int) x.f0 x.f1 x.f2 x.f3 x.f4) (if (ys.drop j).any (meets x) = true then false else r)
  | 0, j, e => by
    rw [List.drop_eq_nil_of_le (by omega), List.any_nil, if_neg (by simp)]
    refine Ev.step (fun k => ?_) h
    simp only [impl_GoodHistory.l1]; rw [if_neg (by omega)]
  | d + 1, j, e => by
    have hj : j < ys.length := by omega
    rw [List.drop_eq_getElem_cons hj, List.any_cons]
    refine Ev.step (impl_l1_step xs ys hy i x j hj) ?_
    cases hm : meets x ys[j] with
    | true => rw [Bool.true_or, if_pos rfl]; exact Ev.ite_pos rfl (Ev.now _)
    | false => rw [Bool.false_or]; exact Ev.ite_neg (by simp) (inner_impl xs ys hy i x r h d (j + 1) (by omega))
theorem outer_spec (xs : List S77) (hx : xs.length ≤ 1048576) : ∀ d i : Nat, i + d = xs.length → Ev (fun k => spec_l16Good.l0 k xs xs (xs.length : Int) (i : Int)) (goodR xs d i)
  | 0, i, h => by
    refine Ev.step (f := fun _ => some (decide ((xs.length : Int) ≤ 8))) (fun k => ?_) (Ev.now _)
    simp only [spec_l16Good.l0]; rw [if_neg (by omega)]
  | d + 1, i, h => by
    have hi : i < xs.length := by omega
    have eg : xs.getD i z77 = xs[i] := by simp [hi]
    unfold goodR
    rw [eg]
    refine Ev.step (spec_l0_step xs hx i hi) ?_
    cases hb : badC xs[i] with
    | true =>
      refine Ev.step (f := fun _ => some false) (fun k => ?_) (Ev.now _)
      simp only [spec_l16Good.j1]; rw [if_pos trivial]
    | false =>
      have hl : (xs.take i).length = i := by simp; omega
      have ih := outer_spec xs hx d (i + 1) (by omega)
      have q := inner_spec xs (xs.take i) (by omega) (i : Int) xs[i] (goodR xs d (i + 1)) (by rw [wrap_id (n := (i : Int) + 1) (by omega) (by omega)]; exact ih) i 0 (by omega)
      rw [List.drop_zero] at q
      rw [if_neg (by simp)]
      refine Ev.step (fun k => ?_) q
      simp only [spec_l16Good.j1]
      rw [if_neg (by simp), if_pos (by omega), if_pos (by omega), Int.toNat_natCast, Option.bind_some]
      rfl
theorem outer_impl (xs : List S77) (hx : xs.length ≤ 1048576) : ∀ d i : Nat, i + d = xs.length → Ev (fun k => impl_GoodHistory.l0 k xs xs (xs.length : Int) (i : Int)) (goodR xs d i)
  | 0, i, h => by
    refine Ev.step (f := fun _ => some (decide ((xs.length : Int) ≤ 8))) (fun k => ?_) (Ev.now _)
    simp only [impl_GoodHistory.l0]; rw [if_neg (by omega)]
  | d + 1, i, h => by
    have hi : i < xs.length := by omega
    have eg : xs.getD i z77 = xs[i] := by simp [hi]
    unfold goodR
    rw [eg]
    refine Ev.step (impl_l0_step xs hx i hi) ?_
    cases hb : badC xs[i] with
    | true =>
      refine Ev.step (f := fun _ => some false) (fun k => ?_) (Ev.now _)
      simp only [impl_GoodHistory.j1]; rw [if_pos trivial]
    | false =>
      have hl : (xs.take i).length = i := by simp; omega
      have ih := outer_impl xs hx d (i + 1) (by omega)
      have q := inner_impl xs (xs.take i) (by omega) (i : Int) xs[i] (goodR xs d (i + 1)) (by rw [wrap_id (n := (i : Int) + 1) (by omega) (by omega)]; exact ih) i 0 (by omega)
      rw [List.drop_zero] at q
      rw [if_neg (by simp)]
      refine Ev.step (fun k => ?_) q
      simp only [impl_GoodHistory.j1]
      rw [if_neg (by simp), if_pos (by omega), if_pos (by omega), Int.toNat_natCast, Option.bind_some]
      rfl
def goodH (xs : List S77) : Bool := goodR xs xs.length 0
theorem spec_good (xs : List S77) (hx : xs.length ≤ 1048576) : Ev (fun k => spec_l16Good.f k xs) (goodH xs) := outer_spec xs hx xs.length 0 (by omega)
theorem impl_good (xs : List S77) (hx : xs.length ≤ 1048576) : Ev (fun k => impl_GoodHistory.f k xs) (goodH xs) := outer_impl xs hx xs.length 0 (by omega)
theorem sameFloat_ev {x y : Nat} (hx : x < 18446744073709551616) (hy : y < 18446744073709551616) : Ev (fun k => laws_sameFloat.f k x y) (if isNan x = true then isNan y else decide (isNan y = false ∧ x = y)) := by
  simp only [laws_sameFloat.f, feq_self]
  cases hn : isNan x with
  | true =>
    rw [if_pos rfl]
    refine Ev.ite_neg (by simp) (Ev.step (f := fun _ => some (isNan y)) (fun k => ?_) (Ev.now _))
    simp only [laws_sameFloat.j0, feq_self, hn]; rw [if_pos trivial, if_neg (by simp)]; cases isNan y <;> rfl
  | false =>
    rw [if_neg (by simp)]
    refine Ev.ite_pos rfl ?_
    refine Ev.step (f := fun _ => some (decide (isNan y = false ∧ x = y))) (fun k => ?_) (Ev.now _)
    simp only [laws_sameFloat.j0, feq_self, hn]
    cases hm : isNan y with
    | true => simp
    | false =>
      rw [if_neg (by simp), feq_eq hn nan_zero, feq_eq hm nan_zero, feq_eq hn hm, key_zero]
      simp only [decide_eq_true_eq, true_and]
      by_cases h0 : key x = 0
      · rw [if_pos h0]
        by_cases h1 : key y = 0
        · rw [if_pos h1]
          rcases zero_cases hx (key_rg_zero.mp h0) with rfl | rfl <;> rcases zero_cases hy (key_rg_zero.mp h1) with rfl | rfl
          · rw [if_pos inv_pz.1, if_pos inv_pz.1, inv_pz.2.2]; rfl
          · rw [if_pos inv_pz.1, if_pos inv_nz.1, inv_pz.2.2, inv_nz.2.2]; rfl
          · rw [if_pos inv_nz.1, if_pos inv_pz.1, inv_pz.2.2, inv_nz.2.2]; rfl
          · rw [if_pos inv_nz.1, if_pos inv_nz.1, inv_nz.2.2]; rfl
        · rw [if_neg h1]
          congr 1
          rw [decide_eq_decide]
          exact ⟨fun q => absurd (q ▸ h0) h1, fun q => by rw [q]⟩
      · rw [if_neg h0]
        congr 1
        rw [decide_eq_decide]
        exact ⟨fun q => key_inj hx hy (fun z => h0 (key_rg_zero.mpr z)) q, fun q => by rw [q]⟩
theorem sameFloat_refl (x : Nat) (hx : x < 18446744073709551616) : Ev (fun k => laws_sameFloat.f k x x) true := by
  have h := sameFloat_ev hx hx
  cases hn : isNan x <;> rw [hn] at h <;> simpa using h
def cvC (x : S79) : S77 := ⟨x.f0, x.f1, x.f2, x.f3, x.f4⟩
theorem toCallS_ev (xs : List S79) (hx : xs.length ≤ 1048576) : Ev (fun k => laws_toCallS.f k xs) (xs.map cvC) := by
  refine Ev.congr (fun k => ?_) (ev_map_all (fun k acc i => laws_toCallS.l0 k xs acc i) xs cvC z79 z77 (fun i acc r hi ha h => ?_) (fun acc ha => ?_))
  · simp only [laws_toCallS.f]
    rw [if_pos (by omega), if_pos (by simp only [Int.toNat_natCast]; omega)]
    simp only [Int.toNat_natCast]
  · refine Ev.step (fun k => ?_) h
    simp only [laws_toCallS.l0, laws_toCall.f, Option.bind_some]
    rw [if_pos (by omega), if_pos (by omega), if_pos (by omega), wrap_id (n := (i : Int) + 1) (by omega) (by omega)]
    rfl
  · refine Ev.step (f := fun _ => some acc) (fun k => ?_) (Ev.now _)
    simp only [laws_toCallS.l0]; rw [if_neg (by omega)]
theorem eqCall_refl (x : S77) (hx : x.f4 < 18446744073709551616) : Ev (fun k => laws_eqCall.f k x.f0 x.f1 x.f2 x.f3 x.f4 x.f0 x.f1 x.f2 x.f3 x.f4) true := by
  simp only [laws_eqCall.f]
  exact Ev.ite_pos trivial (Ev.ite_pos trivial (Ev.ite_pos trivial (Ev.ite_neg (by simp) (Ev.bind (sameFloat_refl x.f4 hx) (Ev.ite_pos rfl (Ev.now _))))))
theorem eqCallS_ev (xs : List S77) (hx : xs.length ≤ 1048576) (hf : ∀ x ∈ xs, x.f4 < 18446744073709551616) : Ev (fun k => laws_eqCallS.f k xs xs) true := by
  have h := ev_up (fun k i => laws_eqCallS.l0 k xs xs i) xs.length true (fun i hi h => ?_) ?_ xs.length 0 (by omega)
  · refine Ev.congr (fun k => ?_) h
    simp only [laws_eqCallS.f]; rw [if_pos trivial]; rfl
  · have hr : rd_T77 xs (i : Int) = xs[i] := by simp [rd_T77, hi]
    refine Ev.step (f := fun k => (laws_eqCall.f k (xs[i]).f0 (xs[i]).f1 (xs[i]).f2 (xs[i]).f3 (xs[i]).f4 (xs[i]).f0 (xs[i]).f1 (xs[i]).f2 (xs[i]).f3 (xs[i]).f4).bind fun t => if t = true then laws_eqCallS.l0 k xs xs ((i + 1 : Nat) : Int) else some false) (fun k => ?_) (Ev.bind (eqCall_refl _ (hf _ (List.getElem_mem _))) (Ev.ite_pos rfl h))
    simp only [laws_eqCallS.l0]
    rw [if_pos (by omega), if_pos (by omega), if_pos (by omega), wrap_id (n := (i : Int) + 1) (by omega) (by omega), hr]
    rfl
  · refine Ev.step (f := fun _ => some true) (fun k => ?_) (Ev.now _)
    simp only [laws_eqCallS.l0]; rw [if_neg (by omega)]
theorem szCallS_eq (ys : List S79) (hb : ys.length * 40 ≤ 140737488351232) : laws_szCallS.f ys 1048576 = some (if 1048576 - (ys.length : Int) < 0 then -1 else 1048576 - (ys.length : Int)) := by
  simp only [laws_szCallS.f]
  rw [wrap_id (by omega) (by omega)]
  split <;> rfl
theorem callS_fl (ys : List S79) (h : okL ok79 ys) : ∀ x ∈ ys.map cvC, x.f4 < 18446744073709551616 := by
  intro x hx
  obtain ⟨y, hy, rfl⟩ := List.mem_map.mp hx
  exact (h.2 y hy).2.2.2.2
theorem nan_quo : fdivOk 0 0 = false := by kernel_rfl
theorem clone_fl (L : List Nat) (h : L.length ≤ 1048576) : slices_Clone_float64_float64.f L = some L := by
  simp only [slices_Clone_float64_float64.f, Option.bind_some]; rw [if_pos (by simp; omega)]; rfl
def flL (x : List Nat) : Prop := ∀ a ∈ x, a < 18446744073709551616
theorem flL.snoc {x : List Nat} {a : Nat} (h : flL x) (ha : a < 18446744073709551616) : flL (x ++ [a]) := fun b hb => by
  rcases List.mem_append.mp hb with q | q
  · exact h b q
  · rw [List.mem_singleton.mp q]; exact ha
theorem play_loop (kind : Int) (hk : kind = 1 ∨ kind = 2) (hs : List S77) (hv : ∀ c ∈ hs, c.f4 < 18446744073709551616) (xs : List Int) (hb : ∀ x ∈ xs, 0 ≤ x ∧ x < (hs.length : Int)) (hl : xs.length ≤ 1048576) :
    ∀ (d i : Nat) (x7 x8 : List Nat) (x9 : Nat) (L : List Nat), i + d = xs.length → x7.length = i → x8.length ≤ i → (kind = 1 → L = [x9]) → (kind = 2 → L = x8) → flL x7 → flL x8 → x9 < 18446744073709551616 →
    ∃ T : List Nat, T.length = xs.length ∧ flL T ∧ Ev (fun k => spec_l16Play.l0 k kind hs x7 x8 x9 xs (xs.length : Int) (i : Int)) T ∧ Ev (fun k => impl_toldBy.l0 k hs x7 xs (xs.length : Int) (i : Int) kind L) T
  | 0, i, x7, x8, x9, L, h, h7, h8, k1, k2, f7, f8, f9 => by
    refine ⟨x7, by omega, f7, Ev.step (f := fun _ => some x7) (fun k => ?_) (Ev.now _), Ev.step (f := fun _ => some x7) (fun k => ?_) (Ev.now _)⟩
    · simp only [spec_l16Play.l0]; rw [if_neg (by omega)]
    · simp only [impl_toldBy.l0]; rw [if_neg (by omega)]
  | d + 1, i, x7, x8, x9, L, h, h7, h8, k1, k2, f7, f8, f9 => by
    have hi : i < xs.length := by omega
    have e0 : rd xs (i : Int) = xs[i] := by rw [rd_nat]; simp [hi]
    obtain ⟨b0, b1⟩ := hb xs[i] (List.getElem_mem hi)
    have hw : wrap64 ((i : Int) + 1) = ((i + 1 : Nat) : Int) := by rw [wrap_id] <;> omega
    have hc : rd_T77 hs xs[i] ∈ hs := by
      have : xs[i].toNat < hs.length := by omega
      simp only [rd_T77, List.getD_eq_getElem?_getD, List.getElem?_eq_getElem this, Option.getD_some]
      exact List.getElem_mem this
    have hf := hv _ hc
    have istep : ∀ (v : Nat) (L' T : List Nat), Ev (fun k => impl_object_play.f k kind L (rd_T77 hs xs[i]).f0 (rd_T77 hs xs[i]).f1 (rd_T77 hs xs[i]).f2 (rd_T77 hs xs[i]).f3 (rd_T77 hs xs[i]).f4) (v, kind, L') →
        Ev (fun k => impl_toldBy.l0 k hs (x7 ++ [v]) xs (xs.length : Int) ((i + 1 : Nat) : Int) kind L') T → Ev (fun k => impl_toldBy.l0 k hs x7 xs (xs.length : Int) (i : Int) kind L) T := by
      intro v L' T hp hr
      refine Ev.step (f := fun k => (impl_object_play.f k kind L (rd_T77 hs xs[i]).f0 (rd_T77 hs xs[i]).f1 (rd_T77 hs xs[i]).f2 (rd_T77 hs xs[i]).f3 (rd_T77 hs xs[i]).f4).bind fun bt => impl_toldBy.l0 k hs (x7 ++ [bt.1]) xs (xs.length : Int) ((i + 1 : Nat) : Int) bt.2.1 bt.2.2) (fun k => ?_) (Ev.bind hp hr)
      simp only [impl_toldBy.l0, e0, hw]
      rw [if_pos (by omega), if_pos (by omega), if_pos (by omega), if_pos b0, if_pos b1]
      congr 1
      funext bt
      rw [if_pos (by omega)]
    have sstep : ∀ k, spec_l16Play.l0 (k + 1) kind hs x7 x8 x9 xs (xs.length : Int) (i : Int) = if (rd_T77 hs xs[i]).f3 = true then spec_l16Play.l0 k kind hs (x7 ++ [(rd_T77 hs xs[i]).f4]) (x8 ++ [(rd_T77 hs xs[i]).f4]) (rd_T77 hs xs[i]).f4 xs (xs.length : Int) ((i + 1 : Nat) : Int) else if kind = 1 then spec_l16Play.l0 k kind hs (x7 ++ [x9]) x8 x9 xs (xs.length : Int) ((i + 1 : Nat) : Int) else if (x8.length : Int) = 0 then spec_l16Play.l0 k kind hs (x7 ++ [9221120237041090561]) x8 x9 xs (xs.length : Int) ((i + 1 : Nat) : Int) else spec_l16Play.l0 k kind hs (x7 ++ [rdOf (0 : Nat) x8 0]) (x8.drop 1) x9 xs (xs.length : Int) ((i + 1 : Nat) : Int) := by
      intro k
      simp only [spec_l16Play.l0, e0, hw]
      rw [if_pos (by omega), if_pos (by omega), if_pos (by omega), if_pos b0, if_pos b1]
      simp only [if_pos (show x8.length < 17592186044416 by omega), if_pos (show x7.length < 17592186044416 by omega), if_pos nan_quo]
      by_cases c : (x8.length : Int) = 0
      · rw [if_pos c, if_pos c]
      · rw [if_neg c, if_neg c, if_pos (show 0 < (x8.length : Int) by omega), if_pos (show 1 ≤ (x8.length : Int) by omega)]; rfl
    generalize rd_T77 hs xs[i] = c at istep sstep hf
    by_cases hp : c.f3 = true
    · have sst : ∀ k, spec_l16Play.l0 (k + 1) kind hs x7 x8 x9 xs (xs.length : Int) (i : Int) = spec_l16Play.l0 k kind hs (x7 ++ [c.f4]) (x8 ++ [c.f4]) c.f4 xs (xs.length : Int) ((i + 1 : Nat) : Int) := fun k => by rw [sstep, if_pos hp]
      rcases hk with rfl | rfl
      · obtain ⟨T, t1, t2, t3, t4⟩ := play_loop 1 (.inl rfl) hs hv xs hb hl d (i + 1) (x7 ++ [c.f4]) (x8 ++ [c.f4]) c.f4 [c.f4] (by omega) (by simp [h7]) (by simp; omega) (fun _ => rfl) (fun q => by omega) (f7.snoc hf) (f8.snoc hf) hf
        refine ⟨T, t1, t2, Ev.step sst t3, istep c.f4 [c.f4] T ?_ t4⟩
        refine Ev.step (f := fun _ => some (c.f4, 1, [c.f4])) (fun k => ?_) (Ev.now _)
        simp only [impl_object_play.f, impl_object_play.j0, hp]; rw [if_pos trivial, if_pos trivial]
      · obtain rfl := k2 rfl
        obtain ⟨T, t1, t2, t3, t4⟩ := play_loop 2 (.inr rfl) hs hv xs hb hl d (i + 1) (x7 ++ [c.f4]) (L ++ [c.f4]) c.f4 (L ++ [c.f4]) (by omega) (by simp [h7]) (by simp; omega) (fun q => by omega) (fun _ => rfl) (f7.snoc hf) (f8.snoc hf) hf
        refine ⟨T, t1, t2, Ev.step sst t3, istep c.f4 (L ++ [c.f4]) T ?_ t4⟩
        refine Ev.step (f := fun _ => some (c.f4, 2, L ++ [c.f4])) (fun k => ?_) (Ev.now _)
        simp only [impl_object_play.f, impl_object_play.j0, hp, clone_fl L (by omega), Option.bind_some]; rw [if_neg (by omega), if_neg (by simp), if_neg (by omega), if_pos trivial, if_pos (by simp; omega)]
    · have hp' : c.f3 = false := by simpa using hp
      rcases hk with rfl | rfl
      · obtain rfl := k1 rfl
        have sst : ∀ k, spec_l16Play.l0 (k + 1) 1 hs x7 x8 x9 xs (xs.length : Int) (i : Int) = spec_l16Play.l0 k 1 hs (x7 ++ [x9]) x8 x9 xs (xs.length : Int) ((i + 1 : Nat) : Int) := fun k => by rw [sstep, if_neg hp, if_pos (rfl : (1 : Int) = 1)]
        obtain ⟨T, t1, t2, t3, t4⟩ := play_loop 1 (.inl rfl) hs hv xs hb hl d (i + 1) (x7 ++ [x9]) x8 x9 [x9] (by omega) (by simp [h7]) (by omega) (fun _ => rfl) (fun q => by omega) (f7.snoc f9) f8 f9
        refine ⟨T, t1, t2, Ev.step sst t3, istep x9 [x9] T ?_ t4⟩
        refine Ev.step (f := fun _ => some (x9, 1, [x9])) (fun k => ?_) (Ev.now _)
        simp only [impl_object_play.f, impl_object_play.j0, hp']; rw [if_pos trivial, if_neg (by simp), if_pos trivial, if_pos (by simp)]; rfl
      · obtain rfl := k2 rfl
        by_cases ce : (L.length : Int) = 0
        · have sst : ∀ k, spec_l16Play.l0 (k + 1) 2 hs x7 L x9 xs (xs.length : Int) (i : Int) = spec_l16Play.l0 k 2 hs (x7 ++ [9221120237041090561]) L x9 xs (xs.length : Int) ((i + 1 : Nat) : Int) := fun k => by rw [sstep, if_neg hp, if_neg (by omega), if_pos ce]
          obtain ⟨T, t1, t2, t3, t4⟩ := play_loop 2 (.inr rfl) hs hv xs hb hl d (i + 1) (x7 ++ [9221120237041090561]) L x9 L (by omega) (by simp [h7]) (by omega) (fun q => by omega) (fun _ => rfl) (f7.snoc (by omega)) f8 f9
          refine ⟨T, t1, t2, Ev.step sst t3, istep 9221120237041090561 L T ?_ t4⟩
          refine Ev.step (f := fun _ => some (9221120237041090561, 2, L)) (fun k => ?_) (Ev.now _)
          simp only [impl_object_play.f, impl_object_play.j0, hp', math_NaN.f, Option.bind_some]; rw [if_neg (by omega), if_neg (by simp), if_neg (by omega), if_neg (by simp), if_pos ce]; rfl
        · have hz : rdOf (0 : Nat) L 0 < 18446744073709551616 := by
            have hp : 0 < L.length := by omega
            have : rdOf (0 : Nat) L 0 = L[0] := by simp [rdOf, hp]
            rw [this]; exact f8 _ (List.getElem_mem hp)
          have sst : ∀ k, spec_l16Play.l0 (k + 1) 2 hs x7 L x9 xs (xs.length : Int) (i : Int) = spec_l16Play.l0 k 2 hs (x7 ++ [rdOf (0 : Nat) L 0]) (L.drop 1) x9 xs (xs.length : Int) ((i + 1 : Nat) : Int) := fun k => by rw [sstep, if_neg hp, if_neg (by omega), if_neg ce]
          obtain ⟨T, t1, t2, t3, t4⟩ := play_loop 2 (.inr rfl) hs hv xs hb hl d (i + 1) (x7 ++ [rdOf (0 : Nat) L 0]) (L.drop 1) x9 (L.drop 1) (by omega) (by simp [h7]) (by simp; omega) (fun q => by omega) (fun _ => rfl) (f7.snoc hz) (fun a ha => f8 a (List.mem_of_mem_drop ha)) f9
          refine ⟨T, t1, t2, Ev.step sst t3, istep (rdOf (0 : Nat) L 0) (L.drop 1) T ?_ t4⟩
          refine Ev.step (f := fun _ => some (rdOf (0 : Nat) L 0, 2, L.drop 1)) (fun k => ?_) (Ev.now _)
          simp only [impl_object_play.f, impl_object_play.j0, hp']; rw [if_neg (by omega), if_neg (by simp), if_neg (by omega), if_neg (by simp), if_neg ce, if_pos (by omega), if_pos (by omega)]
theorem play_same (kind : Int) (hk : kind = 1 ∨ kind = 2) (hs : List S77) (hv : ∀ c ∈ hs, c.f4 < 18446744073709551616) (xs : List Int) (hb : ∀ x ∈ xs, 0 ≤ x ∧ x < (hs.length : Int)) (hl : xs.length ≤ 1048576) :
    ∃ T : List Nat, T.length = xs.length ∧ flL T ∧ Ev (fun k => spec_l16Play.f k kind hs xs) T ∧ Ev (fun k => impl_toldBy.f k kind hs xs) T := by
  rcases hk with rfl | rfl
  · obtain ⟨T, t1, t2, t3, t4⟩ := play_loop 1 (.inl rfl) hs hv xs hb hl xs.length 0 [] [] 0 [0] (by omega) rfl (by simp) (fun _ => rfl) (fun q => by omega) (fun _ h => by simp at h) (fun _ h => by simp at h) (by omega)
    refine ⟨T, t1, t2, t3, ?_⟩
    simp only [impl_toldBy.f, impl_newObject.f]
    rw [if_pos trivial]
    exact t4
  · obtain ⟨T, t1, t2, t3, t4⟩ := play_loop 2 (.inr rfl) hs hv xs hb hl xs.length 0 [] [] 0 [] (by omega) rfl (by simp) (fun q => by omega) (fun _ => rfl) (fun _ h => by simp at h) (fun _ h => by simp at h) (by omega)
    refine ⟨T, t1, t2, t3, ?_⟩
    simp only [impl_toldBy.f, impl_newObject.f]
    rw [if_neg (by omega)]
    exact t4
/-- The rows of marks that a law writes: n places, each taking c marks. -/
def marksC {α : Type} (m : Int → α) (c : Int) (a : Int) : Nat → List α
  | 0 => []
  | n + 1 => m a :: marksC m c (a + c) n
theorem marksC_length {α : Type} (m : Int → α) (c a : Int) (n : Nat) : (marksC m c a n).length = n := by
  induction n generalizing a with
  | zero => rfl
  | succ n ih => simp [marksC, ih]
theorem marksC_getD {α : Type} (m : Int → α) (z : α) (c a : Int) (n i : Nat) (h : i < n) : (marksC m c a n).getD i z = m (a + c * i) := by
  induction n generalizing a i with
  | zero => omega
  | succ n ih =>
    cases i with
    | zero => simp [marksC]
    | succ i =>
      have := ih (a + c) i (by omega)
      simp only [marksC, List.getD_cons_succ]
      rw [this]
      congr 1
      rw [Int.natCast_add, Int.mul_add]
      simp
      omega
/-- A loop that marks a row: m tells what is written, c how many marks a place takes. -/
theorem ev_mark {α : Type} (L : Nat → List α → Int → Int → Option (Int × List α)) (m : Int → α) (c : Int) (n : Nat) (lim : Int) (hc : 0 ≤ c)
    (hs : ∀ (i : Nat) (xs : List α) (a : Int) (r : Int × List α), i < n → xs.length = n → 0 ≤ a → a + c ≤ lim → Ev (fun k => L k (xs.set i (m a)) (a + c) ((i + 1 : Nat) : Int)) r → Ev (fun k => L k xs a (i : Int)) r)
    (he : ∀ (xs : List α) (a : Int), xs.length = n → Ev (fun k => L k xs a (n : Int)) (a, xs)) :
    ∀ (d i : Nat) (xs : List α) (a : Int), i + d = n → xs.length = n → 0 ≤ a → a + c * (d : Int) ≤ lim → Ev (fun k => L k xs a (i : Int)) (a + c * (d : Int), xs.take i ++ marksC m c a d)
  | 0, i, xs, a, h, hl, h0, h1 => by
    have e : xs.take i ++ marksC m c a 0 = xs := by rw [List.take_of_length_le (by omega), marksC, List.append_nil]
    rw [e]
    have : i = n := by omega
    subst this
    simpa using he xs a hl
  | d + 1, i, xs, a, h, hl, h0, h1 => by
    have hcd : c * ((d + 1 : Nat) : Int) = c + c * (d : Int) := by rw [Int.natCast_add, Int.mul_add]; simp; omega
    have hnn : 0 ≤ c * (d : Int) := Int.mul_nonneg hc (by omega)
    have ih := ev_mark L m c n lim hc hs he d (i + 1) (xs.set i (m a)) (a + c) (by omega) (by simpa using hl) (by omega) (by omega)
    have e : (xs.set i (m a)).take (i + 1) ++ marksC m c (a + c) d = xs.take i ++ marksC m c a (d + 1) := by
      rw [List.take_succ_eq_append_getElem (by simp; omega), List.getElem_set_self, List.take_set, List.set_eq_of_length_le (by simp; omega), List.append_assoc]
      rfl
    rw [e, show a + c + c * (d : Int) = a + c * ((d + 1 : Nat) : Int) from by omega] at ih
    exact hs i xs a _ (by omega) hl h0 (by omega) ih
theorem ev_mark_all {α : Type} (L : Nat → List α → Int → Int → Option (Int × List α)) (m : Int → α) (c : Int) (lim : Int) (hc : 0 ≤ c) (xs : List α)
    (hs : ∀ (i : Nat) (ys : List α) (a : Int) (r : Int × List α), i < xs.length → ys.length = xs.length → 0 ≤ a → a + c ≤ lim → Ev (fun k => L k (ys.set i (m a)) (a + c) ((i + 1 : Nat) : Int)) r → Ev (fun k => L k ys a (i : Int)) r)
    (he : ∀ (ys : List α) (a : Int), ys.length = xs.length → Ev (fun k => L k ys a (xs.length : Int)) (a, ys)) (a : Int) (h0 : 0 ≤ a) (h1 : a + c * (xs.length : Int) ≤ lim) :
    Ev (fun k => L k xs a 0) (a + c * (xs.length : Int), marksC m c a xs.length) := by
  have h := ev_mark L m c xs.length lim hc hs he xs.length 0 xs a (by omega) rfl h0 h1
  simpa using h
/-- A loop that asks whether the marks are held. -/
theorem ev_held (L : Nat → Int → Int → Option Int) (c : Int) (n : Nat) (lim : Int) (a : Int) (hc : 0 ≤ c) (h0 : 0 ≤ a) (h1 : a + c * (n : Int) ≤ lim)
    (hs : ∀ (i : Nat) (r : Int), i < n → a + c * (i : Int) + c ≤ lim → Ev (fun k => L k (a + c * (i : Int) + c) ((i + 1 : Nat) : Int)) r → Ev (fun k => L k (a + c * (i : Int)) (i : Int)) r)
    (he : Ev (fun k => L k (a + c * (n : Int)) (n : Int)) (a + c * (n : Int))) :
    ∀ (d i : Nat), i + d = n → Ev (fun k => L k (a + c * (i : Int)) (i : Int)) (a + c * (n : Int))
  | 0, i, h => by
    have : i = n := by omega
    subst this
    exact he
  | d + 1, i, h => by
    have e : c * ((i + 1 : Nat) : Int) = c * (i : Int) + c := by rw [Int.natCast_add, Int.mul_add]; simp
    have ih := ev_held L c n lim a hc h0 h1 hs he d (i + 1) (by omega)
    rw [e, ← Int.add_assoc] at ih
    have hle : c * ((i + 1 : Nat) : Int) ≤ c * (n : Int) := Int.mul_le_mul_of_nonneg_left (by omega) hc
    exact hs i _ (by omega) (by omega) ih
theorem ev_held_all (L : Nat → Int → Int → Option Int) (c : Int) (n : Nat) (lim : Int) (a : Int) (hc : 0 ≤ c) (h0 : 0 ≤ a) (h1 : a + c * (n : Int) ≤ lim)
    (hs : ∀ (i : Nat) (r : Int), i < n → a + c * (i : Int) + c ≤ lim → Ev (fun k => L k (a + c * (i : Int) + c) ((i + 1 : Nat) : Int)) r → Ev (fun k => L k (a + c * (i : Int)) (i : Int)) r)
    (he : Ev (fun k => L k (a + c * (n : Int)) (n : Int)) (a + c * (n : Int))) : Ev (fun k => L k a 0) (a + c * (n : Int)) := by
  have h := ev_held L c n lim a hc h0 h1 hs he n 0 (by omega)
  simpa using h
theorem markIntS_l0 (n : Nat) (hn : n ≤ 1048576) : ∀ (d i : Nat) (xs : List Int) (a : Int), i + d = n → xs.length = n → 0 ≤ a → a + (d : Int) ≤ 5000000000000000000 →
    Ev (fun k => laws_markIntS.l0 k xs a (i : Int)) (a + d, xs.take i ++ iota a d)
  | 0, i, xs, a, h, hl, h0, h1 => by
    have e : xs.take i ++ iota a 0 = xs := by rw [List.take_of_length_le (by omega), iota, List.append_nil]
    rw [e]
    refine Ev.step (f := fun _ => some (a, xs)) (fun k => ?_) ⟨0, fun _ _ => by simp⟩
    simp only [laws_markIntS.l0]
    rw [if_neg (by omega)]
  | d + 1, i, xs, a, h, hl, h0, h1 => by
    have ih := markIntS_l0 n hn d (i + 1) (xs.set i a) (a + 1) (by omega) (by simpa using hl) (by omega) (by omega)
    have e : (xs.set i a).take (i + 1) ++ iota (a + 1) d = xs.take i ++ iota a (d + 1) := by
      rw [List.take_succ_eq_append_getElem (by simp; omega), List.getElem_set_self, List.take_set, List.set_eq_of_length_le (by simp; omega), List.append_assoc]
      rfl
    rw [e, show a + 1 + (d : Int) = a + ((d + 1 : Nat) : Int) from by omega] at ih
    refine Ev.step (fun k => ?_) ih
    simp only [laws_markIntS.l0]
    rw [if_pos (by omega), if_pos (by omega), wrap_id (by omega) (by omega), wrap_id (by omega) (by omega)]
    rfl
theorem markIntS_ev (xs : List Int) (a : Int) (hn : xs.length ≤ 1048576) (h0 : 0 ≤ a) (h1 : a ≤ 4611686018427387000) : Ev (fun k => laws_markIntS.f k xs a) (a + xs.length, iota a xs.length) := by
  have h := markIntS_l0 xs.length hn xs.length 0 xs a (by omega) rfl h0 (by omega)
  simp only [List.take_zero, List.nil_append] at h
  exact h
def markC (a : Int) : S77 := ⟨a, a + 1, a + 2, (Int.tmod (a + 3) 3 == 0), fofi (a + 4)⟩
theorem rdset (xs : List S77) (i : Nat) (h : i < xs.length) (u : S77) : rd_T77 (xs.set i u) (i : Int) = u := by
  simp [rd_T77, h]
theorem markCallS_ev (xs : List S77) (a : Int) (hn : xs.length ≤ 1048576) (h0 : 0 ≤ a) (h1 : a ≤ 1000) : Ev (fun k => laws_markCallS.f k xs a) (a + 5 * (xs.length : Int), marksC markC 5 a xs.length) := by
  refine ev_mark_all (fun k ys a i => laws_markCallS.l0 k ys a i) markC 5 100000000 (by omega) xs (fun i ys a r hi hl h0 h1 h => ?_) (fun ys a hl => ?_) a h0 (by omega)
  · refine Ev.step (fun k => ?_) h
    simp only [laws_markCallS.l0, Option.bind_some]
    have hi' : i < ys.length := by omega
    rw [if_pos (by omega), if_pos (by omega)]
    simp only [Int.toNat_natCast]
    simp only [rdset ys i hi', List.set_set]
    rw [wrap_id (n := a + 1) (by omega) (by omega), wrap_id (n := a + 1 + 1) (by omega) (by omega), wrap_id (n := a + 1 + 1 + 1) (by omega) (by omega), wrap_id (n := a + 1 + 1 + 1 + 1) (by omega) (by omega), wrap_id (n := a + 1 + 1 + 1 + 1 + 1) (by omega) (by omega), wrap_id (n := (i : Int) + 1) (by omega) (by omega)]
    have e2 : a + 1 + 1 = a + 2 := by omega
    have e3 : a + 1 + 1 + 1 = a + 3 := by omega
    have e4 : a + 1 + 1 + 1 + 1 = a + 4 := by omega
    have e5 : a + 1 + 1 + 1 + 1 + 1 = a + 5 := by omega
    rw [e5, e4, e3, e2]
    rfl
  · refine Ev.step (f := fun _ => some (a, ys)) (fun k => ?_) (Ev.now _)
    simp only [laws_markCallS.l0]
    rw [if_neg (by omega)]
theorem eqFloatS_ev (xs : List Nat) (hx : xs.length ≤ 1048576) (hf : ∀ x ∈ xs, x < 18446744073709551616) : Ev (fun k => laws_eqFloat64S.f k xs xs) true := by
  have h := ev_up (fun k i => laws_eqFloat64S.l0 k xs xs i) xs.length true (fun i hi h => ?_) ?_ xs.length 0 (by omega)
  · refine Ev.congr (fun k => ?_) h
    simp only [laws_eqFloat64S.f]; rw [if_pos trivial]; rfl
  · have hr : rdOf (0 : Nat) xs (i : Int) = xs[i] := by simp [rdOf, hi]
    refine Ev.step (f := fun k => (laws_sameFloat.f k xs[i] xs[i]).bind fun t => if t = true then laws_eqFloat64S.l0 k xs xs ((i + 1 : Nat) : Int) else some false) (fun k => ?_) (Ev.bind (sameFloat_refl xs[i] (hf _ (List.getElem_mem _))) (Ev.ite_pos rfl h))
    simp only [laws_eqFloat64S.l0]
    rw [if_pos (by omega), if_pos (by omega), if_pos (by omega), wrap_id (n := (i : Int) + 1) (by omega) (by omega), hr]
    rfl
  · refine Ev.step (f := fun _ => some true) (fun k => ?_) (Ev.now _)
    simp only [laws_eqFloat64S.l0]; rw [if_neg (by omega)]
theorem markFl_ev (xs : List Nat) (a : Int) (hn : xs.length ≤ 1048576) (h0 : 0 ≤ a) (h1 : a ≤ 1000) : Ev (fun k => laws_markFloat64S.f k xs a) (a + 1 * (xs.length : Int), marksC fofi 1 a xs.length) := by
  refine ev_mark_all (fun k ys a i => laws_markFloat64S.l0 k ys a i) fofi 1 100000000 (by omega) xs (fun i ys a r hi hl h0 h1 h => ?_) (fun ys a hl => ?_) a h0 (by omega)
  · refine Ev.step (fun k => ?_) h
    simp only [laws_markFloat64S.l0]
    rw [if_pos (by omega), if_pos (by omega), wrap_id (n := a + 1) (by omega) (by omega), wrap_id (n := (i : Int) + 1) (by omega) (by omega)]
    rfl
  · refine Ev.step (f := fun _ => some (a, ys)) (fun k => ?_) (Ev.now _)
    simp only [laws_markFloat64S.l0]
    rw [if_neg (by omega)]
theorem heldFl_ev (n : Nat) (a : Int) (hn : n ≤ 1048576) (h0 : 0 ≤ a) (h1 : a ≤ 1000) : Ev (fun k => laws_heldFloat64S.f k (marksC fofi 1 a n) a) (a + 1 * (n : Int)) := by
  refine ev_held_all (fun k b i => laws_heldFloat64S.l0 k (marksC fofi 1 a n) b i) 1 n 100000000 a (by omega) h0 (by omega) (fun i r hi hb h => ?_) ?_
  · refine Ev.step (fun k => ?_) h
    have hr : rdOf (0 : Nat) (marksC fofi 1 a n) (i : Int) = fofi (a + 1 * (i : Int)) := by
      have := marksC_getD fofi 0 1 a n i hi
      simpa [rdOf] using this
    have hq : feq (fofi (a + 1 * (i : Int))) (fofi (a + 1 * (i : Int))) = true := by rw [feq_self, (fofi_nan _).1]; rfl
    simp only [laws_heldFloat64S.l0, marksC_length, hr]
    rw [if_pos (by omega), if_pos (by omega), if_pos hq, wrap_id (n := a + 1 * (i : Int) + 1) (by omega) (by omega), wrap_id (n := (i : Int) + 1) (by omega) (by omega)]
    rfl
  · refine Ev.step (f := fun _ => some (a + 1 * (n : Int))) (fun k => ?_) (Ev.now _)
    simp only [laws_heldFloat64S.l0, marksC_length]
    rw [if_neg (by omega)]
theorem told_same (kind : Int) (hs : List S77) (xs : List Int) (hh : hs.length ≤ 1048576) (hl : xs.length ≤ 1048576) (fh : ∀ c ∈ hs, c.f4 < 18446744073709551616) :
    ∃ (T : List Nat) (b : Bool), T.length ≤ 1048576 ∧ flL T ∧ Ev (fun k => spec_PlayObject.f k kind hs xs) (T, b) ∧ Ev (fun k => impl_PlayObject.f k kind hs xs) (T, b) := by
  have hkd : (if kind = 1 then some true else some (kind == 2)) = some (kind == 1 || kind == 2) := by
    by_cases c : kind = 1
    · rw [if_pos c, c]; rfl
    · rw [if_neg c, show (kind == 1) = false from by simpa using c, Bool.false_or]
  simp only [spec_PlayObject.f, impl_PlayObject.f, spec_l16Kind.f, impl_isKind.f, hkd, Option.bind_some]
  have fn : flL [] := fun _ h => by simp at h
  by_cases ck : (kind == 1 || kind == 2) = true
  · have hk : kind = 1 ∨ kind = 2 := by simpa using ck
    cases hg : goodH hs with
    | false => exact ⟨[], false, by simp, fn, Ev.ite_pos ck (Ev.bind (spec_good hs hh) (Ev.ite_neg (by simp [hg]) (Ev.now _))), Ev.ite_pos ck (Ev.bind (impl_good hs hh) (Ev.ite_neg (by simp [hg]) (Ev.now _)))⟩
    | true =>
      obtain ⟨r, hr, o1, o2⟩ := order_char hs xs hh hl
      cases r with
      | false => exact ⟨[], false, by simp, fn, Ev.ite_pos ck (Ev.bind (spec_good hs hh) (Ev.ite_pos hg (Ev.bind o1 (Ev.ite_neg (by simp) (Ev.now _))))), Ev.ite_pos ck (Ev.bind (impl_good hs hh) (Ev.ite_pos hg (Ev.bind o2 (Ev.ite_neg (by simp) (Ev.now _)))))⟩
      | true =>
        obtain ⟨_, hb⟩ := hr rfl
        obtain ⟨T, t1, t2, t3, t4⟩ := play_same kind hk hs fh xs hb hl
        exact ⟨T, true, by omega, t2, Ev.ite_pos ck (Ev.bind (spec_good hs hh) (Ev.ite_pos hg (Ev.bind o1 (Ev.ite_pos rfl (Ev.bind t3 (Ev.now _)))))), Ev.ite_pos ck (Ev.bind (impl_good hs hh) (Ev.ite_pos hg (Ev.bind o2 (Ev.ite_pos rfl (Ev.bind t4 (Ev.now _))))))⟩
  · exact ⟨[], false, by simp, fn, Ev.ite_neg ck (Ev.now _), Ev.ite_neg ck (Ev.now _)⟩
theorem FnExactPlayObject : laws_FnExactPlayObject.Pure2 := by
  intro a0 ys xs _ hok hb _ _
  apply Ev.rounds
  simp only [laws_FnExactPlayObject.f]
  by_cases hx : (xs.length : Int) > 1048576
  · exact Ev.ite_pos hx (Ev.now _)
  · refine Ev.ite_neg hx (Ev.bind (Ev.const (szCallS_eq ys hb)) ?_)
    by_cases h : 1048576 - (ys.length : Int) < 0
    · rw [if_pos h]; exact Ev.ite_pos (by omega) (Ev.now _)
    · rw [if_neg h]
      refine Ev.ite_neg h ?_
      have ht := toCallS_ev ys (by omega)
      have hi := toIntS_ev xs (by omega)
      have hl : (ys.map cvC).length ≤ 1048576 := by simp; omega
      have hf := callS_fl ys hok
      obtain ⟨T, b, tl, tf, hs, hm⟩ := told_same a0 (ys.map cvC) xs hl (by omega) hf
      have he := eqFloatS_ev T tl tf
      have hc := eqCallS_ev _ hl hf
      have hq := eqIntS_ev xs (by omega)
      have hbb : (b != b) = false := by simp
      have hmc := markCallS_ev (ys.map cvC) 1 hl (by omega) (by omega)
      have hmi := markIntS_ev xs (1 + 5 * ((ys.map cvC).length : Int)) (by omega) (by omega) (by omega)
      have hmf := markFl_ev T 1 tl (by omega) (by omega)
      have hhf := heldFl_ev T.length 1 tl (by omega) (by omega)
      have hj2 : Ev (fun k => laws_FnExactPlayObject.j2 k (marksC fofi 1 1 T.length) (1 + 1 * (T.length : Int)) (b != b)) true := by
        rw [hbb]
        refine Ev.step (fun k => by simp only [laws_FnExactPlayObject.j2]; rw [if_neg (by simp)]) ?_
        exact Ev.bind hhf (Ev.ite_neg (by omega) (Ev.ite_pos rfl (Ev.now _)))
      have hj1 : Ev (fun k => laws_FnExactPlayObject.j1 k a0 ys xs T b T (b != b)) true := by
        rw [hbb]
        refine Ev.step (fun k => by simp only [laws_FnExactPlayObject.j1]; rw [if_neg (by simp)]) ?_
        exact Ev.bind hmf (Ev.bind hhf (Ev.ite_neg (by omega) (Ev.ite_pos rfl (Ev.bind ht (Ev.bind hi (Ev.bind hm (Ev.bind he (Ev.ite_pos rfl hj2))))))))
      have hj0 : Ev (fun k => laws_FnExactPlayObject.j0 k a0 ys xs T b (ys.map cvC) xs T b (b != b)) true := by
        rw [hbb]
        refine Ev.step (fun k => by simp only [laws_FnExactPlayObject.j0]; rw [if_neg (by simp)]) ?_
        exact Ev.bind ht (Ev.bind hc (Ev.ite_pos rfl (Ev.bind hi (Ev.bind hq (Ev.ite_pos rfl (Ev.bind hmc (Ev.bind hmi (Ev.ite_neg (by show ¬ (1 + 5 * ((ys.map cvC).length : Int) + (xs.length : Int) < 0); omega) (Ev.bind he (Ev.ite_pos rfl hj1))))))))))
      exact Ev.bind ht (Ev.bind hi (Ev.bind hs (Ev.bind ht (Ev.bind hi (Ev.bind hm (Ev.bind he (Ev.ite_pos rfl hj0)))))))

end Go.Proofs.Ythdpiceiemkjlaa.Pure

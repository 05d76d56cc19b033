/- The pure statement of FnExactCycleIn: the search by least numbers of steps to the goal and the search by ways find one cycle. -/
import Derived.Test.YtpfbiopcfbokbaaQFnExactCycleIn
import Derived.Test.YtpfbiopcfbokbaaMBase
import Derived.KernelRfl
set_option linter.unusedVariables false
set_option linter.unusedSimpArgs false
namespace Go.Proofs.Ytpfbiopcfbokbaa.Pure
open Go.RowKit Go.Proofs.Ytpfbiopcfbokbaa.GCycleIn Go.Proofs.YtpfbiopcfbokbaaW.PrintWords Go.Proofs.YtpfbiopcfbokbaaW.PrintLast Go.Proofs.YtpfbiopcfbokbaaW.PrintMore Go.Proofs.Ytpfbiopcfbokbaa.MBase
open CyH
/-- A loop that goes on to n with the same result. -/
theorem ev_up {α : Type} (L : Nat → Int → Option α) (n : Nat) (r : α) (hs : ∀ i : Nat, i < n → Ev (fun k => L k ((i + 1 : Nat) : Int)) r → Ev (fun k => L k (i : Int)) r) (he : Ev (fun k => L k (n : Int)) r) :
    ∀ d i : Nat, i + d = n → Ev (fun k => L k (i : Int)) r
  | 0, i, h => by
    have : i = n := by omega
    subst this
    exact he
  | d + 1, i, h => hs i (by omega) (ev_up L n r hs he d (i + 1) (by omega))
/-- A loop that fills a row, place by place. -/
theorem ev_map {α β : Type} (L : Nat → List β → Int → Option (List β)) (xs : List α) (f : α → β) (z : α)
    (hs : ∀ (i : Nat) (acc r : List β), i < xs.length → acc.length = xs.length → Ev (fun k => L k (acc.set i (f (xs.getD i z))) ((i + 1 : Nat) : Int)) r → Ev (fun k => L k acc (i : Int)) r)
    (he : ∀ acc : List β, acc.length = xs.length → Ev (fun k => L k acc (xs.length : Int)) acc) :
    ∀ (d i : Nat) (acc : List β), i + d = xs.length → acc.length = xs.length → Ev (fun k => L k acc (i : Int)) (acc.take i ++ (xs.drop i).map f)
  | 0, i, acc, h, ha => by
    have e : acc.take i ++ (xs.drop i).map f = acc := by rw [List.take_of_length_le (by omega), List.drop_eq_nil_of_le (by omega), List.map_nil, List.append_nil]
    rw [e]
    have : i = xs.length := by omega
    subst this
    exact he acc ha
  | d + 1, i, acc, h, ha => by
    have ih := ev_map L xs f z hs he d (i + 1) (acc.set i (f (xs.getD i z))) (by omega) (by simpa using ha)
    have e : (acc.set i (f (xs.getD i z))).take (i + 1) ++ (xs.drop (i + 1)).map f = acc.take i ++ (xs.drop i).map f := by
      rw [List.take_succ_eq_append_getElem (by simp; omega), List.getElem_set_self, List.take_set, List.set_eq_of_length_le (by simp; omega), List.append_assoc, List.drop_eq_getElem_cons (show i < xs.length by omega), List.map_cons]
      simp [List.getD_eq_getElem?_getD, List.getElem?_eq_getElem (show i < xs.length by omega)]
    rw [e] at ih
    exact hs i acc _ (by omega) ha ih
theorem ev_map_all {α β : Type} (L : Nat → List β → Int → Option (List β)) (xs : List α) (f : α → β) (z : α) (y : β)
    (hs : ∀ (i : Nat) (acc r : List β), i < xs.length → acc.length = xs.length → Ev (fun k => L k (acc.set i (f (xs.getD i z))) ((i + 1 : Nat) : Int)) r → Ev (fun k => L k acc (i : Int)) r)
    (he : ∀ acc : List β, acc.length = xs.length → Ev (fun k => L k acc (xs.length : Int)) acc) :
    Ev (fun k => L k (List.replicate xs.length y) 0) (xs.map f) := by
  have h := ev_map L xs f z hs he xs.length 0 (List.replicate xs.length y) (by omega) (by simp)
  simpa using h
theorem l1In_dec (a b c : Int) : spec_l1In.f a b c = some (decide (b ≤ a ∧ a ≤ c)) := by
  unfold spec_l1In.f
  by_cases h : b ≤ a
  · rw [if_pos h]; simp [h]
  · rw [if_neg h]; simp [h]
theorem in_dec (a b c : Int) : impl_in.f a b c = some (decide (b ≤ a ∧ a ≤ c)) := l1In_dec a b c
theorem eqIntS_l0 (xs : List Int) (hx : xs.length ≤ 1048576) : ∀ (d i : Nat), i + d = xs.length → Ev (fun k => laws_eqIntS.l0 k xs xs (i : Int)) true
  | 0, i, h => by
    refine Ev.step (f := fun _ => some true) (fun k => ?_) (Ev.now _)
    simp only [laws_eqIntS.l0]
    rw [if_neg (by omega)]
  | d + 1, i, h => by
    refine Ev.step (fun k => ?_) (eqIntS_l0 xs hx d (i + 1) (by omega))
    simp only [laws_eqIntS.l0]
    rw [if_pos (by omega), if_pos (by omega), if_pos (by omega), if_pos trivial, wrap_id (by omega) (by omega)]
    rfl
theorem eqIntS_ev (xs : List Int) (hx : xs.length ≤ 1048576) : Ev (fun k => laws_eqIntS.f k xs xs) true := by
  refine Ev.congr (fun k => ?_) (eqIntS_l0 xs hx xs.length 0 (by omega))
  simp only [laws_eqIntS.f]
  rw [if_pos trivial]
  rfl
def inB (lo hi x : Int) : Bool := decide (lo ≤ x ∧ x ≤ hi)
theorem all_loop (lo hi : Int) (xs : List Int) (hx : xs.length ≤ 1048576) : ∀ d i : Nat, i + d = xs.length → Ev (fun k => spec_l1All.l0 k lo hi xs (xs.length : Int) (i : Int)) ((xs.drop i).all (inB lo hi))
  | 0, i, h => by
    rw [List.drop_eq_nil_of_le (by omega)]
    refine Ev.step (f := fun _ => some true) (fun k => ?_) (Ev.now _)
    simp only [spec_l1All.l0]; rw [if_neg (by omega)]
  | d + 1, i, h => by
    have hil : i < xs.length := by omega
    rw [List.drop_eq_getElem_cons hil, List.all_cons]
    have hst : ∀ k, spec_l1All.l0 (k+1) lo hi xs (xs.length : Int) (i : Int) = if inB lo hi xs[i] = true then spec_l1All.l0 k lo hi xs (xs.length : Int) ((i + 1 : Nat) : Int) else some false := by
      intro k
      simp only [spec_l1All.l0, l1In_dec, Option.bind_some]
      rw [if_pos (by omega), if_pos (by omega), if_pos (by omega), rd_nat, wrap_id (n := (i : Int) + 1) (by omega) (by omega)]
      have : xs.getD i 0 = xs[i] := by simp [hil]
      rw [this]
      rfl
    cases hg : inB lo hi xs[i] with
    | true => rw [Bool.true_and]; exact Ev.step hst (Ev.ite_pos hg (all_loop lo hi xs hx d (i + 1) (by omega)))
    | false => rw [Bool.false_and]; exact Ev.step hst (Ev.ite_neg (by simp [hg]) (Ev.now _))
theorem has_loop (n : Int) (xs : List Int) (hx : xs.length ≤ 1048576) : ∀ d i : Nat, i + d = xs.length → Ev (fun k => spec_l1Has.l0 k n xs (xs.length : Int) (i : Int)) (decide (n ∈ xs.drop i))
  | 0, i, h => by
    rw [List.drop_eq_nil_of_le (by omega)]
    refine Ev.step (f := fun _ => some (decide (n ∈ ([] : List Int)))) (fun k => ?_) (Ev.now _)
    simp only [spec_l1Has.l0]; rw [if_neg (by omega)]; simp
  | d + 1, i, h => by
    have hi : i < xs.length := by omega
    rw [List.drop_eq_getElem_cons hi]
    have hst : ∀ k, spec_l1Has.l0 (k+1) n xs (xs.length : Int) (i : Int) = if xs[i] = n then some true else spec_l1Has.l0 k n xs (xs.length : Int) ((i + 1 : Nat) : Int) := by
      intro k
      simp only [spec_l1Has.l0]
      rw [if_pos (by omega), if_pos (by omega), if_pos (by omega), rd_nat, wrap_id (n := (i : Int) + 1) (by omega) (by omega)]
      have : xs.getD i 0 = xs[i] := by simp [hi]
      rw [this]
      rfl
    by_cases he : xs[i] = n
    · rw [decide_eq_true (by rw [he]; exact List.mem_cons_self)]
      exact Ev.step hst (Ev.ite_pos he (Ev.now _))
    · have e : decide (n ∈ xs[i] :: xs.drop (i + 1)) = decide (n ∈ xs.drop (i + 1)) := by
        rw [decide_eq_decide, List.mem_cons]
        exact ⟨fun q => q.resolve_left (fun z => he z.symm), Or.inr⟩
      rw [e]
      exact Ev.step hst (Ev.ite_neg he (has_loop n xs hx d (i + 1) (by omega)))
theorem sz_int (l : List Int) (m : Int) (h0 : 0 ≤ m) (h1 : m ≤ 1048576) (hl : l.length ≤ 9223372036854775807) : laws_szIntS.f l m = some (if m - (l.length : Int) < 0 then -1 else m - (l.length : Int)) := by
  simp only [laws_szIntS.f]
  rw [wrap_id (by omega) (by omega)]
  split <;> rfl
theorem toIntS_l0 (xs : List Int) (hx : xs.length ≤ 1048576) : ∀ (d i : Nat) (acc : List Int), i + d = xs.length → acc.length = xs.length →
    Ev (fun k => laws_toIntS.l0 k xs acc (i : Int)) (acc.take i ++ xs.drop i)
  | 0, i, acc, h, ha => by
    have e : acc.take i ++ xs.drop i = acc := by rw [List.take_of_length_le (by omega), List.drop_eq_nil_of_le (by omega), List.append_nil]
    rw [e]
    refine Ev.step (f := fun _ => some acc) (fun k => ?_) (Ev.now _)
    simp only [laws_toIntS.l0]
    rw [if_neg (by omega)]
  | d + 1, i, acc, h, ha => by
    have ih := toIntS_l0 xs hx d (i + 1) (acc.set i (xs.getD i 0)) (by omega) (by simpa using ha)
    rw [set_take_drop xs acc 0 i (by omega) ha] at ih
    refine Ev.step (fun k => ?_) ih
    simp only [laws_toIntS.l0]
    rw [if_pos (by omega), if_pos (by omega), if_pos (by omega), wrap_id (by omega) (by omega), rd_nat]
    rfl
theorem toIntS_ev (xs : List Int) (hx : xs.length ≤ 1048576) : Ev (fun k => laws_toIntS.f k xs) xs := by
  have h := toIntS_l0 xs hx xs.length 0 (List.replicate xs.length 0) (by omega) (by simp)
  simp only [List.take_zero, List.drop_zero, List.nil_append] at h
  refine Ev.congr (fun k => ?_) h
  simp only [laws_toIntS.f]
  rw [if_pos (by omega), if_pos (by simp only [Int.toNat_natCast]; omega)]
  simp only [Int.toNat_natCast]
  rfl
theorem markIntS_l0 (n : Nat) (hn : n ≤ 1048576) : ∀ (d i : Nat) (xs : List Int) (a : Int), i + d = n → xs.length = n → 0 ≤ a → a + (d : Int) ≤ 5000000000000000000 →
    Ev (fun k => laws_markIntS.l0 k xs a (i : Int)) (a + d, xs.take i ++ iota a d)
  | 0, i, xs, a, h, hl, h0, h1 => by
    have e : xs.take i ++ iota a 0 = xs := by rw [List.take_of_length_le (by omega), iota, List.append_nil]
    rw [e]
    refine Ev.step (f := fun _ => some (a, xs)) (fun k => ?_) ⟨0, fun _ _ => by simp⟩
    simp only [laws_markIntS.l0]
    rw [if_neg (by omega)]
  | d + 1, i, xs, a, h, hl, h0, h1 => by
    have ih := markIntS_l0 n hn d (i + 1) (xs.set i a) (a + 1) (by omega) (by simpa using hl) (by omega) (by omega)
    have e : (xs.set i a).take (i + 1) ++ iota (a + 1) d = xs.take i ++ iota a (d + 1) := by
      rw [List.take_succ_eq_append_getElem (by simp; omega), List.getElem_set_self, List.take_set, List.set_eq_of_length_le (by simp; omega), List.append_assoc]
      rfl
    rw [e, show a + 1 + (d : Int) = a + ((d + 1 : Nat) : Int) from by omega] at ih
    refine Ev.step (fun k => ?_) ih
    simp only [laws_markIntS.l0]
    rw [if_pos (by omega), if_pos (by omega), wrap_id (by omega) (by omega), wrap_id (by omega) (by omega)]
    rfl
theorem markIntS_ev (xs : List Int) (a : Int) (hn : xs.length ≤ 1048576) (h0 : 0 ≤ a) (h1 : a ≤ 4611686018427387000) : Ev (fun k => laws_markIntS.f k xs a) (a + xs.length, iota a xs.length) := by
  have h := markIntS_l0 xs.length hn xs.length 0 xs a (by omega) rfl h0 (by omega)
  simp only [List.take_zero, List.nil_append] at h
  exact h
theorem heldIntS_l0 (n : Nat) (hn : n ≤ 1048576) (a : Int) (h0 : 0 ≤ a) (h1 : a ≤ 4611686018427387000) : ∀ (d i : Nat), i + d = n →
    Ev (fun k => laws_heldIntS.l0 k (iota a n) (a + i) (i : Int)) (a + n)
  | 0, i, h => by
    obtain rfl : i = n := by omega
    refine Ev.step (f := fun _ => some (a + (i : Int))) (fun k => ?_) (Ev.now _)
    simp only [laws_heldIntS.l0, iota_length]
    rw [if_neg (by omega)]
  | d + 1, i, h => by
    refine Ev.step (fun k => ?_) (heldIntS_l0 n hn a h0 h1 d (i + 1) (by omega))
    simp only [laws_heldIntS.l0, iota_length]
    rw [if_pos (by omega), if_pos (by omega), if_pos (by rw [rd_nat, iota_getD _ _ _ (by omega)]), wrap_id (by omega) (by omega), wrap_id (by omega) (by omega), show a + (i : Int) + 1 = a + ((i + 1 : Nat) : Int) from by omega]
    rfl
theorem heldIntS_ev (n : Nat) (a : Int) (hn : n ≤ 1048576) (h0 : 0 ≤ a) (h1 : a ≤ 4611686018427387000) : Ev (fun k => laws_heldIntS.f k (iota a n) a) (a + n) := by
  have h := heldIntS_l0 n hn a h0 h1 n 0 (by omega)
  simp only [Int.ofNat_zero, Int.add_zero, Int.natCast_zero] at h
  exact h
namespace Cyc
def Walk (E : List (List Int)) : Nat → Int → Int → Prop
  | 0, a, b => a = b
  | k + 1, a, b => ∃ e, e ∈ E ∧ cySrc e = a ∧ Walk E k (cyDst e) b
theorem Walk.app {E : List (List Int)} {c : Int} {j : Nat} : ∀ {k : Nat} {a b : Int}, Walk E k a b → Walk E j b c → Walk E (k + j) a c
  | 0, a, b, h, h2 => by
    have h0 : a = b := h
    rw [h0, Nat.zero_add]; exact h2
  | k + 1, a, b, ⟨e, he, hs, hw⟩, h2 => by
    rw [Nat.add_right_comm]
    exact ⟨e, he, hs, Walk.app hw h2⟩
def Good (E : List (List Int)) : Prop := ∀ e ∈ E, 0 ≤ cySrc e ∧ cySrc e ≤ 99 ∧ 0 ≤ cyDst e ∧ cyDst e ≤ 99
def zs (out : List Int) : Nat := (out.filter (fun x => decide (x = 0))).length
def R (x : Int) : Prop := 0 ≤ x ∧ x ≤ 99
structure Inv (E : List (List Int)) (goal : Int) (i : Nat) (out qs : List Int) : Prop where
  len : out.length = 100
  pos : 0 < qs.length
  q0 : qs.getD 0 0 = goal
  rng : ∀ x ∈ qs, R x
  memq : ∀ x ∈ qs, x ≠ goal → 0 < cyO out x
  inq : ∀ v, R v → 0 < cyO out v → v ≠ goal → v ∈ qs
  wlk : ∀ v, R v → 0 < cyO out v → Walk E (cyO out v).toNat v goal
  mono : ∀ a b, a ≤ b → b < qs.length → cyFo goal out (qs.getD a 0) ≤ cyFo goal out (qs.getD b 0)
  idx : ∀ a, a < qs.length → cyFo goal out (qs.getD a 0) ≤ a
  top : ∀ v, R v → i < qs.length → cyO out v ≤ cyFo goal out (qs.getD i 0) + 1
  dn : ∀ a, a < i → a < qs.length → ∀ e ∈ E, cyDst e = qs.getD a 0 → 0 < cyO out (cySrc e) ∧ cyO out (cySrc e) ≤ cyFo goal out (qs.getD a 0) + 1
  cnt : qs.length + zs out ≤ 101
  nn : ∀ v, 0 ≤ cyO out v
  bd : ∀ v, cyO out v ≤ 1000
theorem wrap_small {x : Int} (h0 : 0 ≤ x) (h1 : x ≤ 1000) : wrap64 x = x := by unfold wrap64; omega
theorem o_set_same {out : List Int} {v a : Int} (hl : out.length = 100) (hv : R v) : cyO (out.set v.toNat a) v = a := by
  unfold cyO
  rw [List.getD_eq_getElem?_getD, List.getElem?_set_self (by unfold R at hv; omega), Option.getD_some]
theorem o_set_ne {out : List Int} {v u a : Int} (hv : R v) (hu : 0 ≤ u) (h : u ≠ v) : cyO (out.set v.toNat a) u = cyO out u := by
  unfold cyO
  rw [List.getD_eq_getElem?_getD, List.getElem?_set_ne (by unfold R at hv; omega), ← List.getD_eq_getElem?_getD]
theorem zs_set : ∀ (out : List Int) (k : Nat) (a : Int), k < out.length → out.getD k 0 = 0 → a ≠ 0 → zs (out.set k a) + 1 = zs out
  | [], k, a, h, _, _ => by simp at h
  | x :: r, 0, a, _, h0, ha => by
    have : x = 0 := by simpa using h0
    simp [zs, ha, this]
  | x :: r, k + 1, a, h, h0, ha => by
    have ih := zs_set r k a (by simpa using h) (by simpa using h0) ha
    unfold zs at ih ⊢
    simp only [List.set_cons_succ, List.filter_cons]
    by_cases hx : x = 0
    · simp [hx]; omega
    · simp [hx]; omega
theorem getD_mem {l : List Int} {a : Nat} (h : a < l.length) : l.getD a 0 ∈ l := by
  rw [List.getD_eq_getElem?_getD, List.getElem?_eq_getElem h, Option.getD_some]
  exact List.getElem_mem h
theorem getD_app {l t : List Int} {a : Nat} (h : a < l.length) : (l ++ t).getD a 0 = l.getD a 0 := by
  rw [List.getD_eq_getElem?_getD, List.getElem?_append_left h, ← List.getD_eq_getElem?_getD]
theorem getD_last {l : List Int} {x : Int} : (l ++ [x]).getD l.length 0 = x := by
  rw [List.getD_eq_getElem?_getD, List.getElem?_append_right (Nat.le_refl _)]; simp
/-- One edge that leads to q: its start is told. -/
theorem Inv.step {E : List (List Int)} {goal : Int} {i : Nat} {out qs : List Int} (hE : Good E) (hg : R goal) (h : Inv E goal i out qs) (hi : i < qs.length) {e : List Int} (he : e ∈ E) (hd : cyDst e = qs.getD i 0) (h0 : ¬ 0 < cyO out (cySrc e)) :
    let out' := out.set (cySrc e).toNat (wrap64 (cyFo goal out (qs.getD i 0) + 1)); let qs' := if cySrc e = goal then qs else qs ++ [cySrc e]
    Inv E goal i out' qs' ∧ cyO out' (cySrc e) = cyFo goal out (qs.getD i 0) + 1 ∧ (∀ v, R v → 0 < cyO out v → cyO out' v = cyO out v) ∧ (∀ a, a < qs.length → qs'.getD a 0 = qs.getD a 0 ∧ cyFo goal out' (qs.getD a 0) = cyFo goal out (qs.getD a 0)) ∧ qs.length ≤ qs'.length := by
  intro out' qs'
  have hz : cyO out (cySrc e) = 0 := by have := h.nn (cySrc e); omega
  obtain ⟨s0, s1, d0, d1⟩ := hE e he
  have hs : R (cySrc e) := ⟨s0, s1⟩
  have hq := h.idx i hi
  have hlen : qs.length ≤ 101 := by have := h.cnt; omega
  have hf0 : 0 ≤ cyFo goal out (qs.getD i 0) := by unfold cyFo; split; exact Int.le_refl _; exact h.nn _
  have hw : wrap64 (cyFo goal out (qs.getD i 0) + 1) = cyFo goal out (qs.getD i 0) + 1 := wrap_small (by omega) (by omega)
  have hsame : cyO out' (cySrc e) = cyFo goal out (qs.getD i 0) + 1 := by
    show cyO (out.set _ _) _ = _
    rw [o_set_same h.len hs, hw]
  have hother : ∀ v, 0 ≤ v → v ≠ cySrc e → cyO out' v = cyO out v := fun v hv hne => o_set_ne hs hv hne
  have hneg : ∀ v, v < 0 → cyO out' v = if cySrc e = 0 then cyO out' 0 else cyO out 0 := by
    intro v hv
    have : v.toNat = (0 : Int).toNat := by omega
    have e1 : cyO out' v = cyO out' 0 := by unfold cyO; rw [this]
    rw [e1]
    split
    · rfl
    · rename_i hne; exact hother 0 (by omega) (fun q => hne q.symm)
  have hkeep : ∀ v, R v → 0 < cyO out v → cyO out' v = cyO out v := fun v hv hp => hother v hv.1 (by rintro rfl; omega)
  have hfk : ∀ a, a < qs.length → cyFo goal out' (qs.getD a 0) = cyFo goal out (qs.getD a 0) := by
    intro a ha
    unfold cyFo
    split
    · rfl
    · rename_i hne
      exact hkeep _ (h.rng _ (getD_mem ha)) (h.memq _ (getD_mem ha) hne)
  have hpre : ∀ a, a < qs.length → qs'.getD a 0 = qs.getD a 0 := by
    intro a ha
    show (if cySrc e = goal then qs else qs ++ [cySrc e]).getD a 0 = _
    split
    · rfl
    · exact getD_app ha
  have hl' : qs.length ≤ qs'.length := by
    show _ ≤ (if cySrc e = goal then qs else qs ++ [cySrc e]).length
    split <;> simp
  have hnew : ∀ a, qs.length ≤ a → a < qs'.length → a = qs.length ∧ cySrc e ≠ goal ∧ qs'.getD a 0 = cySrc e := by
    intro a h1 h2
    have h3 : a < (if cySrc e = goal then qs else qs ++ [cySrc e]).length := h2
    by_cases hc : cySrc e = goal
    · rw [if_pos hc] at h3; omega
    · rw [if_neg hc] at h3
      have : a = qs.length := by simp at h3; omega
      subst this
      refine ⟨rfl, hc, ?_⟩
      show (if cySrc e = goal then qs else qs ++ [cySrc e]).getD _ 0 = _
      rw [if_neg hc]; exact getD_last
  have hfnew : cySrc e ≠ goal → cyFo goal out' (cySrc e) = cyFo goal out (qs.getD i 0) + 1 := by
    intro hc; unfold cyFo; rw [if_neg hc]; exact hsame
  have hmem : ∀ x ∈ qs', x ∈ qs ∨ (cySrc e ≠ goal ∧ x = cySrc e) := by
    intro x hx
    have hx' : x ∈ (if cySrc e = goal then qs else qs ++ [cySrc e]) := hx
    by_cases hc : cySrc e = goal
    · rw [if_pos hc] at hx'; exact .inl hx'
    · rw [if_neg hc] at hx'
      rcases List.mem_append.1 hx' with h1 | h1
      · exact .inl h1
      · exact .inr ⟨hc, by simpa using h1⟩
  have hsub : ∀ x ∈ qs, x ∈ qs' := by
    intro x hx
    show x ∈ (if cySrc e = goal then qs else qs ++ [cySrc e])
    split
    · exact hx
    · exact List.mem_append_left _ hx
  have hge : ∀ v, R v → cyO out v ≤ cyO out' v := by
    intro v hv
    by_cases hv2 : v = cySrc e
    · subst hv2; rw [hsame, hz]; omega
    · rw [hother v hv.1 hv2]; exact Int.le_refl _
  have hqi : R (qs.getD i 0) := h.rng _ (getD_mem hi)
  have hwalk : Walk E (cyFo goal out (qs.getD i 0)).toNat (qs.getD i 0) goal := by
    unfold cyFo
    by_cases hc : qs.getD i 0 = goal
    · rw [if_pos hc]; exact hc
    · rw [if_neg hc]; exact h.wlk _ hqi (h.memq _ (getD_mem hi) hc)
  have htop : ∀ v, R v → cyO out' v ≤ cyFo goal out (qs.getD i 0) + 1 := by
    intro v hv
    by_cases hv2 : v = cySrc e
    · subst hv2; rw [hsame]; exact Int.le_refl _
    · rw [hother v hv.1 hv2]; exact h.top v hv hi
  refine ⟨?_, hsame, hkeep, fun a ha => ⟨hpre a ha, hfk a ha⟩, hl'⟩
  constructor
  · show (out.set _ _).length = _
    rw [List.length_set]; exact h.len
  · exact Nat.lt_of_lt_of_le h.pos hl'
  · rw [hpre 0 h.pos]; exact h.q0
  · intro x hx
    rcases hmem x hx with h1 | ⟨_, rfl⟩
    · exact h.rng x h1
    · exact hs
  · intro x hx hne
    rcases hmem x hx with h1 | ⟨_, rfl⟩
    · have := h.memq x h1 hne; rw [hkeep x (h.rng x h1) this]; exact this
    · rw [hsame]; omega
  · intro v hv hp hne
    by_cases hv2 : v = cySrc e
    · subst hv2
      show _ ∈ (if cySrc e = goal then qs else qs ++ [cySrc e])
      rw [if_neg hne]; simp
    · rw [hother v hv.1 hv2] at hp
      exact hsub v (h.inq v hv hp hne)
  · intro v hv hp
    by_cases hv2 : v = cySrc e
    · subst hv2
      rw [hsame]
      have : (cyFo goal out (qs.getD i 0) + 1).toNat = (cyFo goal out (qs.getD i 0)).toNat + 1 := by omega
      rw [this]
      exact ⟨e, he, rfl, by rw [hd]; exact hwalk⟩
    · rw [hother v hv.1 hv2] at hp ⊢
      exact h.wlk v hv hp
  · intro a b hab hb
    by_cases hb2 : b < qs.length
    · rw [hpre a (by omega), hpre b hb2, hfk a (by omega), hfk b hb2]
      exact h.mono a b hab hb2
    · obtain ⟨rfl, hc, hbe⟩ := hnew b (by omega) hb
      rw [hbe, hfnew hc]
      by_cases ha2 : a < qs.length
      · rw [hpre a ha2, hfk a ha2]
        have hm : cyFo goal out (qs.getD a 0) ≤ cyFo goal out (qs.getD i 0) + 1 := by
          have := h.top (qs.getD a 0) (h.rng _ (getD_mem ha2)) hi
          unfold cyFo at this ⊢
          split
          · split
            · omega
            · have := h.nn (qs.getD i 0); omega
          · exact this
        exact hm
      · have : a = qs.length := by omega
        subst this
        rw [hbe, hfnew hc]; exact Int.le_refl _
  · intro a ha
    by_cases ha2 : a < qs.length
    · rw [hpre a ha2, hfk a ha2]; exact h.idx a ha2
    · obtain ⟨rfl, hc, hbe⟩ := hnew a (by omega) ha
      rw [hbe, hfnew hc]; omega
  · intro v hv _
    rw [hpre i hi, hfk i hi]
    exact htop v hv
  · intro a ha ha2 e' he' hd'
    have ha3 : a < qs.length := by omega
    rw [hpre a ha3] at hd' ⊢
    rw [hfk a ha3]
    obtain ⟨h1, h2⟩ := h.dn a ha ha3 e' he' hd'
    obtain ⟨x0, x1, _, _⟩ := hE e' he'
    rw [hkeep (cySrc e') ⟨x0, x1⟩ h1]
    exact ⟨h1, h2⟩
  · have hzs := zs_set out (cySrc e).toNat (wrap64 (cyFo goal out (qs.getD i 0) + 1)) (by rw [h.len]; omega) hz (by rw [hw]; omega)
    have hc := h.cnt
    have hl2 : qs'.length ≤ qs.length + 1 := by
      show (if cySrc e = goal then qs else qs ++ [cySrc e]).length ≤ _
      split <;> simp
    show qs'.length + zs (out.set _ _) ≤ 101
    omega
  · intro v
    by_cases hv : 0 ≤ v
    · by_cases hv2 : v = cySrc e
      · subst hv2; rw [hsame]; omega
      · rw [hother v hv hv2]; exact h.nn v
    · rw [hneg v (by omega)]
      split
      · rename_i hc; rw [← hc, hsame]; omega
      · exact h.nn 0
  · intro v
    by_cases hv : 0 ≤ v
    · by_cases hv2 : v = cySrc e
      · subst hv2; rw [hsame]; omega
      · rw [hother v hv hv2]; exact h.bd v
    · rw [hneg v (by omega)]
      split
      · rename_i hc; rw [← hc, hsame]; omega
      · exact h.bd 0
theorem Inv.inner {E : List (List Int)} {goal : Int} {i : Nat} (hE : Good E) (hg : R goal) : ∀ (r : List (List Int)) (out qs : List Int), (∀ e ∈ r, e ∈ E) → Inv E goal i out qs → i < qs.length →
    Inv E goal i (bsIn goal (qs.getD i 0) r out qs).1 (bsIn goal (qs.getD i 0) r out qs).2 ∧ qs.length ≤ (bsIn goal (qs.getD i 0) r out qs).2.length ∧
      (∀ v, R v → 0 < cyO out v → cyO (bsIn goal (qs.getD i 0) r out qs).1 v = cyO out v) ∧ (bsIn goal (qs.getD i 0) r out qs).2.getD i 0 = qs.getD i 0 ∧ cyFo goal (bsIn goal (qs.getD i 0) r out qs).1 (qs.getD i 0) = cyFo goal out (qs.getD i 0) ∧
      (∀ e ∈ r, cyDst e = qs.getD i 0 → 0 < cyO (bsIn goal (qs.getD i 0) r out qs).1 (cySrc e) ∧ cyO (bsIn goal (qs.getD i 0) r out qs).1 (cySrc e) ≤ cyFo goal out (qs.getD i 0) + 1)
  | [], out, qs, _, h, hi => ⟨h, Nat.le_refl _, fun _ _ _ => rfl, rfl, rfl, fun e he => by simp at he⟩
  | e :: r, out, qs, hr, h, hi => by
    have he : e ∈ E := hr e List.mem_cons_self
    have hr' : ∀ x ∈ r, x ∈ E := fun x hx => hr x (List.mem_cons_of_mem _ hx)
    obtain ⟨s0, s1, _, _⟩ := hE e he
    unfold bsIn
    by_cases hd : cyDst e ≠ qs.getD i 0
    · rw [if_pos hd]
      obtain ⟨a1, a2, a3, a4, a5, a6⟩ := Inv.inner hE hg r out qs hr' h hi
      exact ⟨a1, a2, a3, a4, a5, fun x hx hdx => by
        rcases List.mem_cons.1 hx with rfl | hx
        · exact absurd hdx hd
        · exact a6 x hx hdx⟩
    · rw [if_neg hd]
      have hd' : cyDst e = qs.getD i 0 := Classical.byContradiction hd
      by_cases hp : 0 < cyO out (cySrc e)
      · rw [if_pos hp]
        obtain ⟨a1, a2, a3, a4, a5, a6⟩ := Inv.inner hE hg r out qs hr' h hi
        exact ⟨a1, a2, a3, a4, a5, fun x hx hdx => by
          rcases List.mem_cons.1 hx with rfl | hx
          · rw [a3 _ ⟨s0, s1⟩ hp]; exact ⟨hp, h.top _ ⟨s0, s1⟩ hi⟩
          · exact a6 x hx hdx⟩
      · rw [if_neg hp]
        obtain ⟨b1, b2, b3, b4, b5⟩ := Inv.step hE hg h hi he hd' hp
        obtain ⟨c1, c2⟩ := b4 i hi
        have hi' : i < (if cySrc e = goal then qs else qs ++ [cySrc e]).length := Nat.lt_of_lt_of_le hi b5
        have ih := Inv.inner hE hg r _ _ hr' b1 hi'
        rw [c1, c2] at ih
        obtain ⟨a1, a2, a3, a4, a5, a6⟩ := ih
        refine ⟨a1, Nat.le_trans b5 a2, fun v hv hpv => ?_, a4, a5, fun x hx hdx => ?_⟩
        · have := b3 v hv hpv
          rw [a3 v hv (by rw [this]; exact hpv), this]
        · rcases List.mem_cons.1 hx with rfl | hx
          · have hff : 0 ≤ cyFo goal out (qs.getD i 0) := by unfold cyFo; split; exact Int.le_refl _; exact h.nn _
            rw [a3 _ ⟨s0, s1⟩ (by rw [b2]; omega), b2]
            exact ⟨by omega, Int.le_refl _⟩
          · exact a6 x hx hdx
/-- What backSteps tells: the least number of edges, one at least, to the goal. -/
structure Dist (E : List (List Int)) (goal : Int) (out : List Int) : Prop where
  len : out.length = 100
  nn : ∀ v, 0 ≤ cyO out v
  bd : ∀ v, cyO out v ≤ 1000
  wlk : ∀ v, R v → 0 < cyO out v → Walk E (cyO out v).toNat v goal
  least : ∀ v k, R v → Walk E (k + 1) v goal → 0 < cyO out v ∧ cyO out v ≤ k + 1
theorem bsGo_tells {E : List (List Int)} {goal : Int} (hE : Good E) (hg : R goal) : ∀ (d i : Nat) (out qs : List Int) (k : Nat), Inv E goal i out qs → i + d = 101 → d < k → i ≤ qs.length → ∃ r, bsGo E goal k i out qs = some r ∧ Dist E goal r := by
  intro d
  induction d with
  | zero =>
    intro i out qs k h hd hk hi
    obtain ⟨k, rfl⟩ : ∃ m, k = m + 1 := ⟨k - 1, by omega⟩
    have : ¬ i < qs.length := by have := h.cnt; omega
    unfold bsGo
    rw [if_neg this]
    refine ⟨out, rfl, h.len, h.nn, h.bd, h.wlk, ?_⟩
    intro v k
    induction k generalizing v with
    | zero =>
      rintro hv ⟨e, he, rfl, hw⟩
      have hw' : cyDst e = goal := hw
      obtain ⟨h1, h2⟩ := h.dn 0 (by have := h.pos; omega) h.pos e he (by rw [h.q0]; exact hw')
      have : cyFo goal out (qs.getD 0 0) ≤ 0 := h.idx 0 h.pos
      exact ⟨h1, by omega⟩
    | succ k ih =>
      rintro hv ⟨e, he, rfl, hw⟩
      obtain ⟨_, _, d0, d1⟩ := hE e he
      obtain ⟨h1, h2⟩ := ih (cyDst e) ⟨d0, d1⟩ hw
      by_cases hc : cyDst e = goal
      · obtain ⟨h3, h4⟩ := h.dn 0 (by have := h.pos; omega) h.pos e he (by rw [h.q0]; exact hc)
        have : cyFo goal out (qs.getD 0 0) ≤ 0 := h.idx 0 h.pos
        exact ⟨h3, by omega⟩
      · have hm := h.inq _ ⟨d0, d1⟩ h1 hc
        obtain ⟨a, ha, hae⟩ := List.getElem_of_mem hm
        have hae' : qs.getD a 0 = cyDst e := by rw [List.getD_eq_getElem?_getD, List.getElem?_eq_getElem ha, Option.getD_some]; exact hae
        obtain ⟨h3, h4⟩ := h.dn a (by omega) ha e he hae'.symm
        have : cyFo goal out (cyDst e) = cyO out (cyDst e) := by unfold cyFo; rw [if_neg hc]
        rw [hae', this] at h4
        exact ⟨h3, by omega⟩
  | succ d ih =>
    intro i out qs k h hd hk hi
    obtain ⟨k, rfl⟩ : ∃ m, k = m + 1 := ⟨k - 1, by omega⟩
    unfold bsGo
    by_cases hlt : i < qs.length
    · rw [if_pos hlt, if_pos (by have := h.cnt; omega)]
      obtain ⟨a1, a2, a3, a4, a5, a6⟩ := Inv.inner hE hg E out qs (fun _ h => h) h hlt
      refine ih (i + 1) _ _ k ?_ (by omega) (by omega) (by omega)
      refine { a1 with top := fun v hv hi' => ?_, dn := fun a ha ha2 e he hde => ?_ }
      · have h1 := a1.top v hv (by omega)
        have h2 := a1.mono i (i + 1) (by omega) hi'
        omega
      · by_cases hai : a < i
        · exact a1.dn a hai ha2 e he hde
        · have : a = i := by omega
          subst this
          rw [a4] at hde ⊢
          rw [a5]
          exact a6 e he hde
    · rw [if_neg hlt]
      refine ⟨out, rfl, h.len, h.nn, h.bd, h.wlk, ?_⟩
      intro v k
      induction k generalizing v with
      | zero =>
        rintro hv ⟨e, he, rfl, hw⟩
        have hw' : cyDst e = goal := hw
        obtain ⟨h1, h2⟩ := h.dn 0 (by have := h.pos; omega) h.pos e he (by rw [h.q0]; exact hw')
        have : cyFo goal out (qs.getD 0 0) ≤ 0 := h.idx 0 h.pos
        exact ⟨h1, by omega⟩
      | succ k ih2 =>
        rintro hv ⟨e, he, rfl, hw⟩
        obtain ⟨_, _, d0, d1⟩ := hE e he
        obtain ⟨h1, h2⟩ := ih2 (cyDst e) ⟨d0, d1⟩ hw
        by_cases hc : cyDst e = goal
        · obtain ⟨h3, h4⟩ := h.dn 0 (by have := h.pos; omega) h.pos e he (by rw [h.q0]; exact hc)
          have : cyFo goal out (qs.getD 0 0) ≤ 0 := h.idx 0 h.pos
          exact ⟨h3, by omega⟩
        · have hm := h.inq _ ⟨d0, d1⟩ h1 hc
          obtain ⟨a, ha, hae⟩ := List.getElem_of_mem hm
          have hae' : qs.getD a 0 = cyDst e := by rw [List.getD_eq_getElem?_getD, List.getElem?_eq_getElem ha, Option.getD_some]; exact hae
          obtain ⟨h3, h4⟩ := h.dn a (by omega) ha e he hae'.symm
          have : cyFo goal out (cyDst e) = cyO out (cyDst e) := by unfold cyFo; rw [if_neg hc]
          rw [hae', this] at h4
          exact ⟨h3, by omega⟩
theorem o_zero (v : Int) : cyO (List.replicate 100 0) v = 0 := by
  unfold cyO
  rw [List.getD_eq_getElem?_getD, List.getElem?_replicate]
  split <;> rfl
theorem bs_tells {E : List (List Int)} {goal : Int} (hE : Good E) (hg : R goal) (k : Nat) (hk : 101 < k) : ∃ r, bsGo E goal k 0 (List.replicate 100 0) [goal] = some r ∧ Dist E goal r := by
  refine bsGo_tells hE hg 101 0 _ _ k ?_ (by omega) hk (by simp)
  constructor
  · simp
  · simp
  · rfl
  · intro x hx; have : x = goal := by simpa using hx
    rw [this]; exact hg
  · intro x hx hne; exact absurd (by simpa using hx) hne
  · intro v _ hp; rw [o_zero] at hp; omega
  · intro v _ hp; rw [o_zero] at hp; omega
  · intro a b hab hb
    have : a = b := by simp at hb; omega
    rw [this]; exact Int.le_refl _
  · intro a ha
    have : a = 0 := by simp at ha; omega
    subst this
    simp [cyFo]
  · intro v _ _; rw [o_zero]; simp [cyFo]
  · intro a ha; omega
  · have : zs (List.replicate 100 0) = 100 := by decide
    rw [this]; simp
  · intro v; rw [o_zero]; exact Int.le_refl _
  · intro v; rw [o_zero]; omega
/-! ### the greedy way -/
def cand (E : List (List Int)) (far : List Int) (n a left : Int) (e : List Int) : Bool := decide (cySrc e = a) && (decide (cyDst e ≠ n) && decide (cyO far (cyDst e) = left))
theorem nextF_tells (far : List Int) (n a left : Int) : ∀ (r : List (List Int)) (m : Int), nextF far n a left r m ≤ m ∧ (nextF far n a left r m = m ∨ ∃ e ∈ r, cySrc e = a ∧ cyDst e ≠ n ∧ cyO far (cyDst e) = left ∧ cyDst e = nextF far n a left r m) ∧ (∀ e ∈ r, cySrc e = a → cyDst e ≠ n → cyO far (cyDst e) = left → nextF far n a left r m ≤ cyDst e)
  | [], m => ⟨Int.le_refl _, .inl rfl, fun e he => by simp at he⟩
  | e :: r, m => by
    unfold nextF
    by_cases hc : cySrc e = a ∧ cyDst e ≠ n ∧ cyO far (cyDst e) = left
    · rw [if_pos hc]
      obtain ⟨h1, h2, h3⟩ := nextF_tells far n a left r (min m (cyDst e))
      refine ⟨by omega, ?_, ?_⟩
      · rcases h2 with h2 | ⟨x, hx, hy⟩
        · by_cases hm : m ≤ cyDst e
          · left; omega
          · right; exact ⟨e, List.mem_cons_self, hc.1, hc.2.1, hc.2.2, by omega⟩
        · right; exact ⟨x, List.mem_cons_of_mem _ hx, hy⟩
      · intro x hx a1 a2 a3
        rcases List.mem_cons.1 hx with rfl | hx
        · omega
        · exact h3 x hx a1 a2 a3
    · rw [if_neg hc]
      obtain ⟨h1, h2, h3⟩ := nextF_tells far n a left r m
      refine ⟨h1, ?_, ?_⟩
      · rcases h2 with h2 | ⟨x, hx, hy⟩
        · exact .inl h2
        · right; exact ⟨x, List.mem_cons_of_mem _ hx, hy⟩
      · intro x hx a1 a2 a3
        rcases List.mem_cons.1 hx with rfl | hx
        · exact absurd ⟨a1, a2, a3⟩ hc
        · exact h3 x hx a1 a2 a3
/-- The greedy way's step, where l + 2 edges lead from a to the goal at the least. -/
theorem nextF_good {E : List (List Int)} {n : Int} {far : List Int} (hE : Good E) (hD : Dist E n far) {a : Int} {l : Nat} (ha : R a) (h : cyO far a = (l : Int) + 2) :
    let x := nextF far n a ((l : Int) + 1) E 100
    R x ∧ x ≠ n ∧ cyO far x = (l : Int) + 1 ∧ (∃ e ∈ E, cySrc e = a ∧ cyDst e = x) ∧ (∀ e ∈ E, cySrc e = a → cyDst e ≠ n → cyO far (cyDst e) = (l : Int) + 1 → x ≤ cyDst e) := by
  intro x
  obtain ⟨h1, h2, h3⟩ := nextF_tells far n a ((l : Int) + 1) E 100
  have hw := hD.wlk a ha (by omega)
  have e1 : (cyO far a).toNat = (l + 1) + 1 := by omega
  rw [e1] at hw
  obtain ⟨e, he, hs, hw2⟩ := hw
  obtain ⟨_, _, d0, d1⟩ := hE e he
  obtain ⟨h4, h5⟩ := hD.least (cyDst e) l ⟨d0, d1⟩ hw2
  have h6 : cyDst e ≠ n := by
    intro hc
    have := hD.least a 0 ha ⟨e, he, hs, hc⟩
    omega
  have h7 : cyO far (cyDst e) = (l : Int) + 1 := by
    have h8 := hD.wlk (cyDst e) ⟨d0, d1⟩ h4
    have := hD.least a (cyO far (cyDst e)).toNat ha ⟨e, he, hs, h8⟩
    omega
  have h8 := h3 e he hs h6 h7
  rcases h2 with h2 | ⟨y, hy, y1, y2, y3, y4⟩
  · omega
  · obtain ⟨_, _, f0, f1⟩ := hE y hy
    exact ⟨by show R (nextF _ _ _ _ _ _); rw [← y4]; exact ⟨f0, f1⟩, by show nextF _ _ _ _ _ _ ≠ n; rw [← y4]; exact y2, by show cyO far (nextF _ _ _ _ _ _) = _; rw [← y4]; exact y3, ⟨y, hy, y1, y4⟩, h3⟩
theorem goF_tells {E : List (List Int)} {n : Int} {far : List Int} (hE : Good E) (hD : Dist E n far) : ∀ (l : Nat) (a : Int), R a → cyO far a = (l : Int) + 1 →
    (a :: goF E far n l a).length = l + 1 ∧ (∀ j, j < l + 1 → R ((a :: goF E far n l a).getD j 0) ∧ cyO far ((a :: goF E far n l a).getD j 0) = (l : Int) + 1 - j) ∧
    (∀ j, j + 1 < l + 1 → (a :: goF E far n l a).getD (j + 1) 0 ≠ n ∧ (∃ e ∈ E, cySrc e = (a :: goF E far n l a).getD j 0 ∧ cyDst e = (a :: goF E far n l a).getD (j + 1) 0) ∧
      (∀ e ∈ E, cySrc e = (a :: goF E far n l a).getD j 0 → cyDst e ≠ n → cyO far (cyDst e) = (l : Int) - j → (a :: goF E far n l a).getD (j + 1) 0 ≤ cyDst e))
  | 0, a, ha, h => by
    refine ⟨rfl, fun j hj => ?_, fun j hj => by omega⟩
    have : j = 0 := by omega
    subst this
    exact ⟨ha, by simpa [goF] using h⟩
  | l + 1, a, ha, h => by
    obtain ⟨x1, x2, x3, x4, x5⟩ := nextF_good hE hD (l := l) ha (by omega)
    have ih := goF_tells hE hD l _ x1 x3
    unfold goF
    generalize nextF far n a ((l : Int) + 1) E 100 = x at *
    obtain ⟨i1, i2, i3⟩ := ih
    refine ⟨by simp only [List.length_cons] at i1 ⊢; omega, fun j hj => ?_, fun j hj => ?_⟩
    · rcases j with _ | j
      · exact ⟨ha, by simp only [List.getD_cons_zero]; omega⟩
      · rw [List.getD_cons_succ]
        obtain ⟨b1, b2⟩ := i2 j (by omega)
        exact ⟨b1, by omega⟩
    · rcases j with _ | j
      · simp only [List.getD_cons_succ, List.getD_cons_zero]
        exact ⟨x2, x4, fun e he a1 a2 a3 => x5 e he a1 a2 (by omega)⟩
      · simp only [List.getD_cons_succ]
        obtain ⟨b1, b2, b3⟩ := i3 j (by omega)
        simp only [List.getD_cons_succ] at b1 b2 b3
        exact ⟨b1, b2, fun e he a1 a2 a3 => b3 e he a1 a2 (by omega)⟩
/-! ### the search by ways -/
def putF : List Int → Int → List Int
  | [], n => [n]
  | x :: r, n => if x < n then x :: putF r n else if x = n then x :: r else n :: x :: r
def nextsF (a : Int) : List (List Int) → List Int → List Int
  | [], l => l
  | e :: r, l => nextsF a r (if cySrc e = a then putF l (cyDst e) else l)
def lwIn (dest : Int) (w : List Int) : List Int → List (List Int) → List Int → Bool × List (List Int) × List Int
  | [], ways, seen => (false, ways, seen)
  | m :: r, ways, seen => if m = dest then (true, ways, seen) else if m ∈ seen then lwIn dest w r ways seen else lwIn dest w r (ways ++ [w ++ [m]]) (seen ++ [m])
def last (w : List Int) : Int := w.getD (w.length - 1) 0
def lwGo (E : List (List Int)) (dest : Int) : Nat → Nat → List (List Int) → List Int → Option (List Int)
  | 0, _, _, _ => none
  | k + 1, i, ways, seen => if i < ways.length then
      (if (lwIn dest (ways.getD i []) (nextsF (last (ways.getD i [])) E []) ways seen).1 = true then some (ways.getD i []) else
        lwGo E dest k (i + 1) (lwIn dest (ways.getD i []) (nextsF (last (ways.getD i [])) E []) ways seen).2.1 (lwIn dest (ways.getD i []) (nextsF (last (ways.getD i [])) E []) ways seen).2.2)
    else some []
def Up (l : List Int) : Prop := l.Pairwise (· < ·)
theorem mem_putF (n x : Int) : ∀ l : List Int, x ∈ putF l n ↔ x = n ∨ x ∈ l
  | [] => by simp [putF]
  | y :: r => by
    unfold putF
    by_cases h1 : y < n
    · rw [if_pos h1, List.mem_cons, mem_putF n x r, List.mem_cons]
      constructor
      · rintro (h | h | h) <;> simp [h]
      · rintro (h | h | h) <;> simp [h]
    · rw [if_neg h1]
      by_cases h2 : y = n
      · rw [if_pos h2]; subst h2; simp
      · rw [if_neg h2, List.mem_cons]
theorem up_putF (n : Int) : ∀ l : List Int, Up l → Up (putF l n)
  | [], _ => by simp [putF, Up]
  | y :: r, h => by
    obtain ⟨h0, hr⟩ := List.pairwise_cons.1 h
    unfold putF
    by_cases h1 : y < n
    · rw [if_pos h1]
      refine List.pairwise_cons.2 ⟨fun x hx => ?_, up_putF n r hr⟩
      rcases (mem_putF n x r).1 hx with rfl | hx
      · exact h1
      · exact h0 x hx
    · rw [if_neg h1]
      by_cases h2 : y = n
      · rw [if_pos h2]; exact h
      · rw [if_neg h2]
        refine List.pairwise_cons.2 ⟨fun x hx => ?_, h⟩
        rcases List.mem_cons.1 hx with rfl | hx
        · omega
        · have := h0 x hx; omega
theorem nextsF_tells (a : Int) : ∀ (r : List (List Int)) (l : List Int), Up l → Up (nextsF a r l) ∧ ∀ x, x ∈ nextsF a r l ↔ x ∈ l ∨ ∃ e ∈ r, cySrc e = a ∧ cyDst e = x
  | [], l, h => ⟨h, fun x => by simp [nextsF]⟩
  | e :: r, l, h => by
    unfold nextsF
    by_cases hc : cySrc e = a
    · rw [if_pos hc]
      obtain ⟨h1, h2⟩ := nextsF_tells a r _ (up_putF (cyDst e) l h)
      refine ⟨h1, fun x => ?_⟩
      rw [h2 x, mem_putF]
      constructor
      · rintro ((rfl | h3) | ⟨y, hy, h4⟩)
        · exact .inr ⟨e, List.mem_cons_self, hc, rfl⟩
        · exact .inl h3
        · exact .inr ⟨y, List.mem_cons_of_mem _ hy, h4⟩
      · rintro (h3 | ⟨y, hy, h4, h5⟩)
        · exact .inl (.inr h3)
        · rcases List.mem_cons.1 hy with rfl | hy
          · exact .inl (.inl h5.symm)
          · exact .inr ⟨y, hy, h4, h5⟩
    · rw [if_neg hc]
      obtain ⟨h1, h2⟩ := nextsF_tells a r l h
      refine ⟨h1, fun x => ?_⟩
      rw [h2 x]
      constructor
      · rintro (h3 | ⟨y, hy, h4⟩)
        · exact .inl h3
        · exact .inr ⟨y, List.mem_cons_of_mem _ hy, h4⟩
      · rintro (h3 | ⟨y, hy, h4, h5⟩)
        · exact .inl h3
        · rcases List.mem_cons.1 hy with rfl | hy
          · exact absurd h4 hc
          · exact .inr ⟨y, hy, h4, h5⟩
/-- What the inner round tells. -/
theorem lwIn_tells (dest : Int) (w : List Int) : ∀ (r : List Int) (ways : List (List Int)) (seen : List Int), Up r →
    (dest ∈ r → (lwIn dest w r ways seen).1 = true) ∧
    (dest ∉ r → ∃ ad : List Int, lwIn dest w r ways seen = (false, ways ++ ad.map (fun m => w ++ [m]), seen ++ ad) ∧ Up ad ∧ (∀ m, m ∈ ad ↔ m ∈ r ∧ m ∉ seen))
  | [], ways, seen, _ => ⟨fun h => by simp at h, fun _ => ⟨[], by simp [lwIn], List.Pairwise.nil, by simp⟩⟩
  | m :: r, ways, seen, h => by
    obtain ⟨h0, hr⟩ := List.pairwise_cons.1 h
    unfold lwIn
    by_cases hm : m = dest
    · rw [if_pos hm]
      exact ⟨fun _ => rfl, fun hn => absurd (by rw [hm]; exact List.mem_cons_self) hn⟩
    · rw [if_neg hm]
      by_cases hs : m ∈ seen
      · rw [if_pos hs]
        obtain ⟨i1, i2⟩ := lwIn_tells dest w r ways seen hr
        refine ⟨fun hto => i1 (by rcases List.mem_cons.1 hto with h1 | h1; exact absurd h1.symm hm; exact h1), fun hto => ?_⟩
        obtain ⟨ad, a1, a2, a3⟩ := i2 (fun h1 => hto (List.mem_cons_of_mem _ h1))
        refine ⟨ad, a1, a2, fun x => ?_⟩
        rw [a3 x, List.mem_cons]
        constructor
        · rintro ⟨b1, b2⟩; exact ⟨.inr b1, b2⟩
        · rintro ⟨rfl | b1, b2⟩
          · exact absurd hs b2
          · exact ⟨b1, b2⟩
      · rw [if_neg hs]
        obtain ⟨i1, i2⟩ := lwIn_tells dest w r (ways ++ [w ++ [m]]) (seen ++ [m]) hr
        refine ⟨fun hto => i1 (by rcases List.mem_cons.1 hto with h1 | h1; exact absurd h1.symm hm; exact h1), fun hto => ?_⟩
        obtain ⟨ad, a1, a2, a3⟩ := i2 (fun h1 => hto (List.mem_cons_of_mem _ h1))
        refine ⟨m :: ad, by rw [a1]; simp, List.pairwise_cons.2 ⟨fun x hx => h0 x ((a3 x).1 hx).1, a2⟩, fun x => ?_⟩
        rw [List.mem_cons, a3 x, List.mem_cons, List.mem_append]
        constructor
        · rintro (rfl | ⟨b1, b2⟩)
          · exact ⟨.inl rfl, hs⟩
          · exact ⟨.inr b1, fun hx => b2 (.inl hx)⟩
        · rintro ⟨rfl | b1, b2⟩
          · exact .inl rfl
          · refine .inr ⟨b1, fun hx => ?_⟩
            rcases hx with hx | hx
            · exact b2 hx
            · have : x = m := by simpa using hx
              have := h0 x b1; omega
def us (seen : List Int) : Nat := ((List.range 100).filter (fun v : Nat => decide (¬ (v : Int) ∈ seen))).length
theorem filter_lt {α : Type} (p q : α → Bool) : ∀ (l : List α), (∀ x, q x = true → p x = true) → ∀ a ∈ l, p a = true → q a = false → (l.filter q).length < (l.filter p).length
  | [], _, a, ha, _, _ => by simp at ha
  | x :: r, h, a, ha, h1, h2 => by
    have hle : ∀ r' : List α, (r'.filter q).length ≤ (r'.filter p).length := by
      intro r'
      induction r' with
      | nil => simp
      | cons y r' ih =>
        simp only [List.filter_cons]
        by_cases hq : q y = true
        · rw [if_pos hq, if_pos (h y hq), List.length_cons, List.length_cons]; omega
        · rw [if_neg hq]; split
          · rw [List.length_cons]; omega
          · exact ih
    simp only [List.filter_cons]
    rcases List.mem_cons.1 ha with rfl | ha
    · rw [if_neg (by simp [h2]), if_pos h1]
      have := hle r
      simp; omega
    · have ih := filter_lt p q r h a ha h1 h2
      by_cases hq : q x = true
      · rw [if_pos hq, if_pos (h x hq), List.length_cons, List.length_cons]; omega
      · rw [if_neg hq]; split
        · rw [List.length_cons]; omega
        · exact ih
theorem us_add : ∀ (ad seen : List Int), Up ad → (∀ m ∈ ad, R m ∧ m ∉ seen) → ad.length + us (seen ++ ad) ≤ us seen
  | [], seen, _, _ => by simp
  | m :: r, seen, hu, h => by
    obtain ⟨h0, hr⟩ := List.pairwise_cons.1 hu
    have ih := us_add r (seen ++ [m]) hr (fun x hx => ⟨(h x (List.mem_cons_of_mem _ hx)).1, fun hx2 => by
      rcases List.mem_append.1 hx2 with h1 | h1
      · exact (h x (List.mem_cons_of_mem _ hx)).2 h1
      · have : x = m := by simpa using h1
        have := h0 x hx; omega⟩)
    obtain ⟨⟨m0, m1⟩, hm⟩ := h m List.mem_cons_self
    have hmm : ((m.toNat : Nat) : Int) = m := by omega
    have := filter_lt (fun v : Nat => decide (¬ (v : Int) ∈ seen)) (fun v : Nat => decide (¬ (v : Int) ∈ seen ++ [m])) (List.range 100) (fun x hx => by
      simp at hx ⊢; exact hx.1) m.toNat (by rw [List.mem_range]; omega) (by simp only [hmm]; simpa using hm) (by simp only [hmm]; simp)
    have e1 : seen ++ m :: r = (seen ++ [m]) ++ r := by simp
    rw [e1]
    unfold us at ih ⊢
    simp only [List.length_cons]
    omega
theorem last_app (w : List Int) (m : Int) : last (w ++ [m]) = m := by
  unfold last
  rw [List.length_append, List.length_singleton, Nat.add_sub_cancel]
  exact getD_last
/-- What stands in the list of ways. -/
structure Basic (E : List (List Int)) (n : Int) (i : Nat) (ways : List (List Int)) (seen : List Int) : Prop where
  v : ∀ a, i ≤ a → a < ways.length → 0 < (ways.getD a []).length ∧ R (last (ways.getD a [])) ∧ Walk E ((ways.getD a []).length - 1) n (last (ways.getD a []))
  up : ∀ a b, i ≤ a → a ≤ b → b < ways.length → (ways.getD a []).length ≤ (ways.getD b []).length ∧ (ways.getD b []).length ≤ (ways.getD i []).length + 1
  sn : ∀ m ∈ seen, R m ∧ ∃ l, l + 1 ≤ (ways.getD (ways.length - 1) []).length ∧ Walk E l n m
  cnt : ways.length + us seen ≤ 101
theorem getW_app {l t : List (List Int)} {a : Nat} (h : a < l.length) : (l ++ t).getD a [] = l.getD a [] := by
  rw [List.getD_eq_getElem?_getD, List.getElem?_append_left h, ← List.getD_eq_getElem?_getD]
theorem getW_new {l : List (List Int)} {w ad : List Int} {a : Nat} (h : l.length ≤ a) (h2 : a < (l ++ ad.map (fun m => w ++ [m])).length) : ∃ m, ad[a - l.length]? = some m ∧ m ∈ ad ∧ (l ++ ad.map (fun m => w ++ [m])).getD a [] = w ++ [m] := by
  have h3 : a - l.length < ad.length := by simp at h2; omega
  refine ⟨ad[a - l.length], List.getElem?_eq_getElem h3, List.getElem_mem h3, ?_⟩
  rw [List.getD_eq_getElem?_getD, List.getElem?_append_right h, List.getElem?_map, List.getElem?_eq_getElem h3]
  rfl
theorem Basic.step {E : List (List Int)} {n : Int} {i : Nat} {ways : List (List Int)} {seen ad : List Int} (hE : Good E) (h : Basic E n i ways seen) (hi : i < ways.length) (hu : Up ad)
    (had : ∀ m, m ∈ ad ↔ m ∈ nextsF (last (ways.getD i [])) E [] ∧ m ∉ seen) : Basic E n (i + 1) (ways ++ ad.map (fun m => ways.getD i [] ++ [m])) (seen ++ ad) := by
  obtain ⟨w1, w2, w3⟩ := h.v i (Nat.le_refl _) hi
  have hnx := (nextsF_tells (last (ways.getD i [])) E [] List.Pairwise.nil).2
  have hch : ∀ m ∈ ad, R m ∧ Walk E (ways.getD i []).length n m := by
    intro m hm
    rcases (hnx m).1 ((had m).1 hm).1 with h1 | ⟨e, he, hs, rfl⟩
    · simp at h1
    · obtain ⟨_, _, d0, d1⟩ := hE e he
      refine ⟨⟨d0, d1⟩, ?_⟩
      have := Walk.app w3 (show Walk E 1 (last (ways.getD i [])) (cyDst e) from ⟨e, he, hs, rfl⟩)
      rwa [Nat.sub_add_cancel w1] at this
  constructor
  · intro a ha hb
    by_cases hlt : a < ways.length
    · rw [getW_app hlt]; exact h.v a (by omega) hlt
    · obtain ⟨m, _, hm, he⟩ := getW_new (by omega) hb
      rw [he, last_app]
      obtain ⟨c1, c2⟩ := hch m hm
      refine ⟨by simp, c1, ?_⟩
      simpa using c2
  · intro a b ha hab hb
    have hstart : i + 1 < (ways ++ ad.map (fun m => ways.getD i [] ++ [m])).length := by omega
    have hlen : ∀ q, i ≤ q → q < (ways ++ ad.map (fun m => ways.getD i [] ++ [m])).length → (ways.getD i []).length ≤ ((ways ++ ad.map (fun m => ways.getD i [] ++ [m])).getD q []).length ∧ ((ways ++ ad.map (fun m => ways.getD i [] ++ [m])).getD q []).length ≤ (ways.getD i []).length + 1 := by
      intro q hq hq2
      by_cases hlt : q < ways.length
      · rw [getW_app hlt]; exact h.up i q (Nat.le_refl _) hq hlt
      · obtain ⟨m, _, hm, he⟩ := getW_new (by omega) hq2
        rw [he]; simp
    refine ⟨?_, by have := hlen b (by omega) hb; have := hlen (i + 1) (by omega) hstart; omega⟩
    by_cases hlt : b < ways.length
    · rw [getW_app hlt, getW_app (by omega)]; exact (h.up a b (by omega) hab hlt).1
    · obtain ⟨m, _, hm, he⟩ := getW_new (by omega) hb
      rw [he]
      have := (hlen a (by omega) (by omega)).2
      simpa using this
  · have hlst : (ad ≠ [] → ((ways ++ ad.map (fun m => ways.getD i [] ++ [m])).getD ((ways ++ ad.map (fun m => ways.getD i [] ++ [m])).length - 1) []).length = (ways.getD i []).length + 1) := by
      intro hne
      have hp : 0 < ad.length := List.length_pos_iff.2 hne
      have hq : (ways ++ ad.map (fun m => ways.getD i [] ++ [m])).length = ways.length + ad.length := by simp
      obtain ⟨m, _, hm, he⟩ := getW_new (l := ways) (w := ways.getD i []) (ad := ad) (a := (ways ++ ad.map (fun m => ways.getD i [] ++ [m])).length - 1) (by omega) (by omega)
      rw [he, List.length_append, List.length_singleton]
    intro m hm
    rcases List.mem_append.1 hm with h1 | h1
    · obtain ⟨r1, l, hl, hw⟩ := h.sn m h1
      refine ⟨r1, l, ?_, hw⟩
      by_cases hne : ad = []
      · subst hne; simpa using hl
      · rw [hlst hne]
        have := (h.up i (ways.length - 1) (Nat.le_refl _) (by omega) (by omega)).2
        omega
    · obtain ⟨c1, c2⟩ := hch m h1
      refine ⟨c1, _, ?_, c2⟩
      rw [hlst (by rintro rfl; simp at h1)]
      exact Nat.le_refl _
  · have := us_add ad seen hu (fun m hm => ⟨(hch m hm).1, ((had m).1 hm).2⟩)
    have h2 := h.cnt
    simp only [List.length_append, List.length_map]
    omega
/-- No cycle through n: none is found. -/
theorem lw_none {E : List (List Int)} {n : Int} {far : List Int} (hE : Good E) (hn : R n) (hD : Dist E n far) (h0 : cyO far n = 0) : ∀ (d i : Nat) (ways : List (List Int)) (seen : List Int) (k : Nat), Basic E n i ways seen → i + d = 101 → d < k → lwGo E n k i ways seen = some [] := by
  intro d
  induction d with
  | zero =>
    intro i ways seen k h hd hk
    obtain ⟨k, rfl⟩ : ∃ m, k = m + 1 := ⟨k - 1, by omega⟩
    have hc := h.cnt
    unfold lwGo
    rw [if_neg (by omega)]
  | succ d ih =>
    intro i ways seen k h hd hk
    obtain ⟨k, rfl⟩ : ∃ m, k = m + 1 := ⟨k - 1, by omega⟩
    unfold lwGo
    by_cases hi : i < ways.length
    · rw [if_pos hi]
      obtain ⟨t1, t2⟩ := nextsF_tells (last (ways.getD i [])) E [] List.Pairwise.nil
      obtain ⟨w1, w2, w3⟩ := h.v i (Nat.le_refl _) hi
      have hno : n ∉ nextsF (last (ways.getD i [])) E [] := by
        intro hc
        rcases (t2 n).1 hc with h1 | ⟨e, he, hs, hd2⟩
        · simp at h1
        · have h3 := Walk.app w3 (show Walk E 1 (last (ways.getD i [])) n from ⟨e, he, hs, hd2⟩)
          have := (hD.least n _ hn h3).1
          omega
      obtain ⟨ad, a1, a2, a3⟩ := (lwIn_tells n (ways.getD i []) _ ways seen t1).2 hno
      rw [a1]
      simp only [Bool.false_eq_true, if_false]
      exact ih (i + 1) _ _ k (h.step hE hi a2 a3) (by omega) (by omega)
    · rw [if_neg hi]

def good (far : List Int) (L : Int) (w : List Int) : Prop := 0 < cyO far (last w) ∧ (w.length : Int) - 1 + cyO far (last w) = L
/-- The way that is found: the greedy one. -/
theorem lw_some {E : List (List Int)} {n : Int} {far : List Int} (hE : Good E) (hn : R n) (hD : Dist E n far) {l : Nat} (hL : cyO far n = (l : Int) + 1) : ∀ (d i p : Nat) (ways : List (List Int)) (seen : List Int) (k t : Nat), Basic E n i ways seen → i + d = 101 → d < k → i ≤ p → p < ways.length →
    t < l + 1 → ways.getD p [] = (n :: goF E far n l n).take (t + 1) → (∀ q, i ≤ q → q < p → (ways.getD q []).length = t + 1 → ¬ good far ((l : Int) + 1) (ways.getD q [])) → (∀ q, i ≤ q → q < ways.length → (ways.getD q []).length = t + 2 → ¬ good far ((l : Int) + 1) (ways.getD q [])) →
    (t + 1 < l + 1 → (n :: goF E far n l n).getD (t + 1) 0 ∉ seen) → lwGo E n k i ways seen = some (n :: goF E far n l n) := by
  obtain ⟨g1, g2, g3⟩ := goF_tells hE hD l n hn hL
  intro d
  induction d with
  | zero =>
    intro i p ways seen k t h hd hk hip hp
    have := h.cnt
    omega
  | succ d ih =>
    intro i p ways seen k t h hd hk hip hp ht hw hng hnn hns
    obtain ⟨k, rfl⟩ : ∃ m, k = m + 1 := ⟨k - 1, by omega⟩
    have hi : i < ways.length := by omega
    unfold lwGo
    rw [if_pos hi]
    obtain ⟨t1, t2⟩ := nextsF_tells (last (ways.getD i [])) E [] List.Pairwise.nil
    obtain ⟨w1, w2, w3⟩ := h.v i (Nat.le_refl _) hi
    obtain ⟨p1, p2, p3⟩ := h.v p hip hp
    have hlp : (ways.getD p []).length = t + 1 := by rw [hw, List.length_take, g1]; omega
    have hlastp : last (ways.getD p []) = (n :: goF E far n l n).getD t 0 := by
      unfold last
      rw [hlp, hw, Nat.add_sub_cancel, List.getD_eq_getElem?_getD, List.getElem?_take_of_lt (by omega), ← List.getD_eq_getElem?_getD]
    have hlast : ∀ x, Walk E 1 (last (ways.getD i [])) x → Walk E (ways.getD i []).length n x := by
      intro x hx
      have := Walk.app w3 hx
      rwa [Nat.sub_add_cancel w1] at this
    have hlevel := h.up i p (Nat.le_refl _) hip hp
    have hmore : ∀ (j : Nat) (x : Int), R x → Walk E (j + 1) n x → 0 < cyO far x → (l : Int) + 1 ≤ (j : Int) + 1 + cyO far x := by
      intro j x hx hwx hpx
      have h1 := Walk.app hwx (hD.wlk x hx hpx)
      have h2 := (hD.least n (j + (cyO far x).toNat) hn (by rw [show j + (cyO far x).toNat + 1 = j + 1 + (cyO far x).toNat by omega]; exact h1)).2
      omega
    by_cases hfound : n ∈ nextsF (last (ways.getD i [])) E []
    · rw [(lwIn_tells n (ways.getD i []) _ ways seen t1).1 hfound]
      simp only [if_true]
      have hwn : Walk E (ways.getD i []).length n n := by
        rcases (t2 n).1 hfound with h1 | ⟨e, he, hs, hd2⟩
        · simp at h1
        · exact hlast n ⟨e, he, hs, hd2⟩
      have hwn1 : Walk E 1 (last (ways.getD i [])) n := by
        rcases (t2 n).1 hfound with h1 | ⟨e, he, hs, hd2⟩
        · simp at h1
        · exact ⟨e, he, hs, hd2⟩
      obtain ⟨m, hm⟩ : ∃ m, (ways.getD i []).length = m + 1 := ⟨(ways.getD i []).length - 1, by omega⟩
      have hge := (hD.least n m hn (by rw [← hm]; exact hwn)).2
      have h1 := (hD.least (last (ways.getD i [])) 0 w2 hwn1)
      have heq : (ways.getD i []).length = t + 1 := by omega
      have hgood : good far ((l : Int) + 1) (ways.getD i []) := ⟨h1.1, by omega⟩
      have hpi : i = p := by
        by_cases hc : i = p
        · exact hc
        · exact absurd hgood (hng i (Nat.le_refl _) (by omega) heq)
      rw [hpi, hw, List.take_of_length_le (by rw [g1]; omega)]
    · obtain ⟨ad, a1, a2, a3⟩ := (lwIn_tells n (ways.getD i []) _ ways seen t1).2 hfound
      rw [a1]
      simp only [Bool.false_eq_true, if_false]
      have hb := h.step hE hi a2 a3
      have hchild : ∀ m ∈ ad, R m ∧ Walk E 1 (last (ways.getD i [])) m := by
        intro m hm
        rcases (t2 m).1 ((a3 m).1 hm).1 with h1 | ⟨e, he, hs, rfl⟩
        · simp at h1
        · obtain ⟨_, _, d0, d1⟩ := hE e he
          exact ⟨⟨d0, d1⟩, e, he, hs, rfl⟩
      by_cases hip2 : i = p
      · subst hip2
        -- the greedy way's own turn
        have htl : t + 1 < l + 1 := by
          by_cases hc : t + 1 < l + 1
          · exact hc
          · exfalso
            have htt : t = l := by omega
            obtain ⟨r1, r2⟩ := g2 t ht
            rw [← hlastp] at r1 r2
            have h1 := hD.wlk _ r1 (by omega)
            rw [show (cyO far (last (ways.getD i []))).toNat = 1 by omega] at h1
            obtain ⟨e, he, hs, hd2⟩ := h1
            exact hfound ((t2 n).2 (.inr ⟨e, he, hs, hd2⟩))
        obtain ⟨c1, ⟨e, he, hs, hde⟩, c3⟩ := g3 t htl
        obtain ⟨r1, r2⟩ := g2 (t + 1) htl
        have hgm : (n :: goF E far n l n).getD (t + 1) 0 ∈ ad := (a3 _).2 ⟨(t2 _).2 (.inr ⟨e, he, by rw [hlastp]; exact hs, hde⟩), hns htl⟩
        obtain ⟨j, hj, hje⟩ := List.getElem_of_mem hgm
        have hpn : ways.length + j < (ways ++ ad.map (fun m => ways.getD i [] ++ [m])).length := by simp; exact hj
        refine ih (i + 1) (ways.length + j) _ _ k (t + 1) hb (by omega) (by omega) (by omega) hpn htl ?_ ?_ ?_ ?_
        · rw [List.getD_eq_getElem?_getD, List.getElem?_append_right (by omega), Nat.add_sub_cancel_left, List.getElem?_map, List.getElem?_eq_getElem hj, hje]
          simp only [Option.map_some, Option.getD_some]
          rw [hw, List.take_succ_eq_append_getElem (i := t + 1) (by rw [g1]; omega), List.getD_eq_getElem?_getD, List.getElem?_eq_getElem (by rw [g1]; omega), Option.getD_some]
        · intro q hq hqp hlen
          by_cases hlt : q < ways.length
          · rw [getW_app hlt] at hlen ⊢
            exact hnn q (by omega) hlt hlen
          · obtain ⟨m, hm1, hm, he2⟩ := getW_new (by omega) (Nat.lt_trans hqp hpn)
            rw [he2]
            rintro ⟨q1, q2⟩
            rw [last_app] at q1 q2
            rw [List.length_append, List.length_singleton, hlp] at q2
            obtain ⟨m1, e', he', hs', hd'⟩ := hchild m hm
            have hd'' : cyDst e' = m := hd'
            have hmn : m ≠ n := by rintro rfl; exact hfound ((a3 m).1 hm).1
            have hle := c3 e' he' (by rw [hs', hlastp]) (by rw [hd'']; exact hmn) (by rw [hd'']; omega)
            rw [hd''] at hle
            have hlt2 : m < (n :: goF E far n l n).getD (t + 1) 0 := by
              have hqj : q - ways.length < j := by omega
              have := List.pairwise_iff_getElem.1 a2 (q - ways.length) j (by omega) hj hqj
              rw [hje] at this
              have hmq : ad[q - ways.length]'(by omega) = m := by
                have h5 := hm1
                rw [List.getElem?_eq_getElem (by omega)] at h5
                exact Option.some.inj h5
              rwa [hmq] at this
            omega
        · intro q hq hql hlen
          by_cases hlt : q < ways.length
          · rw [getW_app hlt] at hlen
            have := (h.up i q (Nat.le_refl _) (by omega) hlt).2
            omega
          · obtain ⟨m, _, hm, he2⟩ := getW_new (by omega) hql
            rw [he2, List.length_append, List.length_singleton, hlp] at hlen
            omega
        · intro htt hsn
          obtain ⟨s1, x, hx, hwx⟩ := hb.sn _ hsn
          obtain ⟨r3, r4⟩ := g2 (t + 1 + 1) htt
          obtain ⟨z1, _, _⟩ := g3 (t + 1) htt
          have hlx := (hb.up (i + 1) ((ways ++ ad.map (fun m => ways.getD i [] ++ [m])).length - 1) (Nat.le_refl _) (by omega) (by omega))
          have hlx2 : ((ways ++ ad.map (fun m => ways.getD i [] ++ [m])).getD ((ways ++ ad.map (fun m => ways.getD i [] ++ [m])).length - 1) []).length ≤ t + 2 := by
            by_cases hlt : (ways ++ ad.map (fun m => ways.getD i [] ++ [m])).length - 1 < ways.length
            · rw [getW_app hlt]
              have := (h.up i ((ways ++ ad.map (fun m => ways.getD i [] ++ [m])).length - 1) (Nat.le_refl _) (by omega) hlt).2
              omega
            · obtain ⟨m, _, hm, he2⟩ := getW_new (l := ways) (w := ways.getD i []) (ad := ad) (a := (ways ++ ad.map (fun m => ways.getD i [] ++ [m])).length - 1) (by omega) (by omega)
              rw [he2, List.length_append, List.length_singleton, hlp]
              exact Nat.le_refl _
          rcases x with _ | x
          · exact z1 hwx.symm
          · have := hmore x _ r3 hwx (by omega)
            omega
      · have hip3 : i < p := by omega
        have hpn : p < (ways ++ ad.map (fun m => ways.getD i [] ++ [m])).length := by simp; omega
        -- a child that is good has a parent that is so
        have hgc : ∀ m ∈ ad, (ways.getD i []).length = t + 1 → ¬ good far ((l : Int) + 1) (ways.getD i [] ++ [m]) := by
          rintro m hm hlen ⟨q1, q2⟩
          rw [last_app] at q1 q2
          rw [List.length_append, List.length_singleton] at q2
          obtain ⟨m1, hwm⟩ := hchild m hm
          have h1 := Walk.app hwm (hD.wlk m m1 q1)
          have h2 := hD.least (last (ways.getD i [])) (cyO far m).toNat w2 (by rw [Nat.add_comm]; exact h1)
          refine hng i (Nat.le_refl _) hip3 hlen ⟨h2.1, ?_⟩
          by_cases hz : (ways.getD i []).length = 1
          · have h3 : Walk E 0 n (last (ways.getD i [])) := by rw [hz] at w3; exact w3
            have h4 : last (ways.getD i []) = n := h3.symm
            rw [h4] at h2 ⊢
            omega
          · have h3 := hmore ((ways.getD i []).length - 2) _ w2 (by rw [show (ways.getD i []).length - 2 + 1 = (ways.getD i []).length - 1 by omega]; exact w3) h2.1
            omega
        refine ih (i + 1) p _ _ k t hb (by omega) (by omega) (by omega) hpn ht (by rw [getW_app hp]; exact hw) ?_ ?_ ?_
        · intro q hq hqp hlen
          rw [getW_app (by omega)] at hlen ⊢
          exact hng q (by omega) hqp hlen
        · intro q hq hql hlen
          by_cases hlt : q < ways.length
          · rw [getW_app hlt] at hlen ⊢
            exact hnn q (by omega) hlt hlen
          · obtain ⟨m, _, hm, he2⟩ := getW_new (by omega) hql
            rw [he2] at hlen ⊢
            rw [List.length_append, List.length_singleton] at hlen
            exact hgc m hm (by omega)
        · intro htt hsn
          rcases List.mem_append.1 hsn with h1 | h1
          · exact hns htt h1
          · obtain ⟨r1, r2⟩ := g2 (t + 1) htt
            obtain ⟨m1, hwm⟩ := hchild _ h1
            by_cases hlen : (ways.getD i []).length = t + 1
            · refine hgc _ h1 hlen ⟨?_, ?_⟩
              · rw [last_app]; omega
              · rw [last_app, List.length_append, List.length_singleton]; omega
            · have h3 := hmore ((ways.getD i []).length - 1) _ r1 (by rw [Nat.sub_add_cancel w1]; exact hlast _ hwm) (by omega)
              omega
/-- The search by ways tells the greedy way, or none. -/
theorem lw_tells {E : List (List Int)} {n : Int} {far : List Int} (hE : Good E) (hn : R n) (hD : Dist E n far) (k : Nat) (hk : 101 < k) : lwGo E n k 0 [[n]] [] = some (if cyO far n = 0 then [] else n :: goF E far n ((cyO far n).toNat - 1) n) := by
  have hb : Basic E n 0 [[n]] [] := by
    constructor
    · intro a _ ha
      have : a = 0 := by simp at ha; omega
      subst this
      exact ⟨by simp, hn, rfl⟩
    · intro a b _ hab hb
      have h1 : b = 0 := by simp at hb; omega
      have h2 : a = 0 := by omega
      subst h1; subst h2
      simp
    · intro m hm; simp at hm
    · have : us [] = 100 := by decide
      rw [this]; simp
  by_cases h0 : cyO far n = 0
  · rw [if_pos h0]
    exact lw_none hE hn hD h0 101 0 _ _ k hb (by omega) hk
  · rw [if_neg h0]
    have := hD.nn n
    exact lw_some hE hn hD (l := (cyO far n).toNat - 1) (by omega) 101 0 0 _ _ k 0 hb (by omega) hk (Nat.le_refl _) (by simp) (by omega) rfl (fun q _ hq => by omega) (fun q _ hq hl => by
      have : q = 0 := by simp at hq; omega
      subst this
      simp at hl) (fun _ h => by simp at h)
/-- The two searches, number after number. -/
def lcGo (E : List (List Int)) (k : Nat) : Nat → Int → Option (List Int)
  | 0, _ => some []
  | m + 1, n => match lwGo E n k 0 [[n]] [] with
    | none => none
    | some w => if w.length > 0 then some w else lcGo E k m (n + 1)
theorem Dist.mem {E : List (List Int)} {goal : Int} {out : List Int} (h : Dist E goal out) : ∀ v ∈ out, 0 ≤ v ∧ v ≤ 1000 := by
  intro v hv
  obtain ⟨j, hj, rfl⟩ := List.getElem_of_mem hv
  have e : out[j] = cyO out (j : Int) := by simp [cyO, hj]
  rw [e]
  exact ⟨h.nn _, h.bd _⟩
theorem cy_tells {E : List (List Int)} (hE : Good E) (k : Nat) (hk : 101 < k) : ∀ (m : Nat) (n : Int), 0 ≤ n → n + m = 100 → ∃ r, cyGo E k m n = some (r, decide (0 < r.length)) ∧ lcGo E k m n = some r
  | 0, n, h0, h1 => ⟨[], rfl, rfl⟩
  | m + 1, n, h0, h1 => by
    have hn : R n := ⟨h0, by omega⟩
    obtain ⟨far, hf, hD⟩ := bs_tells hE hn k hk
    have hl := lw_tells hE hn hD k hk
    unfold cyGo lcGo
    rw [hf, hl]
    simp only
    rw [if_pos ⟨hD.len, hD.mem⟩]
    by_cases hz : cyO far n = 0
    · rw [if_pos hz, if_pos hz, if_neg (by simp)]
      exact cy_tells hE k hk m (n + 1) (by omega) (by omega)
    · rw [if_neg hz, if_neg hz, if_pos (by simp)]
      exact ⟨_, by simp, rfl⟩
end Cyc
/-! ### rows of rows of numbers -/
theorem rdL1 (xs : List (List Int)) (i : Nat) (h : i < xs.length) : rd_L1 xs (i : Int) = xs[i] := by simp [rd_L1, h]
theorem toIntSS_ev (xs : List (List Int)) (hx : xs.length ≤ 1048576) (hl : ∀ row ∈ xs, row.length ≤ 1048576) : Ev (fun k => laws_toIntSS.f k xs) xs := by
  have hm := ev_map_all (fun k acc i => laws_toIntSS.l0 k xs acc i) xs (fun row => row) [] [] (fun i acc r hi ha h => ?_) (fun acc ha => ?_)
  · rw [List.map_id'] at hm
    refine Ev.congr (fun k => ?_) hm
    simp only [laws_toIntSS.f]
    rw [if_pos (by omega), if_pos (by simp only [Int.toNat_natCast]; omega)]
    simp only [Int.toNat_natCast]
  · have eg : xs.getD i [] = xs[i] := by simp [hi]
    rw [eg] at h
    refine Ev.step (f := fun k => (laws_toIntS.f k xs[i]).bind fun t => laws_toIntSS.l0 k xs (acc.set i t) ((i + 1 : Nat) : Int)) (fun k => ?_) (Ev.bind (toIntS_ev xs[i] (hl _ (List.getElem_mem _))) h)
    simp only [laws_toIntSS.l0]
    rw [if_pos (by omega), if_pos (by omega), rdL1 xs i hi, wrap_id (n := (i : Int) + 1) (by omega) (by omega)]
    congr 1
    funext t
    rw [if_pos (by omega)]
    rfl
  · refine Ev.step (f := fun _ => some acc) (fun k => ?_) (Ev.now _)
    simp only [laws_toIntSS.l0]; rw [if_neg (by omega)]
theorem eqIntSS_ev (xs : List (List Int)) (hx : xs.length ≤ 1048576) (hl : ∀ row ∈ xs, row.length ≤ 1048576) : Ev (fun k => laws_eqIntSS.f k xs xs) true := by
  have h := ev_up (fun k i => laws_eqIntSS.l0 k xs xs i) xs.length true (fun i hi h => ?_) ?_ xs.length 0 (by omega)
  · refine Ev.congr (fun k => ?_) h
    simp only [laws_eqIntSS.f]; rw [if_pos trivial]; rfl
  · refine Ev.step (f := fun k => (laws_eqIntS.f k xs[i] xs[i]).bind fun t => if t = true then laws_eqIntSS.l0 k xs xs ((i + 1 : Nat) : Int) else some false) (fun k => ?_) (Ev.bind (eqIntS_ev _ (hl _ (List.getElem_mem _))) (Ev.ite_pos rfl h))
    simp only [laws_eqIntSS.l0]
    rw [if_pos (by omega), if_pos (by omega), if_pos (by omega), wrap_id (n := (i : Int) + 1) (by omega) (by omega), rdL1 xs i hi]
    rfl
  · refine Ev.step (f := fun _ => some true) (fun k => ?_) (Ev.now _)
    simp only [laws_eqIntSS.l0]; rw [if_neg (by omega)]
theorem sz_loop (ys : List (List Int)) (hy : ys.length ≤ 1048576) (ho : ∀ row ∈ ys, row.length ≤ 9223372036854775807) : ∀ (d i : Nat) (m : Int), i + d = ys.length → 0 ≤ m → m ≤ 1048576 →
    ∃ r, Ev (fun k => laws_szIntSS.l0 k ys m (i : Int)) r ∧ (0 ≤ r → ∀ j (h : j < ys.length), i ≤ j → (ys[j]).length ≤ 1048576)
  | 0, i, m, h, h0, h1 => by
    refine ⟨m, Ev.step (f := fun _ => some m) (fun k => ?_) (Ev.now _), fun _ j hj hij => by omega⟩
    simp only [laws_szIntSS.l0]; rw [if_neg (by omega)]
  | d + 1, i, m, h, h0, h1 => by
    have hi : i < ys.length := by omega
    have hst : ∀ k, laws_szIntSS.l0 (k+1) ys m (i : Int) = if (if m - ((ys[i]).length : Int) < 0 then (-1 : Int) else m - ((ys[i]).length : Int)) < 0 then some (-1) else laws_szIntSS.l0 k ys (if m - ((ys[i]).length : Int) < 0 then (-1 : Int) else m - ((ys[i]).length : Int)) ((i + 1 : Nat) : Int) := by
      intro k
      simp only [laws_szIntSS.l0]
      rw [if_pos (by omega), if_pos (by omega), rdL1 ys i hi, sz_int _ m h0 h1 (ho _ (List.getElem_mem _)), Option.bind_some, wrap_id (n := (i : Int) + 1) (by omega) (by omega)]
      rfl
    by_cases c : m - ((ys[i]).length : Int) < 0
    · simp only [if_pos c] at hst
      exact ⟨-1, Ev.step hst (Ev.ite_pos (by omega) (Ev.now _)), fun q => by omega⟩
    · simp only [if_neg c] at hst
      obtain ⟨r, hr, hall⟩ := sz_loop ys hy ho d (i + 1) (m - ((ys[i]).length : Int)) (by omega) (by omega) (by omega)
      refine ⟨r, Ev.step hst hr, fun q j hj hij => ?_⟩
      by_cases e : j = i
      · subst e; omega
      · exact hall q j hj (by omega)
theorem sz_all (ys : List (List Int)) (hb : ys.length * 24 ≤ 140737488351232) (ho : ∀ row ∈ ys, row.length ≤ 9223372036854775807) : ∃ r, Ev (fun k => laws_szIntSS.f k ys 1048576) r ∧ (0 ≤ r → ys.length ≤ 1048576 ∧ ∀ row ∈ ys, row.length ≤ 1048576) := by
  simp only [laws_szIntSS.f]
  rw [wrap_id (n := 1048576 - (ys.length : Int)) (by omega) (by omega)]
  by_cases c : 1048576 - (ys.length : Int) < 0
  · exact ⟨-1, Ev.ite_pos c (Ev.now _), fun q => by omega⟩
  · obtain ⟨r, hr, hall⟩ := sz_loop ys (by omega) ho ys.length 0 (1048576 - (ys.length : Int)) (by omega) (by omega) (by omega)
    refine ⟨r, Ev.ite_neg c hr, fun q => ⟨by omega, fun row hrow => ?_⟩⟩
    obtain ⟨j, hj, rfl⟩ := List.getElem_of_mem hrow
    exact hall q j hj (by omega)
theorem marks_go : ∀ (ys : List (List Int)) (a : Int), (∀ row ∈ ys, row.length ≤ 1048576) → 0 ≤ a → a + 1048576 * (ys.length : Int) ≤ 4000000000000000000 → ∃ r : Int, 0 ≤ r ∧ Ev (fun k => laws_markIntSS.go k ys a) r
  | [], a, _, h0, _ => ⟨a, h0, Ev.now _⟩
  | x :: r, a, hl, h0, h1 => by
    have hx := hl x List.mem_cons_self
    rw [List.length_cons] at h1
    obtain ⟨q, q0, hq⟩ := marks_go r (a + x.length) (fun row h => hl row (List.mem_cons_of_mem _ h)) (by omega) (by omega)
    refine ⟨q, q0, ?_⟩
    simp only [laws_markIntSS.go]
    exact Ev.bind (markIntS_ev x a hx h0 (by omega)) hq
theorem marks_ev (ys : List (List Int)) (hy : ys.length ≤ 1048576) (hl : ∀ row ∈ ys, row.length ≤ 1048576) : ∃ r : Int, 0 ≤ r ∧ Ev (fun k => laws_markIntSS.f k ys 1) r := by
  obtain ⟨r, r0, hr⟩ := marks_go ys 1 hl (by omega) (by omega)
  refine ⟨r, r0, ?_⟩
  simp only [laws_markIntSS.f]
  exact Ev.ite_pos (by omega) hr
/-! ### pairs that are good -/
def gp (e : List Int) : Bool := decide (e.length = 2 ∧ (0 ≤ e.getD 0 0 ∧ e.getD 0 0 ≤ 99) ∧ (0 ≤ e.getD 1 0 ∧ e.getD 1 0 ≤ 99))
theorem rd0 (e : List Int) : rd e 0 = e.getD 0 0 := rfl
theorem rd1 (e : List Int) : rd e 1 = e.getD 1 0 := rfl
theorem gp_all (e : List Int) (h : e.length = 2) : e.all (inB 0 99) = gp e := by
  match e, h with
  | [a, b], _ => simp [gp, inB]
theorem bad_pair (e : List Int) : impl_CycleIn_1.f e = some (!gp e) := by
  simp only [impl_CycleIn_1.f, in_dec, Option.bind_some, rd0, rd1]
  by_cases h : e.length = 2
  · rw [if_pos (by omega), if_pos (by omega)]
    by_cases h1 : (0 ≤ e.getD 0 0 ∧ e.getD 0 0 ≤ 99)
    · have : gp e = decide (0 ≤ e.getD 1 0 ∧ e.getD 1 0 ≤ 99) := by
        unfold gp
        rw [decide_eq_decide]
        exact ⟨fun q => q.2.2, fun q => ⟨h, h1, q⟩⟩
      rw [if_pos (decide_eq_true h1), if_pos (by omega), this]
    · rw [if_neg (by simpa using h1)]
      have : gp e = false := decide_eq_false (fun q => h1 q.2.1)
      rw [this]
      rfl
  · rw [if_neg (by omega)]
    have : gp e = false := decide_eq_false (fun q => h q.1)
    rw [this]
    rfl
theorem index_loop (xs : List (List Int)) (hx : xs.length ≤ 1048576) : ∀ d i : Nat, i + d = xs.length → ∃ r : Int, (decide (r ≥ 0) = !(xs.drop i).all gp) ∧ Ev (fun k => slices_IndexFunc_int_int_impl_CycleIn_1.l0 k xs (xs.length : Int) (i : Int)) r
  | 0, i, h => by
    rw [List.drop_eq_nil_of_le (by omega)]
    refine ⟨-1, by simp, Ev.step (f := fun _ => some (-1)) (fun k => ?_) (Ev.now _)⟩
    simp only [slices_IndexFunc_int_int_impl_CycleIn_1.l0]; rw [if_neg (by omega)]
  | d + 1, i, h => by
    have hi : i < xs.length := by omega
    obtain ⟨r, e1, e2⟩ := index_loop xs hx d (i + 1) (by omega)
    rw [List.drop_eq_getElem_cons hi, List.all_cons]
    cases hg : gp xs[i] with
    | true =>
      rw [Bool.true_and]
      refine ⟨r, e1, Ev.step (fun k => ?_) e2⟩
      simp only [slices_IndexFunc_int_int_impl_CycleIn_1.l0]
      rw [if_pos (by omega), if_pos (by omega), if_pos (by omega), rdL1 xs i hi, bad_pair, hg, Option.bind_some, if_neg (by simp), wrap_id (n := (i : Int) + 1) (by omega) (by omega)]
      rfl
    | false =>
      rw [Bool.false_and]
      refine ⟨(i : Int), by simp, Ev.step (f := fun _ => some (i : Int)) (fun k => ?_) (Ev.now _)⟩
      simp only [slices_IndexFunc_int_int_impl_CycleIn_1.l0]
      rw [if_pos (by omega), if_pos (by omega), if_pos (by omega), rdL1 xs i hi, bad_pair, hg, Option.bind_some, if_pos (by simp)]
theorem contains_ev (xs : List (List Int)) (hx : xs.length ≤ 1048576) : Ev (fun k => slices_ContainsFunc_int_int_impl_CycleIn_1.f k xs) (!xs.all gp) := by
  obtain ⟨r, e1, e2⟩ := index_loop xs hx xs.length 0 (by omega)
  rw [List.drop_zero] at e1
  rw [← e1]
  simp only [slices_ContainsFunc_int_int_impl_CycleIn_1.f, slices_IndexFunc_int_int_impl_CycleIn_1.f]
  exact Ev.bind e2 (Ev.now _)
theorem all_ev (lo hi : Int) (xs : List Int) (hx : xs.length ≤ 1048576) : Ev (fun k => spec_l1All.f k xs lo hi) (xs.all (inB lo hi)) := by
  have h := all_loop lo hi xs hx xs.length 0 (by omega)
  rw [List.drop_zero] at h
  exact h
theorem pairs_loop (xs : List (List Int)) (hx : xs.length ≤ 1048576) : ∀ d i : Nat, i + d = xs.length → Ev (fun k => spec_l3Pairs.l0 k xs xs (xs.length : Int) (i : Int)) ((xs.drop i).all gp && decide (xs.length ≤ 100))
  | 0, i, h => by
    rw [List.drop_eq_nil_of_le (by omega), List.all_nil, Bool.true_and]
    refine Ev.step (f := fun _ => some (decide (xs.length ≤ 100))) (fun k => ?_) (Ev.now _)
    simp only [spec_l3Pairs.l0]; rw [if_neg (by omega)]
    have : ((xs.length : Int) ≤ 100) = (xs.length ≤ 100) := propext (by omega)
    simp only [this]
  | d + 1, i, h => by
    have hi : i < xs.length := by omega
    rw [List.drop_eq_getElem_cons hi, List.all_cons, Bool.and_assoc]
    by_cases h2 : (xs[i]).length = 2
    · refine Ev.step (f := fun k => (spec_l1All.f k xs[i] 0 99).bind fun t => if t = true then spec_l3Pairs.l0 k xs xs (xs.length : Int) ((i + 1 : Nat) : Int) else some false) (fun k => ?_) (Ev.bind (all_ev 0 99 xs[i] (by omega)) ?_)
      · simp only [spec_l3Pairs.l0]
        rw [if_pos (by omega), if_pos (by omega), if_pos (by omega), rdL1 xs i hi, if_pos (by omega), wrap_id (n := (i : Int) + 1) (by omega) (by omega)]
        rfl
      · rw [gp_all _ h2]
        cases hg : gp xs[i] with
        | true => rw [Bool.true_and]; exact Ev.ite_pos rfl (pairs_loop xs hx d (i + 1) (by omega))
        | false => rw [Bool.false_and]; exact Ev.ite_neg (by simp) (Ev.now _)
    · have hg : gp xs[i] = false := decide_eq_false (fun q => h2 q.1)
      rw [hg, Bool.false_and]
      refine Ev.step (f := fun _ => some false) (fun k => ?_) (Ev.now _)
      simp only [spec_l3Pairs.l0]
      rw [if_pos (by omega), if_pos (by omega), if_pos (by omega), rdL1 xs i hi, if_neg (by omega)]
theorem pairs_ev (xs : List (List Int)) (hx : xs.length ≤ 1048576) : Ev (fun k => spec_l3Pairs.f k xs) (xs.all gp && decide (xs.length ≤ 100)) := by
  have h := pairs_loop xs hx xs.length 0 (by omega)
  rw [List.drop_zero] at h
  exact h
theorem good_of {xs : List (List Int)} (h1 : xs.all gp = true) (h2 : xs.length ≤ 100) : cyGood xs := by
  refine ⟨h2, fun e he => ?_⟩
  have := of_decide_eq_true (List.all_eq_true.mp h1 e he)
  exact ⟨this.1, this.2.1.1, this.2.1.2, this.2.2.1, this.2.2.2⟩
/-! ### the search by ways -/
theorem put_loop (xs : List Int) (a : Int) (hx : xs.length ≤ 1048576) : ∀ d i : Nat, i + d = xs.length → Ev (fun k => spec_l1Put.l0 k xs a (i : Int)) (xs.take i ++ Cyc.putF (xs.drop i) a)
  | 0, i, h => by
    rw [List.drop_eq_nil_of_le (by omega)]
    refine Ev.step (f := fun _ => some (xs.take i ++ [a])) (fun k => ?_) (Ev.now _)
    simp only [spec_l1Put.l0, Option.bind_some]
    rw [if_neg (by omega), if_pos (by omega), if_pos (by omega), if_pos (by simp; omega), if_pos (by simp; omega), if_pos (by simp; omega), List.nil_append, Int.toNat_natCast, List.drop_eq_nil_of_le (by omega), List.append_nil]
  | d + 1, i, h => by
    have hi : i < xs.length := by omega
    have e0 : ((i : Int)).toNat = i := Int.toNat_natCast i
    have er : rd xs (i : Int) = xs[i] := by simp [rd, hi]
    rw [List.drop_eq_getElem_cons hi]
    simp only [Cyc.putF]
    by_cases c1 : xs[i] < a
    · rw [if_pos c1]
      have ih := put_loop xs a hx d (i + 1) (by omega)
      rw [List.take_succ_eq_append_getElem hi, List.append_assoc] at ih
      refine Ev.step (fun k => ?_) ih
      simp only [spec_l1Put.l0]
      rw [if_pos (by omega), if_pos (by omega), er, if_pos c1, wrap_id (n := (i : Int) + 1) (by omega) (by omega)]
      rfl
    · rw [if_neg c1]
      by_cases c2 : xs[i] = a
      · rw [if_pos c2, ← List.drop_eq_getElem_cons hi, List.take_append_drop]
        refine Ev.step (f := fun _ => some xs) (fun k => ?_) (Ev.now _)
        simp only [spec_l1Put.l0]
        rw [if_pos (by omega), if_pos (by omega), er, if_neg c1, if_pos c2]
      · rw [if_neg c2, ← List.drop_eq_getElem_cons hi]
        refine Ev.step (f := fun _ => some (xs.take i ++ a :: xs.drop i)) (fun k => ?_) (Ev.now _)
        simp only [spec_l1Put.l0, Option.bind_some]
        rw [if_pos (by omega), if_pos (by omega), er, if_neg c1, if_neg c2, if_pos (by omega), e0, if_pos (by simp; omega), if_pos (by simp; omega), if_pos (by simp; omega), List.nil_append, List.append_assoc]
        rfl
theorem put_ev (xs : List Int) (a : Int) (hx : xs.length ≤ 1048576) : Ev (fun k => spec_l1Put.f k xs a) (Cyc.putF xs a) := by
  have h := put_loop xs a hx xs.length 0 (by omega)
  simp only [List.take_zero, List.drop_zero, List.nil_append] at h
  exact h
theorem putF_length (a : Int) : ∀ l : List Int, (Cyc.putF l a).length ≤ l.length + 1
  | [] => by simp [Cyc.putF]
  | x :: r => by
    unfold Cyc.putF
    have := putF_length a r
    by_cases c1 : x < a
    · rw [if_pos c1]
      simp only [List.length_cons]
      omega
    · rw [if_neg c1]
      by_cases c2 : x = a
      · rw [if_pos c2]
        simp
      · rw [if_neg c2]
        simp
theorem nextsF_length (a : Int) : ∀ (r : List (List Int)) (l : List Int), (Cyc.nextsF a r l).length ≤ l.length + r.length
  | [], l => by simp [Cyc.nextsF]
  | e :: r, l => by
    unfold Cyc.nextsF
    have h1 := nextsF_length a r (if cySrc e = a then Cyc.putF l (cyDst e) else l)
    have h2 : (if cySrc e = a then Cyc.putF l (cyDst e) else l).length ≤ l.length + 1 := by
      split
      · exact putF_length _ _
      · omega
    simp only [List.length_cons]
    omega
theorem own_ev (l : List Int) (hl : l.length ≤ 1048576) : spec_l1Own.f l = some l := by
  simp only [spec_l1Own.f, Option.bind_some]
  rw [if_pos (by simp; omega), List.nil_append]
theorem has_ev (ys : List Int) (hy : ys.length ≤ 1048576) (n : Int) : Ev (fun k => spec_l1Has.f k ys n) (decide (n ∈ ys)) := by
  have := has_loop n ys hy ys.length 0 (by omega)
  rwa [List.drop_zero] at this
/-- The inner loop over the next ones. -/
theorem l2_loop (E : List (List Int)) (dest : Int) (i : Nat) (hi : i ≤ 1000) (w nx : List Int) (hw : w.length ≤ 1048576) (hn : nx.length ≤ 1000) (r : List Int) : ∀ (d j : Nat) (ways : List (List Int)) (seen : List Int), j + d = nx.length → ways.length ≤ 1000000 + j → seen.length ≤ 1000000 + j →
    ((Cyc.lwIn dest w (nx.drop j) ways seen).1 = true → r = w) → (¬ (Cyc.lwIn dest w (nx.drop j) ways seen).1 = true → Ev (fun k => spec_l3Way.l0 k E dest (Cyc.lwIn dest w (nx.drop j) ways seen).2.1 (Cyc.lwIn dest w (nx.drop j) ways seen).2.2 ((i + 1 : Nat) : Int)) r) →
    Ev (fun k => spec_l3Way.l2 k E dest ways seen (i : Int) w nx (nx.length : Int) (j : Int)) r
  | 0, j, ways, seen, h, h1, h2, hc1, hc2 => by
    rw [List.drop_eq_nil_of_le (by omega)] at hc2
    refine Ev.step (fun k => ?_) (hc2 (by simp [Cyc.lwIn]))
    simp only [spec_l3Way.l2]
    rw [if_neg (by omega), wrap_id (n := (i : Int) + 1) (by omega) (by omega)]
    rfl
  | d + 1, j, ways, seen, h, h1, h2, hc1, hc2 => by
    have hj : j < nx.length := by omega
    have er : rd nx (j : Int) = nx[j] := by simp [rd, hj]
    have el : Cyc.lwIn dest w (nx.drop j) ways seen = if nx[j] = dest then (true, ways, seen) else if nx[j] ∈ seen then Cyc.lwIn dest w (nx.drop (j + 1)) ways seen else Cyc.lwIn dest w (nx.drop (j + 1)) (ways ++ [w ++ [nx[j]]]) (seen ++ [nx[j]]) := by
      rw [List.drop_eq_getElem_cons hj]
      rfl
    by_cases c1 : nx[j] = dest
    · rw [el, if_pos c1] at hc1
      have hr := hc1 rfl
      refine Ev.step (f := fun _ => some w) (fun k => ?_) (by rw [hr]; exact Ev.now _)
      simp only [spec_l3Way.l2]
      rw [if_pos (by omega), if_pos (by omega), if_pos (by omega), er, if_pos c1]
    · rw [if_neg c1] at el
      have hst : ∀ k, spec_l3Way.l2 (k + 1) E dest ways seen (i : Int) w nx (nx.length : Int) (j : Int) = (spec_l1Has.f k seen nx[j]).bind fun t => if t = true then spec_l3Way.l2 k E dest ways seen (i : Int) w nx (nx.length : Int) ((j + 1 : Nat) : Int) else spec_l3Way.l2 k E dest (ways ++ [w ++ [nx[j]]]) (seen ++ [nx[j]]) (i : Int) w nx (nx.length : Int) ((j + 1 : Nat) : Int) := by
        intro k
        simp only [spec_l3Way.l2]
        rw [if_pos (by omega), if_pos (by omega), if_pos (by omega), er, if_neg c1, wrap_id (n := (j : Int) + 1) (by omega) (by omega)]
        congr 1
        funext t
        rw [if_pos (show seen.length < 17592186044416 by omega), own_ev w hw, Option.bind_some, if_pos (show w.length < 17592186044416 by omega), if_pos (show ways.length < 5864062014805 by omega)]
        rfl
      by_cases c2 : nx[j] ∈ seen
      · rw [if_pos c2] at el
        rw [el] at hc1 hc2
        exact Ev.step hst (Ev.bind (has_ev seen (by omega) nx[j]) (Ev.ite_pos (decide_eq_true c2) (l2_loop E dest i hi w nx hw hn r d (j + 1) ways seen (by omega) (by omega) (by omega) hc1 hc2)))
      · rw [if_neg c2] at el
        rw [el] at hc1 hc2
        exact Ev.step hst (Ev.bind (has_ev seen (by omega) nx[j]) (Ev.ite_neg (by simp [c2]) (l2_loop E dest i hi w nx hw hn r d (j + 1) (ways ++ [w ++ [nx[j]]]) (seen ++ [nx[j]]) (by omega) (by rw [List.length_append, List.length_singleton]; omega) (by rw [List.length_append, List.length_singleton]; omega) hc1 hc2)))
theorem l1_loop (E : List (List Int)) (hE : cyGood E) (dest : Int) (i : Nat) (w : List Int) (hw0 : 0 < w.length) (hw : w.length ≤ 1048576) (ways : List (List Int)) (seen : List Int) (r : List Int) : ∀ (d j : Nat) (nx : List Int), j + d = E.length → nx.length ≤ j →
    Ev (fun k => spec_l3Way.l2 k E dest ways seen (i : Int) w (Cyc.nextsF (Cyc.last w) (E.drop j) nx) ((Cyc.nextsF (Cyc.last w) (E.drop j) nx).length : Int) 0) r →
    Ev (fun k => spec_l3Way.l1 k E dest ways seen (i : Int) w nx E (E.length : Int) (j : Int)) r
  | 0, j, nx, h, hn, hc => by
    rw [List.drop_eq_nil_of_le (by omega)] at hc
    simp only [Cyc.nextsF] at hc
    refine Ev.step (fun k => ?_) hc
    simp only [spec_l3Way.l1]
    rw [if_neg (by omega)]
  | d + 1, j, nx, h, hn, hc => by
    have hj : j < E.length := by omega
    have hE1 := hE.1
    obtain ⟨g1, g2, g3, g4, g5⟩ := hE.2 E[j] (List.getElem_mem hj)
    have es : rd E[j] 0 = cySrc E[j] := rfl
    have ed : rd E[j] 1 = cyDst E[j] := rfl
    have el : rd w (wrap64 ((w.length : Int) - 1)) = Cyc.last w := by
      rw [wrap_id (by omega) (by omega)]
      simp only [rd, Cyc.last]
      congr 1
      omega
    have hw1 : wrap64 ((w.length : Int) - 1) = (w.length : Int) - 1 := wrap_id (by omega) (by omega)
    rw [List.drop_eq_getElem_cons hj] at hc
    simp only [Cyc.nextsF] at hc
    by_cases c1 : cySrc E[j] = Cyc.last w
    · rw [if_pos c1] at hc
      have ih := l1_loop E hE dest i w hw0 hw ways seen r d (j + 1) (Cyc.putF nx (cyDst E[j])) (by omega) (by have := putF_length (cyDst E[j]) nx; omega) hc
      refine Ev.step (f := fun k => (spec_l1Put.f k nx (cyDst E[j])).bind fun t => spec_l3Way.l1 k E dest ways seen (i : Int) w t E (E.length : Int) ((j + 1 : Nat) : Int)) (fun k => ?_) (Ev.bind (put_ev nx (cyDst E[j]) (by omega)) ih)
      simp only [spec_l3Way.l1]
      rw [if_pos (by omega), if_pos (by omega), if_pos (by omega), rdL1 E j hj, if_pos (by omega), if_pos (by omega), if_pos (by omega), el, es, if_pos c1, if_pos (by omega), ed, wrap_id (n := (j : Int) + 1) (by omega) (by omega)]
      rfl
    · rw [if_neg c1] at hc
      have ih := l1_loop E hE dest i w hw0 hw ways seen r d (j + 1) nx (by omega) (by omega) hc
      refine Ev.step (fun k => ?_) ih
      simp only [spec_l3Way.l1]
      rw [if_pos (by omega), if_pos (by omega), if_pos (by omega), rdL1 E j hj, if_pos (by omega), if_pos (by omega), if_pos (by omega), el, es, if_neg c1, wrap_id (n := (j : Int) + 1) (by omega) (by omega)]
      rfl
theorem lwIn_len (dest : Int) (w : List Int) (hw : 0 < w.length) : ∀ (nx : List Int) (ways : List (List Int)) (seen : List Int) (m : Nat), (∀ v ∈ ways, 0 < v.length ∧ v.length ≤ m) → w.length + 1 ≤ m →
    (Cyc.lwIn dest w nx ways seen).2.1.length ≤ ways.length + nx.length ∧ (Cyc.lwIn dest w nx ways seen).2.2.length ≤ seen.length + nx.length ∧ ∀ v ∈ (Cyc.lwIn dest w nx ways seen).2.1, 0 < v.length ∧ v.length ≤ m
  | [], ways, seen, m, h, _ => ⟨Nat.le_refl _, Nat.le_refl _, h⟩
  | x :: r, ways, seen, m, h, hm => by
    unfold Cyc.lwIn
    by_cases c1 : x = dest
    · rw [if_pos c1]
      exact ⟨by simp, by simp, h⟩
    · rw [if_neg c1]
      by_cases c2 : x ∈ seen
      · rw [if_pos c2]
        obtain ⟨a, b, c⟩ := lwIn_len dest w hw r ways seen m h hm
        exact ⟨by simp only [List.length_cons]; omega, by simp only [List.length_cons]; omega, c⟩
      · rw [if_neg c2]
        obtain ⟨a, b, c⟩ := lwIn_len dest w hw r (ways ++ [w ++ [x]]) (seen ++ [x]) m (fun v hv => by
          rcases List.mem_append.1 hv with q | q
          · exact h v q
          · rw [List.mem_singleton.1 q]
            simp
            omega) hm
        simp only [List.length_append, List.length_cons, List.length_nil] at a b ⊢
        exact ⟨by omega, by omega, c⟩
theorem l0_loop (E : List (List Int)) (hE : cyGood E) (dest : Int) (r : List Int) : ∀ (K i : Nat) (ways : List (List Int)) (seen : List Int), i + K ≤ 900 → ways.length ≤ 1 + 100 * i → seen.length ≤ 100 * i → (∀ v ∈ ways, 0 < v.length ∧ v.length ≤ i + 1) → Cyc.lwGo E dest K i ways seen = some r →
    Ev (fun k => spec_l3Way.l0 k E dest ways seen (i : Int)) r ∧ r.length ≤ 2000
  | 0, i, ways, seen, _, _, _, _, h => by simp [Cyc.lwGo] at h
  | K + 1, i, ways, seen, hK, h1, h2, h3, h => by
    unfold Cyc.lwGo at h
    by_cases c1 : i < ways.length
    · rw [if_pos c1] at h
      have eg : ways.getD i [] = ways[i] := by simp [c1]
      rw [eg] at h
      obtain ⟨w1, w2⟩ := h3 ways[i] (List.getElem_mem c1)
      have hn := nextsF_length (Cyc.last ways[i]) E []
      have hE1 := hE.1
      rw [List.length_nil] at hn
      have hstep : ∀ k, spec_l3Way.l0 (k + 1) E dest ways seen (i : Int) = spec_l3Way.l1 k E dest ways seen (i : Int) ways[i] [] E (E.length : Int) ((0 : Nat) : Int) := by
        intro k
        simp only [spec_l3Way.l0]
        rw [if_pos (by omega), if_pos (by omega), Option.bind_some, rdL1 ways i c1]
        rfl
      obtain ⟨a, b, c⟩ := lwIn_len dest ways[i] w1 (Cyc.nextsF (Cyc.last ways[i]) E []) ways seen (i + 1 + 1) (fun v hv => ⟨(h3 v hv).1, by have := (h3 v hv).2; omega⟩) (by omega)
      by_cases c2 : (Cyc.lwIn dest ways[i] (Cyc.nextsF (Cyc.last ways[i]) E []) ways seen).1 = true
      · rw [if_pos c2] at h
        have hr : r = ways[i] := (Option.some.inj h).symm
        refine ⟨Ev.step hstep (l1_loop E hE dest i ways[i] w1 (by omega) ways seen r E.length 0 [] (by omega) (by simp) ?_), by rw [hr]; omega⟩
        rw [List.drop_zero]
        exact l2_loop E dest i (by omega) ways[i] _ (by omega) (by omega) r (Cyc.nextsF (Cyc.last ways[i]) E []).length 0 ways seen (by omega) (by omega) (by omega) (fun _ => hr) (fun q => absurd c2 q)
      · rw [if_neg c2] at h
        obtain ⟨e1, e2⟩ := l0_loop E hE dest r K (i + 1) _ _ (by omega) (by omega) (by omega) c h
        refine ⟨Ev.step hstep (l1_loop E hE dest i ways[i] w1 (by omega) ways seen r E.length 0 [] (by omega) (by simp) ?_), e2⟩
        rw [List.drop_zero]
        exact l2_loop E dest i (by omega) ways[i] _ (by omega) (by omega) r (Cyc.nextsF (Cyc.last ways[i]) E []).length 0 ways seen (by omega) (by omega) (by omega) (fun q => absurd q c2) (fun _ => e1)
    · rw [if_neg c1] at h
      obtain rfl := Option.some.inj h
      refine ⟨Ev.step (f := fun _ => some []) (fun k => ?_) (Ev.now _), by simp⟩
      simp only [spec_l3Way.l0]
      rw [if_neg (by omega)]
theorem way_ev (E : List (List Int)) (hE : cyGood E) (n : Int) (r : List Int) (h : Cyc.lwGo E n 102 0 [[n]] [] = some r) : Ev (fun k => spec_l3Way.f k E n n) r ∧ r.length ≤ 2000 :=
  l0_loop E hE n r 102 0 [[n]] [] (by omega) (by simp) (by simp) (by simp) h
theorem cycle_loop (E : List (List Int)) (hE : cyGood E) (r : List Int) : ∀ (m : Nat) (n : Int), 0 ≤ n → n + m = 100 → Cyc.lcGo E 102 m n = some r → Ev (fun k => spec_l3Cycle.l0 k E n) r ∧ r.length ≤ 2000
  | 0, n, h0, h1, h => by
    obtain rfl := Option.some.inj h
    refine ⟨Ev.step (f := fun _ => some []) (fun k => ?_) (Ev.now _), by simp⟩
    simp only [spec_l3Cycle.l0]
    rw [if_neg (by omega)]
  | m + 1, n, h0, h1, h => by
    unfold Cyc.lcGo at h
    cases hw : Cyc.lwGo E n 102 0 [[n]] [] with
    | none => rw [hw] at h; cases h
    | some w =>
      rw [hw] at h
      simp only at h
      obtain ⟨e1, e2⟩ := way_ev E hE n w hw
      have hst : ∀ k, spec_l3Cycle.l0 (k + 1) E n = (spec_l3Way.f k E n n).bind fun t => if (t.length : Int) > 0 then some t else spec_l3Cycle.l0 k E (n + 1) := by
        intro k
        simp only [spec_l3Cycle.l0]
        rw [if_pos (by omega), wrap_id (n := n + 1) (by omega) (by omega)]
      by_cases c1 : w.length > 0
      · rw [if_pos c1] at h
        obtain rfl := Option.some.inj h
        exact ⟨Ev.step hst (Ev.bind e1 (Ev.ite_pos (by omega) (Ev.now _))), e2⟩
      · rw [if_neg c1] at h
        obtain ⟨f1, f2⟩ := cycle_loop E hE r m (n + 1) (by omega) (by omega) h
        exact ⟨Ev.step hst (Ev.bind e1 (Ev.ite_neg (by omega) f1)), f2⟩
/-- The two answer alike. -/
theorem cyc_same (E : List (List Int)) (hx : E.length ≤ 1048576) : ∃ (r : List Int) (b : Bool), r.length ≤ 1048576 ∧ Ev (fun k => spec_CycleIn.f k E) (r, b) ∧ Ev (fun k => impl_CycleIn.f k E) (r, b) := by
  have hp := pairs_ev E hx
  have hc := contains_ev E hx
  by_cases c1 : E.all gp = true
  · rw [c1, Bool.true_and] at hp
    rw [c1, Bool.not_true] at hc
    by_cases c2 : E.length ≤ 100
    · rw [decide_eq_true c2] at hp
      have hE := good_of c1 c2
      have hG : Cyc.Good E := fun e he => (hE.2 e he).2
      obtain ⟨r, e1, e2⟩ := Cyc.cy_tells hG 102 (by omega) 100 0 (by omega) (by omega)
      obtain ⟨f1, f2⟩ := cycle_loop E hE r 100 0 (by omega) (by omega) e2
      have hi : Ev (fun k => impl_cycle.f k E) (r, decide (0 < r.length)) := Ev.of (impl_cycle.mono E) (k := 102) (by unfold impl_cycle.f; rw [if_pos hE]; exact e1)
      refine ⟨r, decide (0 < r.length), by omega, ?_, ?_⟩
      · simp only [spec_CycleIn.f, spec_l3Cycle.f]
        refine Ev.bind hp (Ev.ite_pos rfl (Ev.bind f1 ?_))
        by_cases c3 : 0 < r.length
        · rw [decide_eq_true c3]
          exact Ev.ite_neg (by omega) (Ev.bind f1 (Ev.now _))
        · rw [decide_eq_false c3]
          have : r = [] := List.eq_nil_of_length_eq_zero (by omega)
          subst this
          exact Ev.ite_pos (by simp) (Ev.now _)
      · simp only [impl_CycleIn.f]
        exact Ev.ite_neg (by omega) (Ev.bind hc (Ev.ite_neg (by simp) (Ev.bind hi (Ev.now _))))
    · rw [decide_eq_false c2] at hp
      refine ⟨[], false, by simp, ?_, ?_⟩
      · simp only [spec_CycleIn.f]
        exact Ev.bind hp (Ev.ite_neg (by simp) (Ev.now _))
      · simp only [impl_CycleIn.f]
        exact Ev.ite_pos (by omega) (Ev.now _)
  · rw [Bool.eq_false_iff.mpr c1] at hp hc
    rw [Bool.false_and] at hp
    rw [Bool.not_false] at hc
    refine ⟨[], false, by simp, ?_, ?_⟩
    · simp only [spec_CycleIn.f]
      exact Ev.bind hp (Ev.ite_neg (by simp) (Ev.now _))
    · simp only [impl_CycleIn.f]
      by_cases c2 : (E.length : Int) > 100
      · exact Ev.ite_pos c2 (Ev.now _)
      · exact Ev.ite_neg c2 (Ev.bind hc (Ev.ite_pos rfl (Ev.now _)))
theorem FnExactCycleIn : laws_FnExactCycleIn.Pure2 := by
  intro ys hok hb
  apply Ev.rounds
  simp only [laws_FnExactCycleIn.f]
  obtain ⟨s, hs, hall⟩ := sz_all ys hb (fun row h => (hok.2 row h).1)
  refine Ev.bind hs ?_
  by_cases h : s < 0
  · exact Ev.ite_pos h (Ev.now _)
  · refine Ev.ite_neg h ?_
    obtain ⟨hx, hl⟩ := hall (by omega)
    have ht := toIntSS_ev ys hx hl
    obtain ⟨r, b, hr, e1, e2⟩ := cyc_same ys hx
    obtain ⟨mk, mk0, hmk⟩ := marks_ev ys hx hl
    have hn : ∀ b : Bool, (b != b) = false := fun b => by simp
    have he := eqIntS_ev r hr
    have hm := markIntS_ev r 1 hr (by omega) (by omega)
    have hh := heldIntS_ev r.length 1 hr (by omega) (by omega)
    have j2 : Ev (fun k => laws_FnExactCycleIn.j2 k (iota 1 r.length) (1 + (r.length : Int)) (b != b)) true := by
      rw [hn]
      refine Ev.step (fun k => by simp only [laws_FnExactCycleIn.j2]; rw [if_neg (by simp)]) ?_
      exact Ev.bind hh (Ev.ite_neg (by omega) (Ev.ite_pos rfl (Ev.now _)))
    have j1 : Ev (fun k => laws_FnExactCycleIn.j1 k ys r b r (b != b)) true := by
      rw [hn]
      refine Ev.step (fun k => by simp only [laws_FnExactCycleIn.j1]; rw [if_neg (by simp)]) ?_
      exact Ev.bind hm (Ev.bind hh (Ev.ite_neg (by omega) (Ev.ite_pos rfl (Ev.bind ht (Ev.bind e2 (Ev.bind he (Ev.ite_pos rfl j2)))))))
    have j0 : Ev (fun k => laws_FnExactCycleIn.j0 k ys r b ys r b (b != b)) true := by
      rw [hn]
      refine Ev.step (fun k => by simp only [laws_FnExactCycleIn.j0]; rw [if_neg (by simp)]) ?_
      exact Ev.bind ht (Ev.bind (eqIntSS_ev ys hx hl) (Ev.ite_pos rfl (Ev.bind hmk (Ev.ite_neg (by omega) (Ev.bind he (Ev.ite_pos rfl j1))))))
    exact Ev.bind ht (Ev.bind e1 (Ev.bind ht (Ev.bind e2 (Ev.bind he (Ev.ite_pos rfl j0)))))

end Go.Proofs.Ytpfbiopcfbokbaa.Pure

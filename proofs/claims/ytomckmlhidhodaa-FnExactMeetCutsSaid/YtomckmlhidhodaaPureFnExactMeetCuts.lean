/- The pure statement of FnExactMeetCuts: both functions take the smaller counts place by place, for all lists; what they hand back is memory of its own. -/
import Derived.Test.YtomckmlhidhodaaQFnExactMeetCuts
import Derived.Test.YtomckmlhidhodaaMBase
import Derived.KernelRfl
set_option linter.unusedVariables false
set_option linter.unusedSimpArgs false
namespace Go.Proofs.Ytomckmlhidhodaa.Pure
open Go.RowKit Go.Proofs.Ytomckmlhidhodaa.GMeetCuts Go.Proofs.YtomckmlhidhodaaW.PrintWords Go.Proofs.YtomckmlhidhodaaW.PrintLast Go.Proofs.YtomckmlhidhodaaW.PrintMore Go.Proofs.Ytomckmlhidhodaa.MBase
theorem toIntS_l0 (xs : List Int) (hx : xs.length ≤ 1048576) : ∀ (d i : Nat) (acc : List Int), i + d = xs.length → acc.length = xs.length →
    Ev (fun k => laws_toIntS.l0 k xs acc (i : Int)) (acc.take i ++ xs.drop i)
  | 0, i, acc, h, ha => by
    have e : acc.take i ++ xs.drop i = acc := by rw [List.take_of_length_le (by omega), List.drop_eq_nil_of_le (by omega), List.append_nil]
    rw [e]
    refine Ev.step (f := fun _ => some acc) (fun k => ?_) (Ev.now _)
    simp only [laws_toIntS.l0]
    rw [if_neg (by omega)]
  | d + 1, i, acc, h, ha => by
    have ih := toIntS_l0 xs hx d (i + 1) (acc.set i (xs.getD i 0)) (by omega) (by simpa using ha)
    rw [set_take_drop xs acc 0 i (by omega) ha] at ih
    refine Ev.step (fun k => ?_) ih
    simp only [laws_toIntS.l0]
    rw [if_pos (by omega), if_pos (by omega), if_pos (by omega), wrap_id (by omega) (by omega), rd_nat]
    rfl
theorem toIntS_ev (xs : List Int) (hx : xs.length ≤ 1048576) : Ev (fun k => laws_toIntS.f k xs) xs := by
  have h := toIntS_l0 xs hx xs.length 0 (List.replicate xs.length 0) (by omega) (by simp)
  simp only [List.take_zero, List.drop_zero, List.nil_append] at h
  refine Ev.congr (fun k => ?_) h
  simp only [laws_toIntS.f]
  rw [if_pos (by omega), if_pos (by simp only [Int.toNat_natCast]; omega)]
  simp only [Int.toNat_natCast]
  rfl
theorem eqIntS_l0 (xs : List Int) (hx : xs.length ≤ 1048576) : ∀ (d i : Nat), i + d = xs.length → Ev (fun k => laws_eqIntS.l0 k xs xs (i : Int)) true
  | 0, i, h => by
    refine Ev.step (f := fun _ => some true) (fun k => ?_) (Ev.now _)
    simp only [laws_eqIntS.l0]
    rw [if_neg (by omega)]
  | d + 1, i, h => by
    refine Ev.step (fun k => ?_) (eqIntS_l0 xs hx d (i + 1) (by omega))
    simp only [laws_eqIntS.l0]
    rw [if_pos (by omega), if_pos (by omega), if_pos (by omega), if_pos trivial, wrap_id (by omega) (by omega)]
    rfl
theorem eqIntS_ev (xs : List Int) (hx : xs.length ≤ 1048576) : Ev (fun k => laws_eqIntS.f k xs xs) true := by
  refine Ev.congr (fun k => ?_) (eqIntS_l0 xs hx xs.length 0 (by omega))
  simp only [laws_eqIntS.f]
  rw [if_pos trivial]
  rfl
theorem markIntS_l0 (n : Nat) (hn : n ≤ 1048576) : ∀ (d i : Nat) (xs : List Int) (a : Int), i + d = n → xs.length = n → 0 ≤ a → a + (d : Int) ≤ 5000000000000000000 →
    Ev (fun k => laws_markIntS.l0 k xs a (i : Int)) (a + d, xs.take i ++ iota a d)
  | 0, i, xs, a, h, hl, h0, h1 => by
    have e : xs.take i ++ iota a 0 = xs := by rw [List.take_of_length_le (by omega), iota, List.append_nil]
    rw [e]
    refine Ev.step (f := fun _ => some (a, xs)) (fun k => ?_) ⟨0, fun _ _ => by simp⟩
    simp only [laws_markIntS.l0]
    rw [if_neg (by omega)]
  | d + 1, i, xs, a, h, hl, h0, h1 => by
    have ih := markIntS_l0 n hn d (i + 1) (xs.set i a) (a + 1) (by omega) (by simpa using hl) (by omega) (by omega)
    have e : (xs.set i a).take (i + 1) ++ iota (a + 1) d = xs.take i ++ iota a (d + 1) := by
      rw [List.take_succ_eq_append_getElem (by simp; omega), List.getElem_set_self, List.take_set, List.set_eq_of_length_le (by simp; omega), List.append_assoc]
      rfl
    rw [e, show a + 1 + (d : Int) = a + ((d + 1 : Nat) : Int) from by omega] at ih
    refine Ev.step (fun k => ?_) ih
    simp only [laws_markIntS.l0]
    rw [if_pos (by omega), if_pos (by omega), wrap_id (by omega) (by omega), wrap_id (by omega) (by omega)]
    rfl
theorem markIntS_ev (xs : List Int) (a : Int) (hn : xs.length ≤ 1048576) (h0 : 0 ≤ a) (h1 : a ≤ 4611686018427387000) : Ev (fun k => laws_markIntS.f k xs a) (a + xs.length, iota a xs.length) := by
  have h := markIntS_l0 xs.length hn xs.length 0 xs a (by omega) rfl h0 (by omega)
  simp only [List.take_zero, List.nil_append] at h
  exact h
theorem heldIntS_l0 (n : Nat) (hn : n ≤ 1048576) (a : Int) (h0 : 0 ≤ a) (h1 : a ≤ 4611686018427387000) : ∀ (d i : Nat), i + d = n →
    Ev (fun k => laws_heldIntS.l0 k (iota a n) (a + i) (i : Int)) (a + n)
  | 0, i, h => by
    obtain rfl : i = n := by omega
    refine Ev.step (f := fun _ => some (a + (i : Int))) (fun k => ?_) (Ev.now _)
    simp only [laws_heldIntS.l0, iota_length]
    rw [if_neg (by omega)]
  | d + 1, i, h => by
    refine Ev.step (fun k => ?_) (heldIntS_l0 n hn a h0 h1 d (i + 1) (by omega))
    simp only [laws_heldIntS.l0, iota_length]
    rw [if_pos (by omega), if_pos (by omega), if_pos (by rw [rd_nat, iota_getD _ _ _ (by omega)]), wrap_id (by omega) (by omega), wrap_id (by omega) (by omega), show a + (i : Int) + 1 = a + ((i + 1 : Nat) : Int) from by omega]
    rfl
theorem heldIntS_ev (n : Nat) (a : Int) (hn : n ≤ 1048576) (h0 : 0 ≤ a) (h1 : a ≤ 4611686018427387000) : Ev (fun k => laws_heldIntS.f k (iota a n) a) (a + n) := by
  have h := heldIntS_l0 n hn a h0 h1 n 0 (by omega)
  simp only [Int.ofNat_zero, Int.add_zero, Int.natCast_zero] at h
  exact h
theorem l1In_dec (a b c : Int) : spec_l1In.f a b c = some (decide (b ≤ a ∧ a ≤ c)) := by
  unfold spec_l1In.f
  by_cases h : b ≤ a
  · rw [if_pos h]; simp [h]
  · rw [if_neg h]; simp [h]
theorem in_dec (a b c : Int) : impl_in.f a b c = some (decide (b ≤ a ∧ a ≤ c)) := l1In_dec a b c
theorem all_loops (x : List Int) (hx : x.length ≤ 1048576) : ∀ (d i : Nat), i + d = x.length →
    ∃ b j, Ev (fun k => spec_l1All.l0 k 0 200 x (x.length : Int) (i : Int)) b ∧ Ev (fun k => slices_IndexFunc_int_int_impl_areCounts_1.l0 k x (x.length : Int) (i : Int)) j ∧ decide (j ≥ 0) = !b
  | 0, i, h => by
    refine ⟨true, -1, Ev.step (f := fun _ => some true) (fun k => ?_) (Ev.now _), Ev.step (f := fun _ => some (-1)) (fun k => ?_) (Ev.now _), by decide⟩
    · simp only [spec_l1All.l0]; rw [if_neg (by omega)]
    · simp only [slices_IndexFunc_int_int_impl_areCounts_1.l0]; rw [if_neg (by omega)]
  | d + 1, i, h => by
    by_cases e : 0 ≤ rd x (i : Int) ∧ rd x (i : Int) ≤ 200
    · obtain ⟨b, j, hs, hi, hb⟩ := all_loops x hx d (i + 1) (by omega)
      refine ⟨b, j, Ev.step (fun k => ?_) hs, Ev.step (fun k => ?_) hi, hb⟩
      · simp only [spec_l1All.l0]
        rw [if_pos (by omega), if_pos (by omega), if_pos (by omega), l1In_dec, Option.bind_some, decide_eq_true e, if_pos rfl, wrap_id (by omega) (by omega)]
        rfl
      · simp only [slices_IndexFunc_int_int_impl_areCounts_1.l0, impl_areCounts_1.f]
        rw [if_pos (by omega), if_pos (by omega), if_pos (by omega), in_dec, Option.bind_some, decide_eq_true e, Option.bind_some, if_neg (by simp), wrap_id (by omega) (by omega)]
        rfl
    · refine ⟨false, (i : Int), Ev.step (f := fun _ => some false) (fun k => ?_) (Ev.now _), Ev.step (f := fun _ => some (i : Int)) (fun k => ?_) (Ev.now _), by simp⟩
      · simp only [spec_l1All.l0]
        rw [if_pos (by omega), if_pos (by omega), if_pos (by omega), l1In_dec, Option.bind_some, decide_eq_false e, if_neg (by simp)]
      · simp only [slices_IndexFunc_int_int_impl_areCounts_1.l0, impl_areCounts_1.f]
        rw [if_pos (by omega), if_pos (by omega), if_pos (by omega), in_dec, Option.bind_some, decide_eq_false e, Option.bind_some, if_pos (by simp)]
theorem counts_same (x : List Int) (hx : x.length ≤ 1048576) : ∃ b, Ev (fun k => spec_l18Counts.f k x) b ∧ Ev (fun k => impl_areCounts.f k x) b ∧ (b = true → x.length = 5) := by
  by_cases h : (x.length : Int) = 5
  · obtain ⟨b, j, hs, hi, hb⟩ := all_loops x hx x.length 0 (by omega)
    refine ⟨b, Ev.congr (fun k => ?_) hs, Ev.congr (fun k => ?_) (Ev.bind (f := fun _ t => some (!(decide (t ≥ 0)))) hi (Ev.const (by rw [hb]; simp))), fun _ => by omega⟩
    · simp only [spec_l18Counts.f]; rw [if_pos h]; simp [spec_l1All.f]
    · simp only [impl_areCounts.f, slices_ContainsFunc_int_int_impl_areCounts_1.f, slices_IndexFunc_int_int_impl_areCounts_1.f]; rw [if_pos h, Option.bind_assoc]; rfl
  · exact ⟨false, Ev.congr (fun k => by simp only [spec_l18Counts.f]; rw [if_neg h]) (Ev.now _), Ev.congr (fun k => by simp only [impl_areCounts.f]; rw [if_neg h]) (Ev.now _), fun h => by cases h⟩
theorem most_eq (a b : Int) : ∃ m, spec_l1Least.f a b = some m ∧ impl_MeetCuts_1.f a b = some m := by
  unfold spec_l1Least.f impl_MeetCuts_1.f mn
  by_cases h : a < b
  · exact ⟨a, by rw [if_pos h], by rw [if_neg (by omega)]⟩
  · by_cases h2 : b < a
    · exact ⟨b, by rw [if_neg h], by rw [if_pos h2]⟩
    · exact ⟨b, by rw [if_neg h], by rw [if_neg h2, show a = b from by omega]⟩
theorem each_loops (x y : List Int) (hx : x.length = 5) (hy : y.length = 5) : ∀ (d i : Nat) (acc : List Int), i + d = 5 → acc.length = i →
    ∃ r, r.length = 5 ∧ Ev (fun k => spec_MeetCuts.l0 k x y acc (x.length : Int) (i : Int)) (r, true) ∧ Ev (fun k => impl_eachOf_impl_MeetCuts_1.l0 k x y acc (x.length : Int) (i : Int)) (r, true)
  | 0, i, acc, h, ha => by
    refine ⟨acc, by omega, Ev.step (f := fun _ => some (acc, true)) (fun k => ?_) (Ev.now _), Ev.step (f := fun _ => some (acc, true)) (fun k => ?_) (Ev.now _)⟩
    · simp only [spec_MeetCuts.l0]; rw [if_neg (by omega)]
    · simp only [impl_eachOf_impl_MeetCuts_1.l0]; rw [if_neg (by omega)]
  | d + 1, i, acc, h, ha => by
    obtain ⟨m, hm1, hm2⟩ := most_eq (rd x (i : Int)) (rd y (i : Int))
    obtain ⟨r, hr, hs, hi⟩ := each_loops x y hx hy d (i + 1) (acc ++ [m]) (by omega) (by simp; omega)
    refine ⟨r, hr, Ev.step (fun k => ?_) hs, Ev.step (fun k => ?_) hi⟩
    · simp only [spec_MeetCuts.l0]
      rw [if_pos (by omega), if_pos (by omega), if_pos (by omega), if_pos (by omega), hm1, Option.bind_some, if_pos (by omega), wrap_id (by omega) (by omega)]
      rfl
    · simp only [impl_eachOf_impl_MeetCuts_1.l0]
      rw [if_pos (by omega), if_pos (by omega), if_pos (by omega), if_pos (by omega), hm2, Option.bind_some, if_pos (by omega), wrap_id (by omega) (by omega)]
      rfl
theorem cuts_same (x y : List Int) (hx : x.length ≤ 1048576) (hy : y.length ≤ 1048576) : ∃ r, r.1.length ≤ 5 ∧ Ev (fun k => spec_MeetCuts.f k x y) r ∧ Ev (fun k => impl_MeetCuts.f k x y) r := by
  obtain ⟨b, hs, hi, hb⟩ := counts_same x hx
  have none_ : Ev (fun k => spec_MeetCuts.j0 k x y true) (([] : List Int), false) := Ev.step (f := fun _ => some (([] : List Int), false)) (fun k => by simp only [spec_MeetCuts.j0]; rw [if_pos trivial]) (Ev.now _)
  have none2_ : Ev (fun k => impl_eachOf_impl_MeetCuts_1.j0 k x y true) (([] : List Int), false) := Ev.step (f := fun _ => some (([] : List Int), false)) (fun k => by simp only [impl_eachOf_impl_MeetCuts_1.j0]; rw [if_pos trivial]) (Ev.now _)
  have wrap_ : ∀ r : List Int × Bool, Ev (fun k => impl_eachOf_impl_MeetCuts_1.f k x y) r → Ev (fun k => impl_MeetCuts.f k x y) r := fun r h => Ev.bind (f := fun _ (t : List Int × Bool) => some (t.1, t.2)) h (Ev.now _)
  cases b with
  | false => exact ⟨([], false), by simp, Ev.bind hs (Ev.ite_neg (by simp) none_), wrap_ _ (Ev.bind hi (Ev.ite_neg (by simp) none2_))⟩
  | true =>
    obtain ⟨b2, hs2, hi2, hb2⟩ := counts_same y hy
    cases b2 with
    | false => exact ⟨([], false), by simp, Ev.bind hs (Ev.ite_pos rfl (Ev.bind hs2 none_)), wrap_ _ (Ev.bind hi (Ev.ite_pos rfl (Ev.bind hi2 none2_)))⟩
    | true =>
      obtain ⟨r, hr, h1, h2⟩ := each_loops x y (hb rfl) (hb2 rfl) 5 0 [] (by omega) rfl
      refine ⟨(r, true), Nat.le_of_eq hr, Ev.bind hs (Ev.ite_pos rfl (Ev.bind hs2 ?_)), wrap_ _ (Ev.bind hi (Ev.ite_pos rfl (Ev.bind hi2 ?_)))⟩
      · exact Ev.step (fun k => by simp only [spec_MeetCuts.j0]; rw [if_neg (by simp)]; rfl) h1
      · exact Ev.step (fun k => by simp only [impl_eachOf_impl_MeetCuts_1.j0]; rw [if_neg (by simp)]; rfl) h2
theorem FnExactMeetCuts : laws_FnExactMeetCuts.Pure2 := by
  intro x y _ hb _ hb1
  apply Ev.rounds
  simp only [laws_FnExactMeetCuts.f]
  by_cases h : (x.length : Int) > 1048576
  · exact Ev.ite_pos h (Ev.now _)
  refine Ev.ite_neg h ?_
  by_cases h1 : (y.length : Int) > 1048576
  · exact Ev.ite_pos h1 (Ev.now _)
  refine Ev.ite_neg h1 ?_
  have hx : x.length ≤ 1048576 := by omega
  have hy : y.length ≤ 1048576 := by omega
  obtain ⟨⟨r, b⟩, hr, hs, hi⟩ := cuts_same x y hx hy
  simp only at hr
  refine Ev.bind (toIntS_ev x hx) (Ev.bind (toIntS_ev y hy) (Ev.bind hs (Ev.bind (toIntS_ev x hx) (Ev.bind (toIntS_ev y hy) (Ev.bind hi (Ev.bind (eqIntS_ev r (by omega)) (Ev.ite_pos rfl ?_)))))))
  refine Ev.congr (fun k => by rw [show (b != b) = false from by simp]) ?_
  refine Ev.step (fun k => by simp only [laws_FnExactMeetCuts.j0]; rw [if_neg (by simp)]) ?_
  refine Ev.bind (toIntS_ev x hx) (Ev.bind (eqIntS_ev x hx) (Ev.ite_pos rfl (Ev.bind (toIntS_ev y hy) (Ev.bind (eqIntS_ev y hy) (Ev.ite_pos rfl ?_)))))
  refine Ev.bind (markIntS_ev x 1 hx (by omega) (by omega)) (Ev.bind (markIntS_ev y (1 + (x.length : Int)) hy (by omega) (by omega)) (Ev.ite_neg (by simp only; omega) (Ev.bind (eqIntS_ev r (by omega)) (Ev.ite_pos rfl ?_))))
  refine Ev.congr (fun k => by rw [show (b != b) = false from by simp]) ?_
  refine Ev.step (fun k => by simp only [laws_FnExactMeetCuts.j1]; rw [if_neg (by simp)]) ?_
  refine Ev.bind (markIntS_ev r 1 (by omega) (by omega) (by omega)) (Ev.bind (heldIntS_ev r.length 1 (by omega) (by omega) (by omega)) (Ev.ite_neg (by omega) (Ev.ite_pos rfl ?_)))
  refine Ev.bind (toIntS_ev x hx) (Ev.bind (toIntS_ev y hy) (Ev.bind hi (Ev.bind (eqIntS_ev r (by omega)) (Ev.ite_pos rfl ?_))))
  refine Ev.congr (fun k => by rw [show (b != b) = false from by simp]) ?_
  refine Ev.step (fun k => by simp only [laws_FnExactMeetCuts.j2]; rw [if_neg (by simp)]) ?_
  exact Ev.bind (heldIntS_ev r.length 1 (by omega) (by omega) (by omega)) (Ev.ite_neg (by omega) (Ev.ite_pos rfl (Ev.now _)))

end Go.Proofs.Ytomckmlhidhodaa.Pure

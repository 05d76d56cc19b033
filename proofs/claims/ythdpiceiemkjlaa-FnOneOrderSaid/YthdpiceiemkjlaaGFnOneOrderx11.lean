-- Printed by wip/tools/print2.py out of the translation: walks and plain functions; Lean checks them.
import Derived.Test.YthdpiceiemkjlaaGFnOneOrderx0
import Derived.Test.YthdpiceiemkjlaaGFnOneOrderx1
import Derived.Test.YthdpiceiemkjlaaGFnOneOrderx2
import Derived.Test.YthdpiceiemkjlaaGFnOneOrderx6
import Derived.Test.YthdpiceiemkjlaaGFnOneOrderx7
namespace Go.Proofs.Ythdpiceiemkjlaa.GFnOneOrder
open Go.RowKit Go.Proofs.YthdpiceiemkjlaaW.PrintWords Go.Proofs.YthdpiceiemkjlaaW.PrintLast Go.Proofs.YthdpiceiemkjlaaW.PrintMore
attribute [local go_sem] max2_int min2_int max_two min_two max_three min_three max_four min_four   -- for this text's walks alone
set_option linter.unusedVariables false
set_option linter.unusedSimpArgs false

/-! ### spec_l1Own: function 71 -/
def spec_l1Own.f (l0 : List Int) : Option (List Int) := (some (([] : List Int) : List Int)).bind fun y276 => (if y276.length + l0.length < 17592186044416 then (some (y276 ++ l0)) else (none))
set_option maxHeartbeats 8000000 in
set_option maxRecDepth 100000 in
theorem spec_l1Own.calls (A0 : Option Addr) (c0 : Nat) (l0 : List Int) (r : List Int) (w : World) (hr0 : Kd.C (Kd.int .i64) w A0 l0.length l0) (hc0 : l0.length ≤ c0) (h : spec_l1Own.f l0 = some r) :
  Calls Try.prog 71 #[.slice A0 l0.length c0] w fun e w' => ∃ v0_ : Value, e = .returned (v0_) ∧ Kd.R (Kd.int .i64) 3 w' w.heap.size (fun _ => True) v0_ r ∧ Below w.heap.size w w' := by
 have HR0 := a_ hr0
 have HC0 := a_ hc0
 clear hr0 hc0
 have HB := a_ (Below.refl w.heap.size w)
 have H : ((some (([] : List Int) : List Int)).bind fun y276 => (if y276.length + l0.length < 17592186044416 then (some (y276 ++ l0)) else (none))) = some r := h
 clear h
 obtain ⟨y276, hy276⟩ : ∃ y_ : List Int, y_ = (([] : List Int)) := ⟨_, rfl⟩
 replace H : (if y276.length + l0.length < 17592186044416 then (some (y276 ++ l0)) else (none)) = some r := by first|(rw [hy276]; with_reducible exact H)|(rw [hy276]; exact (Option.bind_some _ _).symm.trans H)|(rw [hy276]; exact H)|exact H
 have Ny276 := a_ hy276
 clear hy276
 by_cases c2 : y276.length + l0.length < 17592186044416
 ·rw [if_pos c2] at H
  have LMc2 := a_ c2; clear c2
  obtain ⟨y279, hy279⟩ : ∃ y_ : List Int, y_ = (y276 ++ l0) := ⟨_, rfl⟩
  replace H : (some y279) = some r := by first|(rw [hy279]; with_reducible exact H)|(rw [hy279]; exact (Option.bind_some _ _).symm.trans H)|(rw [hy279]; exact H)|exact H
  have Ny279 := a_ hy279; clear hy279
  obtain rfl := Option.some.inj H
  go_enter Try.func71, Try.ntmps71
  go_wp2_with (first | ((with_reducible refine gate_dst (N := 3) rfl ?_); refine Kd.R_lit (Kd.int .i64) _ 3 ?hg (N := 3) ?hd (xs := ([] : List Int)) (inner := []) (ok := fun _ => True) (okp := fun _ => True) ?hr ?hp (fun _ hk => hk) trivial (Below.refl _ _) (Nat.le_refl _) (by simp) ?_; (case hd => rfl); (case hg => rfl); (case hr => first | (go_simp; done) | (go_simp; rfl)); (case hp => exact (Reps.none _ _)); intro v277 w3 ho4 hb hg_ hnew_; clear hg_ hnew_; (first | rw [← Ny276.out] at ho4 | (simp only [Int.reduceToNat] at ho4; rw [← Ny276.out] at ho4)); have n0_ := a_ (Kd.R_lower ho4 (below_size b_)); have n1_ := a_ (below_step b_ hb); clear HB; have HO278 := n0_; have HB := n1_; clear n0_ n1_; clear hb ho4) | ((with_reducible refine gate_builtin (b := .append) (xs := #[.tmp 3, .tmp 4]) rfl ?_); at_builtin; refine Kd.R_append_rows (Kd.int .i64) (w0 := w) w.heap.size rfl (.tmp 3) (.tmp 4) 23 3 (.int .i64 0) 8 rfl Try.underlying23 info3 rfl (by decide) (by omega) v277 y276 l0 _ _ _ (fun _ => True) (fun _ => False) rfl rfl ?aO ?aR (fun _ _ h => h) (fun _ h => h.elim) ?aF ?aB ?aS ?aL ?_; (case aR => repeat (first | exact (Kd.C_below HR0.out HB.out) | (with_reducible refine Kd.C_alloc ?_ _) | (with_reducible refine Kd.C_drewN ?_ _) | (with_reducible refine Kd.C_drew ?_))); (case aB => exact b_); (case aF => exact (fun _ _ => trivial)); (case aO => exact (r_ HO278.out)); (case aS => exact (below_size b_)); (case aL => have := LMc2.out; omega); intro v280 w5 ho hb hg hat; rw [← Ny279.out] at ho; have n0_ := a_ (hb); have n1_ := a_ (ho); clear HB; clear HO278; have HB := n0_; have HO281 := n1_; clear n0_ n1_; clear ho hb hg hat))
  go_ret
  exact ⟨_, by first | rfl | (simp [errW_none, errW_some] <;> rfl) | (simp [*, errW_none, errW_some] <;> rfl), by exact r_ HO281.out, b_⟩
 ·rw [if_neg c2] at H
  exact absurd H (by simp)

/-! ### spec_l16Begun: function 108 -/
def spec_l16Begun.l0 : Nat → Int → List (S77) → List Int → Int → Int → Int → Option (Bool)
 | 0, _, _, _, _, _, _ => none
 | k + 1, x0, x1, x2, x7, x17, x18 => if x18 < x17 then ((spec_l1Has.f k x2 x18).bind fun t289 => (if t289 = true then (spec_l16Begun.l0 k x0 x1 x2 x7 x17 (wrap64 (x18 + 1))) else (if 0 ≤ x18 then (if x18 < (x1.length : Int) then (if 0 ≤ x7 then (if x7 < (x1.length : Int) then ((spec_l16Ahead.f ((rd_T77 x1 x18).f0) ((rd_T77 x1 x18).f1) ((rd_T77 x1 x18).f2) ((rd_T77 x1 x18).f3) ((rd_T77 x1 x18).f4) ((rd_T77 x1 x7).f0) ((rd_T77 x1 x7).f1) ((rd_T77 x1 x7).f2) ((rd_T77 x1 x7).f3) ((rd_T77 x1 x7).f4)).bind fun t292 => (if t292 = true then (some false) else (spec_l16Begun.l0 k x0 x1 x2 x7 x17 (wrap64 (x18 + 1))))) else (none)) else (none)) else (none)) else (none)))) else ((spec_l16Play.f k x0 x1 x2).bind fun t283 => (if 0 ≤ (wrap64 ((t283.length : Int) - 1)) then (if (wrap64 ((t283.length : Int) - 1)) < (t283.length : Int) then (if 0 ≤ x7 then (if x7 < (x1.length : Int) then ((spec_l1SameNum.f k (rdOf (0 : Nat) t283 (wrap64 ((t283.length : Int) - 1))) ((rd_T77 x1 x7).f4)).bind fun t288 => (some t288)) else (none)) else (none)) else (none)) else (none)))
def spec_l16Begun.f (k : Nat) (a0 : Int) (l1 : List (S77)) (l2 : List Int) : Option (Bool) := if 0 ≤ (wrap64 ((l2.length : Int) - 1)) then (if (wrap64 ((l2.length : Int) - 1)) < (l2.length : Int) then (spec_l16Begun.l0 k a0 l1 l2 (rd l2 (wrap64 ((l2.length : Int) - 1))) (l1.length : Int) 0) else (none)) else (none)
def spec_l16Begun.T5 : Bool × List (List Nat × List Nat) := (true, [([], []), ([], []), ([0, 1], [0, 1]), ([2], [2]), ([3, 2], [3]), ([4], [4]), ([4], [4]), ([5, 6, 4], [4, 5, 6]), ([7, 4], [4, 7]), ([4], [4]), ([4], [4]), ([9, 10, 4], [4, 9, 10]), ([11, 4], [4, 11]), ([8, 12, 4, 4], [4, 8, 12]), ([4, 13], [4, 13])])
def spec_l16Begun.B5 : List Nat := [0, 0, 3, 7, 15, 31, 31, 127, 255, 31, 31, 1567, 3615, 8191, 16383]
theorem spec_l16Begun.tab5 : rtab .any (opsOf Try.f108 5) = spec_l16Begun.T5 := by kernel_rfl
theorem spec_l16Begun.bits5 : waitsOk spec_l16Begun.T5.2 spec_l16Begun.B5 = true := by kernel_rfl
def spec_l16Begun.T9 : Bool × List (List Nat × List Nat) := (true, [([], []), ([], []), ([1], [1]), ([2], [2]), ([0, 3], [0, 3]), ([4], [4]), ([], []), ([], []), ([6, 7], [6, 7]), ([8], [8]), ([9], [9]), ([5, 10], [5, 10]), ([11, 11, 0, 1, 2, 3, 4, 5, 6, 7, 8, 9, 10, 11], [11])])
def spec_l16Begun.B9 : List Nat := [0, 0, 2, 6, 15, 31, 0, 0, 192, 448, 960, 2047, 4095]
theorem spec_l16Begun.tab9 : rtab .any (opsOf Try.f108 9) = spec_l16Begun.T9 := by kernel_rfl
theorem spec_l16Begun.bits9 : waitsOk spec_l16Begun.T9.2 spec_l16Begun.B9 = true := by kernel_rfl
theorem eqv.num {a b : Nat} (h : eqv a b) (k c : Nat) : spec_l1SameNum.f k a c = spec_l1SameNum.f k b c := by
 rcases h with rfl | ⟨h1, h2, _⟩
 ·rfl
 ·simp only [spec_l1SameNum.f, spec_l1Nan.f, h1, h2, Bool.not_false, Option.bind_some]
  rw [if_pos trivial, if_pos trivial]
  cases k with
  | zero => rfl
  | succ k =>
   simp only [spec_l1SameNum.j0, spec_l1Nan.f, h1, h2]
   rw [if_pos trivial, if_pos trivial]
set_option maxHeartbeats 8000000 in
set_option maxRecDepth 100000 in
theorem spec_l16Begun.calls (k : Nat) (a0 : Int) (A1 : Option Addr) (c1 : Nat) (l1 : List (S77)) (A2 : Option Addr) (c2 : Nat) (l2 : List Int) (r : Bool) (w : World) (hr1 : Kd.C k77 w A1 l1.length l1) (hc1 : l1.length ≤ c1) (hr2 : Kd.C (Kd.int .i64) w A2 l2.length l2) (hc2 : l2.length ≤ c2) (h : spec_l16Begun.f k a0 l1 l2 = some r) :
  Calls Try.prog 108 #[.int .i64 a0, .slice A1 l1.length c1, .slice A2 l2.length c2] w fun e w' => e = .returned (.bool r) ∧ Below w.heap.size w w' := by
 have hu77 := Try.underlying77
 have HR1 := a_ hr1
 have HC1 := a_ hc1
 clear hr1 hc1
 have HR2 := a_ hr2
 have HC2 := a_ hc2
 clear hr2 hc2
 have HB := a_ (Below.refl w.heap.size w)
 have H : (if 0 ≤ (wrap64 ((l2.length : Int) - 1)) then (if (wrap64 ((l2.length : Int) - 1)) < (l2.length : Int) then (spec_l16Begun.l0 k a0 l1 l2 (rd l2 (wrap64 ((l2.length : Int) - 1))) (l1.length : Int) 0) else (none)) else (none)) = some r := h
 clear h
 obtain ⟨ji4, hji4⟩ : ∃ j_ : Int, (wrap64 ((l2.length : Int) - 1)) = j_ := ⟨_, rfl⟩
 replace H : (if 0 ≤ (ji4) then (if (ji4) < (l2.length : Int) then (spec_l16Begun.l0 k a0 l1 l2 (rd l2 (ji4)) (l1.length : Int) 0) else (none)) else (none)) = some r := by first | (rw [hji4] at H; exact H) | (simp only [hji4] at H ⊢; exact H)
 have hji4w : (IntKind.i64.wrap ((l2.length : Int) - 1)) = ji4 := (i64_w _).trans hji4
 by_cases c5 : 0 ≤ (ji4)
 ·rw [if_pos c5] at H
  have c5b0 := decide_eq_true c5
  clear c5
  replace H := ig_ H
  obtain ⟨c6b0, H⟩ := H
  have H' := a_ H
  clear H
  have p282 : 0 ≤ ((ji4) : Int) := od_
  have q282 : (ji4) < (l2.length : Int) := od_
  obtain ⟨ad282, e282, hx282_0⟩ := Kd.at_int HR2.out (ji4) p282 q282
  cases e282
  replace p282 := eq_true p282; replace q282 := eq_true q282
  go_enter Try.func108, Try.ntmps108
  go_wp2
  go_loopg [18] k (fun kq v18 w' => ∃ (x18_1 : Int), v18 = .int .i64 x18_1 ∧ Aside0 (spec_l16Begun.l0 kq a0 l1 l2 (rd l2 (ji4)) (l1.length : Int) x18_1 = some r) ∧ Aside0 (kq ≤ k) ∧ Aside0 (Below w.heap.size w w'))
  case atStart => exact ⟨(0), (by first | rfl | (simp; done) | (simp [*]; done)), H', ⟨Nat.le_refl _⟩, ⟨b_⟩⟩
  case round =>
   clear H'
   (try clear c1); (try clear c2); (try clear p2); (try clear q2); (try clear hx2); (try clear c5); (try clear c5b0); (try clear c6); (try clear c6b0); (try clear p6); (try clear hx282_0); (try clear p282); (try clear q282)
   obtain ⟨x18_1, rfl, HA, HK1, HB⟩ := hrel
   cases gk with
   | zero => exact absurd HA.out (by simp [spec_l16Begun.l0])
   | succ k1 =>
    have H := HA.out; clear HA
    simp only [spec_l16Begun.l0] at H
    by_cases c7 : x18_1 < (l1.length : Int)
    ·rw [if_pos c7] at H
     have c7b0 := decide_eq_true c7
     clear c7
     replace H := Option.bind_eq_some_iff.mp H
     obtain ⟨t289, A80, H⟩ := H
     try dsimp only at H
     have A8 := a_ A80; clear A80
     by_cases c9 : t289 = true
     ·subst c9
      rw [if_pos rfl] at H
      have H' := a_ H
      clear H
      try go_wp2
      have n0_ := a_ (below_drew1 HB.out)
      clear HB; have HB := n0_; clear n0_
      refine start_ (n := 15) (S := fun w' => True) (ds := []) #[false, false, false, false, false, false, false, false, false, false, false, false, false, false, false] (by kernel_rfl) rfl rfl trivial (fun hHeld => ?_); refine with_tabW spec_l16Begun.tab5 spec_l16Begun.bits5 (fun HT_ HW_ => ?_)
      generalize wr.drew = w10 at HB hHeld ⊢
      refine pure_ (i := 0) (N := some 21) (v := ?_) (a' := ?_) #[true, false, false, false, false, false, false, false, false, false, false, false, false, false, false] rfl rfl (any_of HT_.out (by kernel_rfl)) (fun _ _ _ h => h) (Or.inl ⟨by rfl, ?_⟩) ?_ ?_
      rotate_left
      ·intro w'
       go_simp
       with_reducible rfl
      rotate_left
      ·simp only [Act.put, List.setIfInBounds_toArray, List.set_cons_zero, List.set_cons_succ, i64_w, i32_w]
       rfl
      refine pure_ (i := 1) (N := some 22) (v := ?_) (a' := ?_) #[true, true, false, false, false, false, false, false, false, false, false, false, false, false, false] rfl rfl (any_of HT_.out (by kernel_rfl)) (fun _ _ _ h => h) (Or.inl ⟨by rfl, ?_⟩) ?_ ?_
      rotate_left
      ·intro w'
       go_simp
       with_reducible rfl
      rotate_left
      ·simp only [Act.put, List.setIfInBounds_toArray, List.set_cons_zero, List.set_cons_succ, i64_w, i32_w]
       rfl
      refine one_ (i := 2) (N := some 23) #[true, true, true, false, false, false, false, false, false, false, false, false, false, false, false] rfl rfl (one_of HT_.out (by kernel_rfl)) (by decide) (fun K hK => ?_)
      first | refine goes_ Try.func103 (by kernel_rfl) rfl #[.slice (some ad282) l2.length c2, .int .i64 x18_1] (by rfl) rfl rfl la_ ?_ | refine goesV_ Try.func103 (by kernel_rfl) rfl #[.slice (some ad282) l2.length c2, .int .i64 x18_1] (by rfl) rfl rfl (by rfl) (by first | rfl | (simp only [List.map_toArray, List.map_cons, List.map_nil]; rfl)) ?_
      with_reducible refine (spec_l1Has.calls k1 _ _ l2 x18_1 true _ ?side1 ?side2 A8.out).mono ?_
      (case side1 => repeat (first | exact (Kd.C_below HR2.out HB.out) | (with_reducible refine Kd.C_alloc ?_ _) | (with_reducible refine Kd.C_drewN ?_ _) | (with_reducible refine Kd.C_drew ?_)))
      (case side2 => exact HC2.out)
      rintro e w' ⟨rfl, ⟨nd, rfl⟩⟩
      refine ⟨_, rfl, ?_⟩
      refine hK.out _ _ trivial (fun hHeld => ?_)
      clear hK K
      refine norm_ (a' := ?_) ?_ ?_
      rotate_left
      ·show Act.put _ (some 23) _ = _
       simp only [Act.put, List.setIfInBounds_toArray, List.set_cons_zero, List.set_cons_succ, i64_w, i32_w]
       rfl
      refine pure_ (i := 3) (N := some 24) (v := ?_) (a' := ?_) #[true, true, true, true, false, false, false, false, false, false, false, false, false, false, false] rfl rfl (any_of HT_.out (by kernel_rfl)) (fun _ _ _ h => h) (Or.inl ⟨by rfl, ?_⟩) ?_ ?_
      rotate_left
      ·intro w'
       go_simp
       with_reducible rfl
      rotate_left
      ·simp only [Act.put, List.setIfInBounds_toArray, List.set_cons_zero, List.set_cons_succ, i64_w, i32_w]
       rfl
      refine pure_ (i := 4) (N := some 25) (v := ?_) (a' := ?_) #[true, true, true, true, true, false, false, false, false, false, false, false, false, false, false] rfl rfl (any_of HT_.out (by kernel_rfl)) (fun _ _ _ h => h) (Or.inl ⟨by rfl, ?_⟩) ?_ ?_
      rotate_left
      ·intro w'
       go_simp
       with_reducible rfl
      rotate_left
      ·simp only [Act.put, List.setIfInBounds_toArray, List.set_cons_zero, List.set_cons_succ, i64_w, i32_w]
       rfl
      refine pure_ (i := 5) (N := some 26) (v := undef) (a' := ?_) #[true, true, true, true, true, true, false, false, false, false, false, false, false, false, false] rfl rfl (any_of HT_.out (by kernel_rfl)) (fun _ _ _ h => h) (Or.inr ⟨by rfl, rfl⟩) ?_ ?_
      rotate_left
      ·simp only [Act.put, List.setIfInBounds_toArray, List.set_cons_zero, List.set_cons_succ, i64_w, i32_w]
       rfl
      refine pure_ (i := 6) (N := some 27) (v := undef) (a' := ?_) #[true, true, true, true, true, true, true, false, false, false, false, false, false, false, false] rfl rfl (any_of HT_.out (by kernel_rfl)) (fun _ _ _ h => h) (Or.inr ⟨by rfl, rfl⟩) ?_ ?_
      rotate_left
      ·simp only [Act.put, List.setIfInBounds_toArray, List.set_cons_zero, List.set_cons_succ, i64_w, i32_w]
       rfl
      refine pure_ (i := 7) (N := some 28) (v := undef) (a' := ?_) #[true, true, true, true, true, true, true, true, false, false, false, false, false, false, false] rfl rfl (any_of HT_.out (by kernel_rfl)) (fun _ _ _ h => h) (Or.inr ⟨by rfl, rfl⟩) ?_ ?_
      rotate_left
      ·simp only [Act.put, List.setIfInBounds_toArray, List.set_cons_zero, List.set_cons_succ, i64_w, i32_w]
       rfl
      refine pure_ (i := 8) (N := some 29) (v := undef) (a' := ?_) #[true, true, true, true, true, true, true, true, true, false, false, false, false, false, false] rfl rfl (any_of HT_.out (by kernel_rfl)) (fun _ _ _ h => h) (Or.inr ⟨by rfl, rfl⟩) ?_ ?_
      rotate_left
      ·simp only [Act.put, List.setIfInBounds_toArray, List.set_cons_zero, List.set_cons_succ, i64_w, i32_w]
       rfl
      refine pure_ (i := 9) (N := some 30) (v := undef) (a' := ?_) #[true, true, true, true, true, true, true, true, true, true, false, false, false, false, false] rfl rfl (any_of HT_.out (by kernel_rfl)) (fun _ _ _ h => h) (Or.inr ⟨by rfl, rfl⟩) ?_ ?_
      rotate_left
      ·simp only [Act.put, List.setIfInBounds_toArray, List.set_cons_zero, List.set_cons_succ, i64_w, i32_w]
       rfl
      refine pure_ (i := 10) (N := some 31) (v := undef) (a' := ?_) #[true, true, true, true, true, true, true, true, true, true, true, false, false, false, false] rfl rfl (any_of HT_.out (by kernel_rfl)) (fun _ _ _ h => h) (Or.inr ⟨by rfl, rfl⟩) ?_ ?_
      rotate_left
      ·simp only [Act.put, List.setIfInBounds_toArray, List.set_cons_zero, List.set_cons_succ, i64_w, i32_w]
       rfl
      refine pure_ (i := 11) (N := some 32) (v := undef) (a' := ?_) #[true, true, true, true, true, true, true, true, true, true, true, true, false, false, false] rfl rfl (any_of HT_.out (by kernel_rfl)) (fun _ _ _ h => h) (Or.inr ⟨by rfl, rfl⟩) ?_ ?_
      rotate_left
      ·simp only [Act.put, List.setIfInBounds_toArray, List.set_cons_zero, List.set_cons_succ, i64_w, i32_w]
       rfl
      refine pure_ (i := 12) (N := some 33) (v := undef) (a' := ?_) #[true, true, true, true, true, true, true, true, true, true, true, true, true, false, false] rfl rfl (any_of HT_.out (by kernel_rfl)) (fun _ _ _ h => h) (Or.inr ⟨by rfl, rfl⟩) ?_ ?_
      rotate_left
      ·simp only [Act.put, List.setIfInBounds_toArray, List.set_cons_zero, List.set_cons_succ, i64_w, i32_w]
       rfl
      refine pure_ (i := 13) (N := some 34) (v := undef) (a' := ?_) #[true, true, true, true, true, true, true, true, true, true, true, true, true, true, false] rfl rfl (any_of HT_.out (by kernel_rfl)) (fun _ _ _ h => h) (Or.inr ⟨by rfl, rfl⟩) ?_ ?_
      rotate_left
      ·simp only [Act.put, List.setIfInBounds_toArray, List.set_cons_zero, List.set_cons_succ, i64_w, i32_w]
       rfl
      refine pure_ (i := 14) (N := some 35) (v := ?_) (a' := ?_) #[true, true, true, true, true, true, true, true, true, true, true, true, true, true, true] rfl rfl (any_of HT_.out (by kernel_rfl)) (fun _ _ _ h => h) (Or.inl ⟨by rfl, ?_⟩) ?_ ?_
      rotate_left
      ·intro w'
       go_simp
       with_reducible rfl
      rotate_left
      ·simp only [Act.put, List.setIfInBounds_toArray, List.set_cons_zero, List.set_cons_succ, i64_w, i32_w]
       rfl
      refine done_ (done_of HT_.out (by kernel_rfl)) ?_
      try go_wp2
      go_roundg k1
      case measure => have := HK1.out; omega
      case rel => exact ⟨(wrap64 (x18_1 + 1)), (by first | rfl | (simp; done) | (simp [*]; done)), H', ⟨by have := HK1.out; omega⟩, ⟨b_⟩⟩
     ·replace c9 := Bool.eq_false_iff.mpr c9
      subst c9
      rw [if_neg (show ¬ (false = true) by decide)] at H
      replace H := ig_ H
      obtain ⟨c11b0, H⟩ := H
      replace H := ig_ H
      obtain ⟨c12b0, H⟩ := H
      replace H := ig_ H
      obtain ⟨c13b0, H⟩ := H
      replace H := ig_ H
      obtain ⟨c14b0, H⟩ := H
      replace H := Option.bind_eq_some_iff.mp H
      obtain ⟨t292, A150, H⟩ := H
      try dsimp only at H
      have A15 := a_ A150; clear A150
      by_cases c16 : t292 = true
      ·subst c16
       rw [if_pos rfl] at H
       obtain rfl := Option.some.inj H
       try go_wp2
       have n0_ := a_ (below_drew1 HB.out)
       clear HB; have HB := n0_; clear n0_
       have p290 : 0 ≤ (x18_1 : Int) := od_
       have q290 : x18_1 < (l1.length : Int) := od_
       obtain ⟨ad290, e290, hx290_0, hx290_1, hx290_2, hx290_3, hx290_4⟩ := at_T77 HR1.out x18_1 p290 q290
       have hw290_4 := hx290_4; have hw290_3 := hx290_3; have hw290_2 := hx290_2; have hw290_1 := hx290_1; have hw290_0 := hx290_0
       cases e290
       try replace hx290_0 := cl_ HB.out hx290_0
       try replace hx290_1 := cl_ HB.out hx290_1
       try replace hx290_2 := cl_ HB.out hx290_2
       try replace hx290_3 := cl_ HB.out hx290_3
       try replace hx290_4 := cl_ HB.out hx290_4
       replace p290 := eq_true p290; replace q290 := eq_true q290
       have p291 : 0 ≤ ((rd l2 (ji4)) : Int) := od_
       have q291 : (rd l2 (ji4)) < (l1.length : Int) := od_
       obtain ⟨ad291, e291, hx291_0, hx291_1, hx291_2, hx291_3, hx291_4⟩ := at_T77 HR1.out (rd l2 (ji4)) p291 q291
       have hw291_4 := hx291_4; have hw291_3 := hx291_3; have hw291_2 := hx291_2; have hw291_1 := hx291_1; have hw291_0 := hx291_0
       obtain rfl : ad290 = ad291 := (by injection e291)
       try replace hx291_0 := cl_ HB.out hx291_0
       try replace hx291_1 := cl_ HB.out hx291_1
       try replace hx291_2 := cl_ HB.out hx291_2
       try replace hx291_3 := cl_ HB.out hx291_3
       try replace hx291_4 := cl_ HB.out hx291_4
       replace p291 := eq_true p291; replace q291 := eq_true q291
       refine start_ (n := 15) (S := fun w' => w'.cell? (ad290.add ((x18_1).toNat * 5)) = some (.int .i64 ((rd_T77 l1 x18_1).f0)) ∧ w'.cell? ⟨(ad290.add ((x18_1).toNat * 5)).block, (ad290.add ((x18_1).toNat * 5)).off + 1, none⟩ = some (.int .i64 ((rd_T77 l1 x18_1).f1)) ∧ w'.cell? ⟨(ad290.add ((x18_1).toNat * 5)).block, (ad290.add ((x18_1).toNat * 5)).off + 2, none⟩ = some (.int .i64 ((rd_T77 l1 x18_1).f2)) ∧ w'.cell? ⟨(ad290.add ((x18_1).toNat * 5)).block, (ad290.add ((x18_1).toNat * 5)).off + 3, none⟩ = some (.bool ((rd_T77 l1 x18_1).f3)) ∧ w'.cell? ⟨(ad290.add ((x18_1).toNat * 5)).block, (ad290.add ((x18_1).toNat * 5)).off + 4, none⟩ = some (.float .f64 ((rd_T77 l1 x18_1).f4)) ∧ w'.cell? (ad290.add (((rd l2 (ji4))).toNat * 5)) = some (.int .i64 ((rd_T77 l1 (rd l2 (ji4))).f0)) ∧ w'.cell? ⟨(ad290.add (((rd l2 (ji4))).toNat * 5)).block, (ad290.add (((rd l2 (ji4))).toNat * 5)).off + 1, none⟩ = some (.int .i64 ((rd_T77 l1 (rd l2 (ji4))).f1)) ∧ w'.cell? ⟨(ad290.add (((rd l2 (ji4))).toNat * 5)).block, (ad290.add (((rd l2 (ji4))).toNat * 5)).off + 2, none⟩ = some (.int .i64 ((rd_T77 l1 (rd l2 (ji4))).f2)) ∧ w'.cell? ⟨(ad290.add (((rd l2 (ji4))).toNat * 5)).block, (ad290.add (((rd l2 (ji4))).toNat * 5)).off + 3, none⟩ = some (.bool ((rd_T77 l1 (rd l2 (ji4))).f3)) ∧ w'.cell? ⟨(ad290.add (((rd l2 (ji4))).toNat * 5)).block, (ad290.add (((rd l2 (ji4))).toNat * 5)).off + 4, none⟩ = some (.float .f64 ((rd_T77 l1 (rd l2 (ji4))).f4))) (ds := []) #[false, false, false, false, false, false, false, false, false, false, false, false, false, false, false] (by kernel_rfl) rfl rfl ⟨((HB.out.cell (World.block_lt_of_cell? w _ hw290_0)).trans hw290_0), ((HB.out.cell (World.block_lt_of_cell? w _ hw290_1)).trans hw290_1), ((HB.out.cell (World.block_lt_of_cell? w _ hw290_2)).trans hw290_2), ((HB.out.cell (World.block_lt_of_cell? w _ hw290_3)).trans hw290_3), ((HB.out.cell (World.block_lt_of_cell? w _ hw290_4)).trans hw290_4), ((HB.out.cell (World.block_lt_of_cell? w _ hw291_0)).trans hw291_0), ((HB.out.cell (World.block_lt_of_cell? w _ hw291_1)).trans hw291_1), ((HB.out.cell (World.block_lt_of_cell? w _ hw291_2)).trans hw291_2), ((HB.out.cell (World.block_lt_of_cell? w _ hw291_3)).trans hw291_3), ((HB.out.cell (World.block_lt_of_cell? w _ hw291_4)).trans hw291_4)⟩ (fun hHeld => ?_); refine with_tabW spec_l16Begun.tab5 spec_l16Begun.bits5 (fun HT_ HW_ => ?_)
       generalize wr.drew = w17 at HB hx290_0 hx290_1 hx290_2 hx290_3 hx290_4 hx291_0 hx291_1 hx291_2 hx291_3 hx291_4 hHeld ⊢
       refine pure_ (i := 0) (N := some 21) (v := ?_) (a' := ?_) #[true, false, false, false, false, false, false, false, false, false, false, false, false, false, false] rfl rfl (any_of HT_.out (by kernel_rfl)) (fun _ _ _ h => h) (Or.inl ⟨by rfl, ?_⟩) ?_ ?_
       rotate_left
       ·intro w'
        go_simp
        with_reducible rfl
       rotate_left
       ·simp only [Act.put, List.setIfInBounds_toArray, List.set_cons_zero, List.set_cons_succ, i64_w, i32_w]
        rfl
       refine pure_ (i := 1) (N := some 22) (v := ?_) (a' := ?_) #[true, true, false, false, false, false, false, false, false, false, false, false, false, false, false] rfl rfl (any_of HT_.out (by kernel_rfl)) (fun _ _ _ h => h) (Or.inl ⟨by rfl, ?_⟩) ?_ ?_
       rotate_left
       ·intro w'
        go_simp
        with_reducible rfl
       rotate_left
       ·simp only [Act.put, List.setIfInBounds_toArray, List.set_cons_zero, List.set_cons_succ, i64_w, i32_w]
        rfl
       refine one_ (i := 2) (N := some 23) #[true, true, true, false, false, false, false, false, false, false, false, false, false, false, false] rfl rfl (one_of HT_.out (by kernel_rfl)) (by decide) (fun K hK => ?_)
       first | refine goes_ Try.func103 (by kernel_rfl) rfl #[.slice (some ad282) l2.length c2, .int .i64 x18_1] (by rfl) rfl rfl la_ ?_ | refine goesV_ Try.func103 (by kernel_rfl) rfl #[.slice (some ad282) l2.length c2, .int .i64 x18_1] (by rfl) rfl rfl (by rfl) (by first | rfl | (simp only [List.map_toArray, List.map_cons, List.map_nil]; rfl)) ?_
       with_reducible refine (spec_l1Has.calls k1 _ _ l2 x18_1 false _ ?side1 ?side2 A8.out).mono ?_
       (case side1 => repeat (first | exact (Kd.C_below HR2.out HB.out) | (with_reducible refine Kd.C_alloc ?_ _) | (with_reducible refine Kd.C_drewN ?_ _) | (with_reducible refine Kd.C_drew ?_)))
       (case side2 => exact HC2.out)
       rintro e w' ⟨rfl, ⟨nd, rfl⟩⟩
       refine ⟨_, rfl, ?_⟩
       refine hK.out _ _ ⟨((HB.out.cell (World.block_lt_of_cell? w _ hw290_0)).trans hw290_0), ((HB.out.cell (World.block_lt_of_cell? w _ hw290_1)).trans hw290_1), ((HB.out.cell (World.block_lt_of_cell? w _ hw290_2)).trans hw290_2), ((HB.out.cell (World.block_lt_of_cell? w _ hw290_3)).trans hw290_3), ((HB.out.cell (World.block_lt_of_cell? w _ hw290_4)).trans hw290_4), ((HB.out.cell (World.block_lt_of_cell? w _ hw291_0)).trans hw291_0), ((HB.out.cell (World.block_lt_of_cell? w _ hw291_1)).trans hw291_1), ((HB.out.cell (World.block_lt_of_cell? w _ hw291_2)).trans hw291_2), ((HB.out.cell (World.block_lt_of_cell? w _ hw291_3)).trans hw291_3), ((HB.out.cell (World.block_lt_of_cell? w _ hw291_4)).trans hw291_4)⟩ (fun hHeld => ?_)
       clear hK K
       refine norm_ (a' := ?_) ?_ ?_
       rotate_left
       ·show Act.put _ (some 23) _ = _
        simp only [Act.put, List.setIfInBounds_toArray, List.set_cons_zero, List.set_cons_succ, i64_w, i32_w]
        rfl
       refine pure_ (i := 3) (N := some 24) (v := ?_) (a' := ?_) #[true, true, true, true, false, false, false, false, false, false, false, false, false, false, false] rfl rfl (any_of HT_.out (by kernel_rfl)) (fun _ _ _ h => h) (Or.inl ⟨by rfl, ?_⟩) ?_ ?_
       rotate_left
       ·intro w'
        go_simp
        with_reducible rfl
       rotate_left
       ·simp only [Act.put, List.setIfInBounds_toArray, List.set_cons_zero, List.set_cons_succ, i64_w, i32_w]
        rfl
       refine pure_ (i := 4) (N := some 25) (v := ?_) (a' := ?_) #[true, true, true, true, true, false, false, false, false, false, false, false, false, false, false] rfl rfl (any_of HT_.out (by kernel_rfl)) (fun _ _ _ h => h) (Or.inl ⟨by rfl, ?_⟩) ?_ ?_
       rotate_left
       ·intro w'
        go_simp
        with_reducible rfl
       rotate_left
       ·simp only [Act.put, List.setIfInBounds_toArray, List.set_cons_zero, List.set_cons_succ, i64_w, i32_w]
        rfl
       refine pure_ (i := 5) (N := some 26) (v := ?_) (a' := ?_) #[true, true, true, true, true, true, false, false, false, false, false, false, false, false, false] rfl rfl (any_of HT_.out (by kernel_rfl)) (fun _ _ _ h => h) (Or.inl ⟨by rfl, ?_⟩) ?_ ?_
       rotate_left
       ·intro w'
        go_simp
        with_reducible rfl
       rotate_left
       ·simp only [Act.put, List.setIfInBounds_toArray, List.set_cons_zero, List.set_cons_succ, i64_w, i32_w]
        rfl
       refine pure_ (i := 6) (N := some 27) (v := ?_) (a' := ?_) #[true, true, true, true, true, true, true, false, false, false, false, false, false, false, false] rfl rfl (any_of HT_.out (by kernel_rfl)) (fun _ _ _ h => h) (Or.inl ⟨by rfl, ?_⟩) ?_ ?_
       rotate_left
       ·intro w'
        go_simp
        with_reducible rfl
       rotate_left
       ·simp only [Act.put, List.setIfInBounds_toArray, List.set_cons_zero, List.set_cons_succ, i64_w, i32_w]
        rfl
       refine pure_ (i := 7) (N := some 28) (v := ?_) (a' := ?_) #[true, true, true, true, true, true, true, true, false, false, false, false, false, false, false] rfl rfl (any_of HT_.out (by kernel_rfl)) (fun _ _ _ h => h) (Or.inl ⟨by rfl, ?_⟩) ?_ ?_
       rotate_left
       ·intro w'
        go_simp
        with_reducible rfl
       rotate_left
       ·simp only [Act.put, List.setIfInBounds_toArray, List.set_cons_zero, List.set_cons_succ, i64_w, i32_w]
        rfl
       refine pure_ (i := 9) (N := some 30) (v := ?_) (a' := ?_) #[true, true, true, true, true, true, true, true, false, true, false, false, false, false, false] rfl rfl (any_of HT_.out (by kernel_rfl)) (fun _ _ _ h => h) (Or.inl ⟨by rfl, ?_⟩) ?_ ?_
       rotate_left
       ·intro w'
        go_simp
        with_reducible rfl
       rotate_left
       ·simp only [Act.put, List.setIfInBounds_toArray, List.set_cons_zero, List.set_cons_succ, i64_w, i32_w]
        rfl
       refine pure_ (i := 10) (N := some 31) (v := ?_) (a' := ?_) #[true, true, true, true, true, true, true, true, false, true, true, false, false, false, false] rfl rfl (any_of HT_.out (by kernel_rfl)) (fun _ _ _ h => h) (Or.inl ⟨by rfl, ?_⟩) ?_ ?_
       rotate_left
       ·intro w'
        go_simp
        with_reducible rfl
       rotate_left
       ·simp only [Act.put, List.setIfInBounds_toArray, List.set_cons_zero, List.set_cons_succ, i64_w, i32_w]
        rfl
       refine pure_ (i := 11) (N := some 32) (v := ?_) (a' := ?_) #[true, true, true, true, true, true, true, true, false, true, true, true, false, false, false] rfl rfl (any_of HT_.out (by kernel_rfl)) (fun _ _ _ h => h) (Or.inl ⟨by rfl, ?_⟩) ?_ ?_
       rotate_left
       ·intro w'
        go_simp
        with_reducible rfl
       rotate_left
       ·simp only [Act.put, List.setIfInBounds_toArray, List.set_cons_zero, List.set_cons_succ, i64_w, i32_w]
        rfl
       refine take_ (i := 8) (N := some 29) (v := ?_) (a' := ?_) #[true, true, true, true, true, true, true, true, true, true, true, true, false, false, false] rfl rfl (take_ofW HT_.out HW_.out (by kernel_rfl)) (fun _ _ _ h => h) (Or.inl ⟨by rfl, ?_⟩) hHeld ?_ ?_
       rotate_left
       ·rintro w' ⟨s0, s1, s2, s3, s4, s5, s6, s7, s8, s9⟩
        go_simp
        with_reducible rfl
       rotate_left
       ·simp only [Act.put, List.setIfInBounds_toArray, List.set_cons_zero, List.set_cons_succ, i64_w, i32_w]
        rfl
       refine take_ (i := 12) (N := some 33) (v := ?_) (a' := ?_) #[true, true, true, true, true, true, true, true, true, true, true, true, true, false, false] rfl rfl (take_ofW HT_.out HW_.out (by kernel_rfl)) (fun _ _ _ h => h) (Or.inl ⟨by rfl, ?_⟩) hHeld ?_ ?_
       rotate_left
       ·rintro w' ⟨s0, s1, s2, s3, s4, s5, s6, s7, s8, s9⟩
        go_simp
        with_reducible rfl
       rotate_left
       ·simp only [Act.put, List.setIfInBounds_toArray, List.set_cons_zero, List.set_cons_succ, i64_w, i32_w]
        rfl
       refine one_ (i := 13) (N := some 34) #[true, true, true, true, true, true, true, true, true, true, true, true, true, true, false] rfl rfl (one_of HT_.out (by kernel_rfl)) (by decide) (fun K hK => ?_)
       first | refine goes_ Try.func83 (by kernel_rfl) rfl #[.agg #[.int .i64 ((rd_T77 l1 x18_1).f0), .int .i64 ((rd_T77 l1 x18_1).f1), .int .i64 ((rd_T77 l1 x18_1).f2), .bool ((rd_T77 l1 x18_1).f3), .float .f64 ((rd_T77 l1 x18_1).f4)], .agg #[.int .i64 ((rd_T77 l1 (rd l2 (ji4))).f0), .int .i64 ((rd_T77 l1 (rd l2 (ji4))).f1), .int .i64 ((rd_T77 l1 (rd l2 (ji4))).f2), .bool ((rd_T77 l1 (rd l2 (ji4))).f3), .float .f64 ((rd_T77 l1 (rd l2 (ji4))).f4)]] (by rfl) rfl rfl (by (try simp only [List.map_toArray, List.map_cons, List.map_nil]); first | done | (simp only [hji4]; rfl) | rfl | (simp only [List.length_drop, List.length_take]; rfl)) ?_ | refine goesV_ Try.func83 (by kernel_rfl) rfl #[.agg #[.int .i64 ((rd_T77 l1 x18_1).f0), .int .i64 ((rd_T77 l1 x18_1).f1), .int .i64 ((rd_T77 l1 x18_1).f2), .bool ((rd_T77 l1 x18_1).f3), .float .f64 ((rd_T77 l1 x18_1).f4)], .agg #[.int .i64 ((rd_T77 l1 (rd l2 (ji4))).f0), .int .i64 ((rd_T77 l1 (rd l2 (ji4))).f1), .int .i64 ((rd_T77 l1 (rd l2 (ji4))).f2), .bool ((rd_T77 l1 (rd l2 (ji4))).f3), .float .f64 ((rd_T77 l1 (rd l2 (ji4))).f4)]] (by rfl) rfl rfl (by rfl) (by first | rfl | (simp only [List.map_toArray, List.map_cons, List.map_nil]; rfl)) ?_
       with_reducible refine (spec_l16Ahead.calls ((rd_T77 l1 x18_1).f0) ((rd_T77 l1 x18_1).f1) ((rd_T77 l1 x18_1).f2) ((rd_T77 l1 x18_1).f3) ((rd_T77 l1 x18_1).f4) ((rd_T77 l1 (rd l2 (ji4))).f0) ((rd_T77 l1 (rd l2 (ji4))).f1) ((rd_T77 l1 (rd l2 (ji4))).f2) ((rd_T77 l1 (rd l2 (ji4))).f3) ((rd_T77 l1 (rd l2 (ji4))).f4) true _ A15.out).mono ?_
       rintro e w18 ⟨rfl, hb⟩
       refine ⟨_, rfl, ?_⟩
       have n0_ := a_ (below_step b_ hb)
       clear HB; have HB := n0_; clear n0_; (try clear hb); (try clear hb2); (try clear hk); (try clear hi)
       refine hK.out _ _ ⟨((HB.out.cell (World.block_lt_of_cell? w _ hw290_0)).trans hw290_0), ((HB.out.cell (World.block_lt_of_cell? w _ hw290_1)).trans hw290_1), ((HB.out.cell (World.block_lt_of_cell? w _ hw290_2)).trans hw290_2), ((HB.out.cell (World.block_lt_of_cell? w _ hw290_3)).trans hw290_3), ((HB.out.cell (World.block_lt_of_cell? w _ hw290_4)).trans hw290_4), ((HB.out.cell (World.block_lt_of_cell? w _ hw291_0)).trans hw291_0), ((HB.out.cell (World.block_lt_of_cell? w _ hw291_1)).trans hw291_1), ((HB.out.cell (World.block_lt_of_cell? w _ hw291_2)).trans hw291_2), ((HB.out.cell (World.block_lt_of_cell? w _ hw291_3)).trans hw291_3), ((HB.out.cell (World.block_lt_of_cell? w _ hw291_4)).trans hw291_4)⟩ (fun hHeld => ?_)
       clear hK K
       refine norm_ (a' := ?_) ?_ ?_
       rotate_left
       ·show Act.put _ (some 34) _ = _
        simp only [Act.put, List.setIfInBounds_toArray, List.set_cons_zero, List.set_cons_succ, i64_w, i32_w]
        rfl
       refine pure_ (i := 14) (N := some 35) (v := ?_) (a' := ?_) #[true, true, true, true, true, true, true, true, true, true, true, true, true, true, true] rfl rfl (any_of HT_.out (by kernel_rfl)) (fun _ _ _ h => h) (Or.inl ⟨by rfl, ?_⟩) ?_ ?_
       rotate_left
       ·intro w'
        go_simp
        with_reducible rfl
       rotate_left
       ·simp only [Act.put, List.setIfInBounds_toArray, List.set_cons_zero, List.set_cons_succ, i64_w, i32_w]
        rfl
       refine done_ (done_of HT_.out (by kernel_rfl)) ?_
       try go_wp2
       go_ret
       exact ⟨by first | rfl | (simp [errW_none, errW_some] <;> rfl) | (simp only [← hji4]; first | rfl | (simp [errW_none, errW_some] <;> rfl)) | (simp [*, errW_none, errW_some] <;> rfl), b_⟩
      ·replace c16 := Bool.eq_false_iff.mpr c16
       subst c16
       rw [if_neg (show ¬ (false = true) by decide)] at H
       have H' := a_ H
       clear H
       try go_wp2
       have n0_ := a_ (below_drew1 HB.out)
       clear HB; have HB := n0_; clear n0_
       have p290 : 0 ≤ (x18_1 : Int) := od_
       have q290 : x18_1 < (l1.length : Int) := od_
       obtain ⟨ad290, e290, hx290_0, hx290_1, hx290_2, hx290_3, hx290_4⟩ := at_T77 HR1.out x18_1 p290 q290
       have hw290_4 := hx290_4; have hw290_3 := hx290_3; have hw290_2 := hx290_2; have hw290_1 := hx290_1; have hw290_0 := hx290_0
       cases e290
       try replace hx290_0 := cl_ HB.out hx290_0
       try replace hx290_1 := cl_ HB.out hx290_1
       try replace hx290_2 := cl_ HB.out hx290_2
       try replace hx290_3 := cl_ HB.out hx290_3
       try replace hx290_4 := cl_ HB.out hx290_4
       replace p290 := eq_true p290; replace q290 := eq_true q290
       have p291 : 0 ≤ ((rd l2 (ji4)) : Int) := od_
       have q291 : (rd l2 (ji4)) < (l1.length : Int) := od_
       obtain ⟨ad291, e291, hx291_0, hx291_1, hx291_2, hx291_3, hx291_4⟩ := at_T77 HR1.out (rd l2 (ji4)) p291 q291
       have hw291_4 := hx291_4; have hw291_3 := hx291_3; have hw291_2 := hx291_2; have hw291_1 := hx291_1; have hw291_0 := hx291_0
       obtain rfl : ad290 = ad291 := (by injection e291)
       try replace hx291_0 := cl_ HB.out hx291_0
       try replace hx291_1 := cl_ HB.out hx291_1
       try replace hx291_2 := cl_ HB.out hx291_2
       try replace hx291_3 := cl_ HB.out hx291_3
       try replace hx291_4 := cl_ HB.out hx291_4
       replace p291 := eq_true p291; replace q291 := eq_true q291
       refine start_ (n := 15) (S := fun w' => w'.cell? (ad290.add ((x18_1).toNat * 5)) = some (.int .i64 ((rd_T77 l1 x18_1).f0)) ∧ w'.cell? ⟨(ad290.add ((x18_1).toNat * 5)).block, (ad290.add ((x18_1).toNat * 5)).off + 1, none⟩ = some (.int .i64 ((rd_T77 l1 x18_1).f1)) ∧ w'.cell? ⟨(ad290.add ((x18_1).toNat * 5)).block, (ad290.add ((x18_1).toNat * 5)).off + 2, none⟩ = some (.int .i64 ((rd_T77 l1 x18_1).f2)) ∧ w'.cell? ⟨(ad290.add ((x18_1).toNat * 5)).block, (ad290.add ((x18_1).toNat * 5)).off + 3, none⟩ = some (.bool ((rd_T77 l1 x18_1).f3)) ∧ w'.cell? ⟨(ad290.add ((x18_1).toNat * 5)).block, (ad290.add ((x18_1).toNat * 5)).off + 4, none⟩ = some (.float .f64 ((rd_T77 l1 x18_1).f4)) ∧ w'.cell? (ad290.add (((rd l2 (ji4))).toNat * 5)) = some (.int .i64 ((rd_T77 l1 (rd l2 (ji4))).f0)) ∧ w'.cell? ⟨(ad290.add (((rd l2 (ji4))).toNat * 5)).block, (ad290.add (((rd l2 (ji4))).toNat * 5)).off + 1, none⟩ = some (.int .i64 ((rd_T77 l1 (rd l2 (ji4))).f1)) ∧ w'.cell? ⟨(ad290.add (((rd l2 (ji4))).toNat * 5)).block, (ad290.add (((rd l2 (ji4))).toNat * 5)).off + 2, none⟩ = some (.int .i64 ((rd_T77 l1 (rd l2 (ji4))).f2)) ∧ w'.cell? ⟨(ad290.add (((rd l2 (ji4))).toNat * 5)).block, (ad290.add (((rd l2 (ji4))).toNat * 5)).off + 3, none⟩ = some (.bool ((rd_T77 l1 (rd l2 (ji4))).f3)) ∧ w'.cell? ⟨(ad290.add (((rd l2 (ji4))).toNat * 5)).block, (ad290.add (((rd l2 (ji4))).toNat * 5)).off + 4, none⟩ = some (.float .f64 ((rd_T77 l1 (rd l2 (ji4))).f4))) (ds := []) #[false, false, false, false, false, false, false, false, false, false, false, false, false, false, false] (by kernel_rfl) rfl rfl ⟨((HB.out.cell (World.block_lt_of_cell? w _ hw290_0)).trans hw290_0), ((HB.out.cell (World.block_lt_of_cell? w _ hw290_1)).trans hw290_1), ((HB.out.cell (World.block_lt_of_cell? w _ hw290_2)).trans hw290_2), ((HB.out.cell (World.block_lt_of_cell? w _ hw290_3)).trans hw290_3), ((HB.out.cell (World.block_lt_of_cell? w _ hw290_4)).trans hw290_4), ((HB.out.cell (World.block_lt_of_cell? w _ hw291_0)).trans hw291_0), ((HB.out.cell (World.block_lt_of_cell? w _ hw291_1)).trans hw291_1), ((HB.out.cell (World.block_lt_of_cell? w _ hw291_2)).trans hw291_2), ((HB.out.cell (World.block_lt_of_cell? w _ hw291_3)).trans hw291_3), ((HB.out.cell (World.block_lt_of_cell? w _ hw291_4)).trans hw291_4)⟩ (fun hHeld => ?_); refine with_tabW spec_l16Begun.tab5 spec_l16Begun.bits5 (fun HT_ HW_ => ?_)
       generalize wr.drew = w19 at HB hx290_0 hx290_1 hx290_2 hx290_3 hx290_4 hx291_0 hx291_1 hx291_2 hx291_3 hx291_4 hHeld ⊢
       refine pure_ (i := 0) (N := some 21) (v := ?_) (a' := ?_) #[true, false, false, false, false, false, false, false, false, false, false, false, false, false, false] rfl rfl (any_of HT_.out (by kernel_rfl)) (fun _ _ _ h => h) (Or.inl ⟨by rfl, ?_⟩) ?_ ?_
       rotate_left
       ·intro w'
        go_simp
        with_reducible rfl
       rotate_left
       ·simp only [Act.put, List.setIfInBounds_toArray, List.set_cons_zero, List.set_cons_succ, i64_w, i32_w]
        rfl
       refine pure_ (i := 1) (N := some 22) (v := ?_) (a' := ?_) #[true, true, false, false, false, false, false, false, false, false, false, false, false, false, false] rfl rfl (any_of HT_.out (by kernel_rfl)) (fun _ _ _ h => h) (Or.inl ⟨by rfl, ?_⟩) ?_ ?_
       rotate_left
       ·intro w'
        go_simp
        with_reducible rfl
       rotate_left
       ·simp only [Act.put, List.setIfInBounds_toArray, List.set_cons_zero, List.set_cons_succ, i64_w, i32_w]
        rfl
       refine one_ (i := 2) (N := some 23) #[true, true, true, false, false, false, false, false, false, false, false, false, false, false, false] rfl rfl (one_of HT_.out (by kernel_rfl)) (by decide) (fun K hK => ?_)
       first | refine goes_ Try.func103 (by kernel_rfl) rfl #[.slice (some ad282) l2.length c2, .int .i64 x18_1] (by rfl) rfl rfl la_ ?_ | refine goesV_ Try.func103 (by kernel_rfl) rfl #[.slice (some ad282) l2.length c2, .int .i64 x18_1] (by rfl) rfl rfl (by rfl) (by first | rfl | (simp only [List.map_toArray, List.map_cons, List.map_nil]; rfl)) ?_
       with_reducible refine (spec_l1Has.calls k1 _ _ l2 x18_1 false _ ?side1 ?side2 A8.out).mono ?_
       (case side1 => repeat (first | exact (Kd.C_below HR2.out HB.out) | (with_reducible refine Kd.C_alloc ?_ _) | (with_reducible refine Kd.C_drewN ?_ _) | (with_reducible refine Kd.C_drew ?_)))
       (case side2 => exact HC2.out)
       rintro e w' ⟨rfl, ⟨nd, rfl⟩⟩
       refine ⟨_, rfl, ?_⟩
       refine hK.out _ _ ⟨((HB.out.cell (World.block_lt_of_cell? w _ hw290_0)).trans hw290_0), ((HB.out.cell (World.block_lt_of_cell? w _ hw290_1)).trans hw290_1), ((HB.out.cell (World.block_lt_of_cell? w _ hw290_2)).trans hw290_2), ((HB.out.cell (World.block_lt_of_cell? w _ hw290_3)).trans hw290_3), ((HB.out.cell (World.block_lt_of_cell? w _ hw290_4)).trans hw290_4), ((HB.out.cell (World.block_lt_of_cell? w _ hw291_0)).trans hw291_0), ((HB.out.cell (World.block_lt_of_cell? w _ hw291_1)).trans hw291_1), ((HB.out.cell (World.block_lt_of_cell? w _ hw291_2)).trans hw291_2), ((HB.out.cell (World.block_lt_of_cell? w _ hw291_3)).trans hw291_3), ((HB.out.cell (World.block_lt_of_cell? w _ hw291_4)).trans hw291_4)⟩ (fun hHeld => ?_)
       clear hK K
       refine norm_ (a' := ?_) ?_ ?_
       rotate_left
       ·show Act.put _ (some 23) _ = _
        simp only [Act.put, List.setIfInBounds_toArray, List.set_cons_zero, List.set_cons_succ, i64_w, i32_w]
        rfl
       refine pure_ (i := 3) (N := some 24) (v := ?_) (a' := ?_) #[true, true, true, true, false, false, false, false, false, false, false, false, false, false, false] rfl rfl (any_of HT_.out (by kernel_rfl)) (fun _ _ _ h => h) (Or.inl ⟨by rfl, ?_⟩) ?_ ?_
       rotate_left
       ·intro w'
        go_simp
        with_reducible rfl
       rotate_left
       ·simp only [Act.put, List.setIfInBounds_toArray, List.set_cons_zero, List.set_cons_succ, i64_w, i32_w]
        rfl
       refine pure_ (i := 4) (N := some 25) (v := ?_) (a' := ?_) #[true, true, true, true, true, false, false, false, false, false, false, false, false, false, false] rfl rfl (any_of HT_.out (by kernel_rfl)) (fun _ _ _ h => h) (Or.inl ⟨by rfl, ?_⟩) ?_ ?_
       rotate_left
       ·intro w'
        go_simp
        with_reducible rfl
       rotate_left
       ·simp only [Act.put, List.setIfInBounds_toArray, List.set_cons_zero, List.set_cons_succ, i64_w, i32_w]
        rfl
       refine pure_ (i := 5) (N := some 26) (v := ?_) (a' := ?_) #[true, true, true, true, true, true, false, false, false, false, false, false, false, false, false] rfl rfl (any_of HT_.out (by kernel_rfl)) (fun _ _ _ h => h) (Or.inl ⟨by rfl, ?_⟩) ?_ ?_
       rotate_left
       ·intro w'
        go_simp
        with_reducible rfl
       rotate_left
       ·simp only [Act.put, List.setIfInBounds_toArray, List.set_cons_zero, List.set_cons_succ, i64_w, i32_w]
        rfl
       refine pure_ (i := 6) (N := some 27) (v := ?_) (a' := ?_) #[true, true, true, true, true, true, true, false, false, false, false, false, false, false, false] rfl rfl (any_of HT_.out (by kernel_rfl)) (fun _ _ _ h => h) (Or.inl ⟨by rfl, ?_⟩) ?_ ?_
       rotate_left
       ·intro w'
        go_simp
        with_reducible rfl
       rotate_left
       ·simp only [Act.put, List.setIfInBounds_toArray, List.set_cons_zero, List.set_cons_succ, i64_w, i32_w]
        rfl
       refine pure_ (i := 7) (N := some 28) (v := ?_) (a' := ?_) #[true, true, true, true, true, true, true, true, false, false, false, false, false, false, false] rfl rfl (any_of HT_.out (by kernel_rfl)) (fun _ _ _ h => h) (Or.inl ⟨by rfl, ?_⟩) ?_ ?_
       rotate_left
       ·intro w'
        go_simp
        with_reducible rfl
       rotate_left
       ·simp only [Act.put, List.setIfInBounds_toArray, List.set_cons_zero, List.set_cons_succ, i64_w, i32_w]
        rfl
       refine pure_ (i := 9) (N := some 30) (v := ?_) (a' := ?_) #[true, true, true, true, true, true, true, true, false, true, false, false, false, false, false] rfl rfl (any_of HT_.out (by kernel_rfl)) (fun _ _ _ h => h) (Or.inl ⟨by rfl, ?_⟩) ?_ ?_
       rotate_left
       ·intro w'
        go_simp
        with_reducible rfl
       rotate_left
       ·simp only [Act.put, List.setIfInBounds_toArray, List.set_cons_zero, List.set_cons_succ, i64_w, i32_w]
        rfl
       refine pure_ (i := 10) (N := some 31) (v := ?_) (a' := ?_) #[true, true, true, true, true, true, true, true, false, true, true, false, false, false, false] rfl rfl (any_of HT_.out (by kernel_rfl)) (fun _ _ _ h => h) (Or.inl ⟨by rfl, ?_⟩) ?_ ?_
       rotate_left
       ·intro w'
        go_simp
        with_reducible rfl
       rotate_left
       ·simp only [Act.put, List.setIfInBounds_toArray, List.set_cons_zero, List.set_cons_succ, i64_w, i32_w]
        rfl
       refine pure_ (i := 11) (N := some 32) (v := ?_) (a' := ?_) #[true, true, true, true, true, true, true, true, false, true, true, true, false, false, false] rfl rfl (any_of HT_.out (by kernel_rfl)) (fun _ _ _ h => h) (Or.inl ⟨by rfl, ?_⟩) ?_ ?_
       rotate_left
       ·intro w'
        go_simp
        with_reducible rfl
       rotate_left
       ·simp only [Act.put, List.setIfInBounds_toArray, List.set_cons_zero, List.set_cons_succ, i64_w, i32_w]
        rfl
       refine take_ (i := 8) (N := some 29) (v := ?_) (a' := ?_) #[true, true, true, true, true, true, true, true, true, true, true, true, false, false, false] rfl rfl (take_ofW HT_.out HW_.out (by kernel_rfl)) (fun _ _ _ h => h) (Or.inl ⟨by rfl, ?_⟩) hHeld ?_ ?_
       rotate_left
       ·rintro w' ⟨s0, s1, s2, s3, s4, s5, s6, s7, s8, s9⟩
        go_simp
        with_reducible rfl
       rotate_left
       ·simp only [Act.put, List.setIfInBounds_toArray, List.set_cons_zero, List.set_cons_succ, i64_w, i32_w]
        rfl
       refine take_ (i := 12) (N := some 33) (v := ?_) (a' := ?_) #[true, true, true, true, true, true, true, true, true, true, true, true, true, false, false] rfl rfl (take_ofW HT_.out HW_.out (by kernel_rfl)) (fun _ _ _ h => h) (Or.inl ⟨by rfl, ?_⟩) hHeld ?_ ?_
       rotate_left
       ·rintro w' ⟨s0, s1, s2, s3, s4, s5, s6, s7, s8, s9⟩
        go_simp
        with_reducible rfl
       rotate_left
       ·simp only [Act.put, List.setIfInBounds_toArray, List.set_cons_zero, List.set_cons_succ, i64_w, i32_w]
        rfl
       refine one_ (i := 13) (N := some 34) #[true, true, true, true, true, true, true, true, true, true, true, true, true, true, false] rfl rfl (one_of HT_.out (by kernel_rfl)) (by decide) (fun K hK => ?_)
       first | refine goes_ Try.func83 (by kernel_rfl) rfl #[.agg #[.int .i64 ((rd_T77 l1 x18_1).f0), .int .i64 ((rd_T77 l1 x18_1).f1), .int .i64 ((rd_T77 l1 x18_1).f2), .bool ((rd_T77 l1 x18_1).f3), .float .f64 ((rd_T77 l1 x18_1).f4)], .agg #[.int .i64 ((rd_T77 l1 (rd l2 (ji4))).f0), .int .i64 ((rd_T77 l1 (rd l2 (ji4))).f1), .int .i64 ((rd_T77 l1 (rd l2 (ji4))).f2), .bool ((rd_T77 l1 (rd l2 (ji4))).f3), .float .f64 ((rd_T77 l1 (rd l2 (ji4))).f4)]] (by rfl) rfl rfl (by (try simp only [List.map_toArray, List.map_cons, List.map_nil]); first | done | (simp only [hji4]; rfl) | rfl | (simp only [List.length_drop, List.length_take]; rfl)) ?_ | refine goesV_ Try.func83 (by kernel_rfl) rfl #[.agg #[.int .i64 ((rd_T77 l1 x18_1).f0), .int .i64 ((rd_T77 l1 x18_1).f1), .int .i64 ((rd_T77 l1 x18_1).f2), .bool ((rd_T77 l1 x18_1).f3), .float .f64 ((rd_T77 l1 x18_1).f4)], .agg #[.int .i64 ((rd_T77 l1 (rd l2 (ji4))).f0), .int .i64 ((rd_T77 l1 (rd l2 (ji4))).f1), .int .i64 ((rd_T77 l1 (rd l2 (ji4))).f2), .bool ((rd_T77 l1 (rd l2 (ji4))).f3), .float .f64 ((rd_T77 l1 (rd l2 (ji4))).f4)]] (by rfl) rfl rfl (by rfl) (by first | rfl | (simp only [List.map_toArray, List.map_cons, List.map_nil]; rfl)) ?_
       with_reducible refine (spec_l16Ahead.calls ((rd_T77 l1 x18_1).f0) ((rd_T77 l1 x18_1).f1) ((rd_T77 l1 x18_1).f2) ((rd_T77 l1 x18_1).f3) ((rd_T77 l1 x18_1).f4) ((rd_T77 l1 (rd l2 (ji4))).f0) ((rd_T77 l1 (rd l2 (ji4))).f1) ((rd_T77 l1 (rd l2 (ji4))).f2) ((rd_T77 l1 (rd l2 (ji4))).f3) ((rd_T77 l1 (rd l2 (ji4))).f4) false _ A15.out).mono ?_
       rintro e w20 ⟨rfl, hb⟩
       refine ⟨_, rfl, ?_⟩
       have n0_ := a_ (below_step b_ hb)
       clear HB; have HB := n0_; clear n0_; (try clear hb); (try clear hb2); (try clear hk); (try clear hi)
       refine hK.out _ _ ⟨((HB.out.cell (World.block_lt_of_cell? w _ hw290_0)).trans hw290_0), ((HB.out.cell (World.block_lt_of_cell? w _ hw290_1)).trans hw290_1), ((HB.out.cell (World.block_lt_of_cell? w _ hw290_2)).trans hw290_2), ((HB.out.cell (World.block_lt_of_cell? w _ hw290_3)).trans hw290_3), ((HB.out.cell (World.block_lt_of_cell? w _ hw290_4)).trans hw290_4), ((HB.out.cell (World.block_lt_of_cell? w _ hw291_0)).trans hw291_0), ((HB.out.cell (World.block_lt_of_cell? w _ hw291_1)).trans hw291_1), ((HB.out.cell (World.block_lt_of_cell? w _ hw291_2)).trans hw291_2), ((HB.out.cell (World.block_lt_of_cell? w _ hw291_3)).trans hw291_3), ((HB.out.cell (World.block_lt_of_cell? w _ hw291_4)).trans hw291_4)⟩ (fun hHeld => ?_)
       clear hK K
       refine norm_ (a' := ?_) ?_ ?_
       rotate_left
       ·show Act.put _ (some 34) _ = _
        simp only [Act.put, List.setIfInBounds_toArray, List.set_cons_zero, List.set_cons_succ, i64_w, i32_w]
        rfl
       refine pure_ (i := 14) (N := some 35) (v := ?_) (a' := ?_) #[true, true, true, true, true, true, true, true, true, true, true, true, true, true, true] rfl rfl (any_of HT_.out (by kernel_rfl)) (fun _ _ _ h => h) (Or.inl ⟨by rfl, ?_⟩) ?_ ?_
       rotate_left
       ·intro w'
        go_simp
        with_reducible rfl
       rotate_left
       ·simp only [Act.put, List.setIfInBounds_toArray, List.set_cons_zero, List.set_cons_succ, i64_w, i32_w]
        rfl
       refine done_ (done_of HT_.out (by kernel_rfl)) ?_
       try go_wp2
       go_roundg k1
       case measure => have := HK1.out; omega
       case rel => exact ⟨(wrap64 (x18_1 + 1)), (by first | rfl | (simp; done) | (simp [*]; done)), H', ⟨by have := HK1.out; omega⟩, ⟨b_⟩⟩
    ·rw [if_neg c7] at H
     have c7b0 := decide_eq_false c7
     clear c7
     replace H := Option.bind_eq_some_iff.mp H
     obtain ⟨t283, A210, H⟩ := H
     try dsimp only at H
     have A21 := a_ A210; clear A210
     obtain ⟨ji22, hji22⟩ : ∃ j_ : Int, (wrap64 ((t283.length : Int) - 1)) = j_ := ⟨_, rfl⟩
     replace H : (if 0 ≤ (ji22) then (if (ji22) < (t283.length : Int) then (if 0 ≤ (rd l2 (ji4)) then (if (rd l2 (ji4)) < (l1.length : Int) then ((spec_l1SameNum.f k1 (rdOf (0 : Nat) t283 (ji22)) ((rd_T77 l1 (rd l2 (ji4))).f4)).bind fun t288 => (some t288)) else (none)) else (none)) else (none)) else (none)) = some r := by first | (rw [hji22] at H; exact H) | (simp only [hji22] at H ⊢; exact H)
     (try rw [hji22] at A21)
     have hji22w : (IntKind.i64.wrap ((t283.length : Int) - 1)) = ji22 := (i64_w _).trans hji22
     replace H := ig_ H
     obtain ⟨c23b0, H⟩ := H
     replace H := ig_ H
     obtain ⟨c24b0, H⟩ := H
     replace H := ig_ H
     obtain ⟨c25b0, H⟩ := H
     replace H := ig_ H
     obtain ⟨c26b0, H⟩ := H
     replace H := Option.bind_eq_some_iff.mp H
     obtain ⟨t288, A270, H⟩ := H
     try dsimp only at H
     have A27 := a_ A270; clear A270
     obtain rfl := Option.some.inj H
     try go_wp2_with (first | ((with_reducible refine gate_callee (f := 61) rfl ?_); refine goesL_ (some 40) rfl rfl Try.func61 (by kernel_rfl) rfl #[.int .i64 a0, .slice A1 l1.length c1, .slice (some ad282) l2.length c2] rfl la_ ?_; (with_reducible refine (spec_l16Play.calls k1 a0 _ _ l1 _ _ l2 t283 _ ?side1 ?side2 ?side3 ?side4 A21.out).mono ?_); (case side1 => repeat (first | exact (Kd.C_below HR1.out HB.out) | (with_reducible refine Kd.C_alloc ?_ _) | (with_reducible refine Kd.C_drewN ?_ _) | (with_reducible refine Kd.C_drew ?_))); (case side2 => exact HC1.out); (case side3 => repeat (first | exact (Kd.C_below HR2.out HB.out) | (with_reducible refine Kd.C_alloc ?_ _) | (with_reducible refine Kd.C_drewN ?_ _) | (with_reducible refine Kd.C_drew ?_))); (case side4 => exact HC2.out); rintro e w28 ⟨v284, t283, rfl, he_, ho0, hb⟩; refine ⟨_, rfl, ?_⟩; have E1_ := he_.1; (try rw [← E1_] at c24b0); (try rw [← E1_] at hji22); (try rw [← E1_] at hji22w); have N_ : Aside0 (spec_l1SameNum.f k1 (rdOf (0 : Nat) t283 (ji22)) ((rd_T77 l1 (rd l2 (ji4))).f4) = some t288) := ⟨(eqv.num (he_.2 _) k1 _).trans A27.out⟩; clear he_ E1_ A27; have A27 := N_; clear N_; have n0_ := a_ (Kd.R_lower ho0 (below_size b_)); have n1_ := a_ (below_step b_ hb); clear HB; have HO285 := n0_; have HB := n1_; clear n0_ n1_; (try clear hb); (try clear hb2); (try clear hk); (try clear hi); (try clear ho0)))
     have n0_ := a_ (Kd.R_drew HO285.out)
     have n1_ := a_ (below_drew1 HB.out)
     clear HO285; clear HB; have HO285 := n0_; have HB := n1_; clear n0_ n1_
     obtain ⟨Ao30, co30, eo30⟩ := Kd.R_slice HO285.out
     (first | subst eo30 | (injection eo30 with f1_ f2_ f3_; have f4_ := f1_.symm; have f5_ := f3_.symm; clear f1_ f2_ f3_; subst f4_; subst f5_))
     have p286 : 0 ≤ ((ji22) : Int) := od_
     have q286 : (ji22) < (t283.length : Int) := od_
     obtain ⟨ad286, e286, hx286_0⟩ := Kd.at_float (Kd.R_reads' HO285.out).2.2 (ji22) p286 q286
     cases e286
     replace p286 := eq_true p286; replace q286 := eq_true q286
     have p287 : 0 ≤ ((rd l2 (ji4)) : Int) := od_
     have q287 : (rd l2 (ji4)) < (l1.length : Int) := od_
     obtain ⟨ad287, e287, hx287_0, hx287_1, hx287_2, hx287_3, hx287_4⟩ := at_T77 HR1.out (rd l2 (ji4)) p287 q287
     have hw287_4 := hx287_4; have hw287_3 := hx287_3; have hw287_2 := hx287_2; have hw287_1 := hx287_1; have hw287_0 := hx287_0
     cases e287
     try replace hx287_0 := cl_ HB.out hx287_0
     try replace hx287_1 := cl_ HB.out hx287_1
     try replace hx287_2 := cl_ HB.out hx287_2
     try replace hx287_3 := cl_ HB.out hx287_3
     try replace hx287_4 := cl_ HB.out hx287_4
     replace p287 := eq_true p287; replace q287 := eq_true q287
     refine start_ (n := 13) (S := fun w' => w'.cell? (ad286.add ((ji22)).toNat) = some (.float .f64 (rdOf (0 : Nat) t283 (ji22))) ∧ w'.cell? (ad287.add (((rd l2 (ji4))).toNat * 5)) = some (.int .i64 ((rd_T77 l1 (rd l2 (ji4))).f0)) ∧ w'.cell? ⟨(ad287.add (((rd l2 (ji4))).toNat * 5)).block, (ad287.add (((rd l2 (ji4))).toNat * 5)).off + 1, none⟩ = some (.int .i64 ((rd_T77 l1 (rd l2 (ji4))).f1)) ∧ w'.cell? ⟨(ad287.add (((rd l2 (ji4))).toNat * 5)).block, (ad287.add (((rd l2 (ji4))).toNat * 5)).off + 2, none⟩ = some (.int .i64 ((rd_T77 l1 (rd l2 (ji4))).f2)) ∧ w'.cell? ⟨(ad287.add (((rd l2 (ji4))).toNat * 5)).block, (ad287.add (((rd l2 (ji4))).toNat * 5)).off + 3, none⟩ = some (.bool ((rd_T77 l1 (rd l2 (ji4))).f3)) ∧ w'.cell? ⟨(ad287.add (((rd l2 (ji4))).toNat * 5)).block, (ad287.add (((rd l2 (ji4))).toNat * 5)).off + 4, none⟩ = some (.float .f64 ((rd_T77 l1 (rd l2 (ji4))).f4))) (ds := []) #[false, false, false, false, false, false, false, false, false, false, false, false, false] (by kernel_rfl) rfl rfl ⟨hx286_0, ((HB.out.cell (World.block_lt_of_cell? w _ hw287_0)).trans hw287_0), ((HB.out.cell (World.block_lt_of_cell? w _ hw287_1)).trans hw287_1), ((HB.out.cell (World.block_lt_of_cell? w _ hw287_2)).trans hw287_2), ((HB.out.cell (World.block_lt_of_cell? w _ hw287_3)).trans hw287_3), ((HB.out.cell (World.block_lt_of_cell? w _ hw287_4)).trans hw287_4)⟩ (fun hHeld => ?_); refine with_tabW spec_l16Begun.tab9 spec_l16Begun.bits9 (fun HT_ HW_ => ?_)
     generalize w28.drew = w29 at HO285 HB hx286_0 hx287_0 hx287_1 hx287_2 hx287_3 hx287_4 hHeld ⊢
     refine pure_ (i := 0) (N := some 41) (v := ?_) (a' := ?_) #[true, false, false, false, false, false, false, false, false, false, false, false, false] rfl rfl (any_of HT_.out (by kernel_rfl)) (fun _ _ _ h => h) (Or.inl ⟨by rfl, ?_⟩) ?_ ?_
     rotate_left
     ·intro w'
      go_simp
      with_reducible rfl
     rotate_left
     ·simp only [Act.put, List.setIfInBounds_toArray, List.set_cons_zero, List.set_cons_succ, i64_w, i32_w]
      rfl
     refine pure_ (i := 1) (N := some 42) (v := ?_) (a' := ?_) #[true, true, false, false, false, false, false, false, false, false, false, false, false] rfl rfl (any_of HT_.out (by kernel_rfl)) (fun _ _ _ h => h) (Or.inl ⟨by rfl, ?_⟩) ?_ ?_
     rotate_left
     ·intro w'
      go_simp
      with_reducible rfl
     rotate_left
     ·simp only [Act.put, List.setIfInBounds_toArray, List.set_cons_zero, List.set_cons_succ, i64_w, i32_w]
      rfl
     refine pure_ (i := 2) (N := some 43) (v := ?_) (a' := ?_) #[true, true, true, false, false, false, false, false, false, false, false, false, false] rfl rfl (any_of HT_.out (by kernel_rfl)) (fun _ _ _ h => h) (Or.inl ⟨by rfl, ?_⟩) ?_ ?_
     rotate_left
     ·intro w'
      go_simp
      with_reducible rfl
     rotate_left
     ·simp only [Act.put, List.setIfInBounds_toArray, List.set_cons_zero, List.set_cons_succ, i64_w, i32_w]
      rfl
     refine pure_ (i := 3) (N := some 44) (v := ?_) (a' := ?_) #[true, true, true, true, false, false, false, false, false, false, false, false, false] rfl rfl (any_of HT_.out (by kernel_rfl)) (fun _ _ _ h => h) (Or.inl ⟨by rfl, ?_⟩) ?_ ?_
     rotate_left
     ·intro w'
      go_simp
      with_reducible rfl
     rotate_left
     ·simp only [Act.put, List.setIfInBounds_toArray, List.set_cons_zero, List.set_cons_succ, i64_w, i32_w]
      rfl
     refine pure_ (i := 4) (N := some 45) (v := ?_) (a' := ?_) #[true, true, true, true, true, false, false, false, false, false, false, false, false] rfl rfl (any_of HT_.out (by kernel_rfl)) (fun _ _ _ h => h) (Or.inl ⟨by rfl, ?_⟩) ?_ ?_
     rotate_left
     ·intro w'
      go_simp
      with_reducible rfl
     rotate_left
     ·simp only [Act.put, List.setIfInBounds_toArray, List.set_cons_zero, List.set_cons_succ, i64_w, i32_w]
      rfl
     refine pure_ (i := 6) (N := some 47) (v := ?_) (a' := ?_) #[true, true, true, true, true, false, true, false, false, false, false, false, false] rfl rfl (any_of HT_.out (by kernel_rfl)) (fun _ _ _ h => h) (Or.inl ⟨by rfl, ?_⟩) ?_ ?_
     rotate_left
     ·intro w'
      go_simp
      with_reducible rfl
     rotate_left
     ·simp only [Act.put, List.setIfInBounds_toArray, List.set_cons_zero, List.set_cons_succ, i64_w, i32_w]
      rfl
     refine pure_ (i := 7) (N := some 48) (v := ?_) (a' := ?_) #[true, true, true, true, true, false, true, true, false, false, false, false, false] rfl rfl (any_of HT_.out (by kernel_rfl)) (fun _ _ _ h => h) (Or.inl ⟨by rfl, ?_⟩) ?_ ?_
     rotate_left
     ·intro w'
      go_simp
      with_reducible rfl
     rotate_left
     ·simp only [Act.put, List.setIfInBounds_toArray, List.set_cons_zero, List.set_cons_succ, i64_w, i32_w]
      rfl
     refine pure_ (i := 8) (N := some 49) (v := ?_) (a' := ?_) #[true, true, true, true, true, false, true, true, true, false, false, false, false] rfl rfl (any_of HT_.out (by kernel_rfl)) (fun _ _ _ h => h) (Or.inl ⟨by rfl, ?_⟩) ?_ ?_
     rotate_left
     ·intro w'
      go_simp
      with_reducible rfl
     rotate_left
     ·simp only [Act.put, List.setIfInBounds_toArray, List.set_cons_zero, List.set_cons_succ, i64_w, i32_w]
      rfl
     refine pure_ (i := 9) (N := some 50) (v := ?_) (a' := ?_) #[true, true, true, true, true, false, true, true, true, true, false, false, false] rfl rfl (any_of HT_.out (by kernel_rfl)) (fun _ _ _ h => h) (Or.inl ⟨by rfl, ?_⟩) ?_ ?_
     rotate_left
     ·intro w'
      go_simp
      with_reducible rfl
     rotate_left
     ·simp only [Act.put, List.setIfInBounds_toArray, List.set_cons_zero, List.set_cons_succ, i64_w, i32_w]
      rfl
     refine take_ (i := 5) (N := some 46) (v := ?_) (a' := ?_) #[true, true, true, true, true, true, true, true, true, true, false, false, false] rfl rfl (take_ofW HT_.out HW_.out (by kernel_rfl)) (fun _ _ _ h => h) (Or.inl ⟨by rfl, ?_⟩) hHeld ?_ ?_
     rotate_left
     ·rintro w' ⟨s0, s1, s2, s3, s4, s5⟩
      go_simp
      with_reducible rfl
     rotate_left
     ·simp only [Act.put, List.setIfInBounds_toArray, List.set_cons_zero, List.set_cons_succ, i64_w, i32_w]
      rfl
     refine take_ (i := 10) (N := some 51) (v := ?_) (a' := ?_) #[true, true, true, true, true, true, true, true, true, true, true, false, false] rfl rfl (take_ofW HT_.out HW_.out (by kernel_rfl)) (fun _ _ _ h => h) (Or.inl ⟨by rfl, ?_⟩) hHeld ?_ ?_
     rotate_left
     ·rintro w' ⟨s0, s1, s2, s3, s4, s5⟩
      go_simp
      with_reducible rfl
     rotate_left
     ·simp only [Act.put, List.setIfInBounds_toArray, List.set_cons_zero, List.set_cons_succ, i64_w, i32_w]
      rfl
     refine one_ (i := 11) (N := some 52) #[true, true, true, true, true, true, true, true, true, true, true, true, false] rfl rfl (one_of HT_.out (by kernel_rfl)) (by decide) (fun K hK => ?_)
     first | refine goes_ Try.func87 (by kernel_rfl) rfl #[.float .f64 (rdOf (0 : Nat) t283 (ji22)), .float .f64 ((rd_T77 l1 (rd l2 (ji4))).f4)] (by rfl) rfl rfl (by (try simp only [List.map_toArray, List.map_cons, List.map_nil]); first | done | (simp only [hji22, hji4]; rfl) | rfl | (simp only [List.length_drop, List.length_take]; rfl)) ?_ | refine goesV_ Try.func87 (by kernel_rfl) rfl #[.float .f64 (rdOf (0 : Nat) t283 (ji22)), .float .f64 ((rd_T77 l1 (rd l2 (ji4))).f4)] (by rfl) rfl rfl (by rfl) (by first | rfl | (simp only [List.map_toArray, List.map_cons, List.map_nil]; rfl)) ?_
     with_reducible refine (spec_l1SameNum.calls k1 (rdOf (0 : Nat) t283 (ji22)) ((rd_T77 l1 (rd l2 (ji4))).f4) t288 _ A27.out).mono ?_
     rintro e w' ⟨rfl, ⟨nd, rfl⟩⟩
     refine ⟨_, rfl, ?_⟩
     refine hK.out _ _ ⟨hHeld.1, ((HB.out.cell (World.block_lt_of_cell? w _ hw287_0)).trans hw287_0), ((HB.out.cell (World.block_lt_of_cell? w _ hw287_1)).trans hw287_1), ((HB.out.cell (World.block_lt_of_cell? w _ hw287_2)).trans hw287_2), ((HB.out.cell (World.block_lt_of_cell? w _ hw287_3)).trans hw287_3), ((HB.out.cell (World.block_lt_of_cell? w _ hw287_4)).trans hw287_4)⟩ (fun hHeld => ?_)
     clear hK K
     refine norm_ (a' := ?_) ?_ ?_
     rotate_left
     ·show Act.put _ (some 52) _ = _
      simp only [Act.put, List.setIfInBounds_toArray, List.set_cons_zero, List.set_cons_succ, i64_w, i32_w]
      rfl
     refine pure_ (i := 12) (N := some 6) (v := ?_) (a' := ?_) #[true, true, true, true, true, true, true, true, true, true, true, true, true] rfl rfl (any_of HT_.out (by kernel_rfl)) (fun _ _ _ h => h) (Or.inl ⟨by rfl, ?_⟩) ?_ ?_
     rotate_left
     ·intro w'
      go_simp
      with_reducible rfl
     rotate_left
     ·simp only [Act.put, List.setIfInBounds_toArray, List.set_cons_zero, List.set_cons_succ, i64_w, i32_w]
      rfl
     refine done_ (done_of HT_.out (by kernel_rfl)) ?_
     try go_wp2
     go_ret
     exact ⟨by first | rfl | (simp [errW_none, errW_some] <;> rfl) | (simp only [← hji4, ← hji22]; first | rfl | (simp [errW_none, errW_some] <;> rfl)) | (simp [*, errW_none, errW_some] <;> rfl), b_⟩
 ·rw [if_neg c5] at H
  exact absurd H (by simp)

end Go.Proofs.Ythdpiceiemkjlaa.GFnOneOrder

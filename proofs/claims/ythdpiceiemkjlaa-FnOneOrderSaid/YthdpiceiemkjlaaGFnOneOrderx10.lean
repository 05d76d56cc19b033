-- Printed by wip/tools/print2.py out of the translation: walks and plain functions; Lean checks them.
import Derived.Test.YthdpiceiemkjlaaGFnOneOrderx0
import Derived.Test.YthdpiceiemkjlaaGFnOneOrderx6
import Derived.Test.YthdpiceiemkjlaaGFnOneOrderx9
namespace Go.Proofs.Ythdpiceiemkjlaa.GFnOneOrder
open Go.RowKit Go.Proofs.YthdpiceiemkjlaaW.PrintWords Go.Proofs.YthdpiceiemkjlaaW.PrintLast Go.Proofs.YthdpiceiemkjlaaW.PrintMore
attribute [local go_sem] max2_int min2_int max_two min_two max_three min_three max_four min_four   -- for this text's walks alone
set_option linter.unusedVariables false
set_option linter.unusedSimpArgs false

/-! ### impl_FitsOrder: function 22 -/
mutual
def impl_FitsOrder.l0 : Nat → List (S77) → List Int → List Nat → List Int → Int → Int → Option (Bool × Bool)
 | 0, _, _, _, _, _, _ => none
 | k + 1, x1, x2, x8, x23, x24, x25 => if x25 < x24 then (if 0 ≤ x25 then (if x25 < (x23.length : Int) then (if x25 < (x8.length : Int) then (if 0 ≤ (rd x23 x25) then (if (rd x23 x25) < (x1.length : Int) then ((impl_SameNum.f (rdOf (0 : Nat) x8 x25) ((rd_T77 x1 (rd x23 x25)).f4)).bind fun t270 => (if t270 = true then (if 0 ≤ (wrap64 (x25 + 1)) then (if (wrap64 (x25 + 1)) ≤ (x2.length : Int) then (impl_FitsOrder.l1 k x1 x2 x8 (rd x23 x25) x23 x24 x25 (x2.drop ((wrap64 (x25 + 1)) : Int).toNat) ((x2.drop ((wrap64 (x25 + 1)) : Int).toNat).length : Int) 0) else (none)) else (none)) else (some (false, true)))) else (none)) else (none)) else (none)) else (none)) else (none)) else (some (true, true))
def impl_FitsOrder.l1 : Nat → List (S77) → List Int → List Nat → Int → List Int → Int → Int → List Int → Int → Int → Option (Bool × Bool)
 | 0, _, _, _, _, _, _, _, _, _, _ => none
 | k + 1, x1, x2, x8, x11, x23, x24, x25, x44, x45, x46 => if x46 < x45 then (if 0 ≤ x46 then (if x46 < (x44.length : Int) then (if 0 ≤ (rd x44 x46) then (if (rd x44 x46) < (x1.length : Int) then (if 0 ≤ x11 then (if x11 < (x1.length : Int) then ((impl_Call_ahead.f ((rd_T77 x1 (rd x44 x46)).f0) ((rd_T77 x1 (rd x44 x46)).f1) ((rd_T77 x1 (rd x44 x46)).f2) ((rd_T77 x1 (rd x44 x46)).f3) ((rd_T77 x1 (rd x44 x46)).f4) ((rd_T77 x1 x11).f0) ((rd_T77 x1 x11).f1) ((rd_T77 x1 x11).f2) ((rd_T77 x1 x11).f3) ((rd_T77 x1 x11).f4)).bind fun t275 => (if t275 = true then (some (false, true)) else (impl_FitsOrder.l1 k x1 x2 x8 x11 x23 x24 x25 x44 x45 (wrap64 (x46 + 1))))) else (none)) else (none)) else (none)) else (none)) else (none)) else (none)) else (impl_FitsOrder.l0 k x1 x2 x8 x23 x24 (wrap64 (x25 + 1)))
end
def impl_FitsOrder.f (k : Nat) (a0 : Int) (l1 : List (S77)) (l2 : List Int) : Option (Bool × Bool) := (impl_PlayObject.f k a0 l1 l2).bind fun bt263 => (if bt263.2 = true then (impl_FitsOrder.l0 k l1 l2 bt263.1 l2 (l2.length : Int) 0) else (some (false, false)))
def impl_FitsOrder.T7 : Bool × List (List Nat × List Nat) := (true, [([], []), ([], []), ([0, 1], [0, 1]), ([2], [2]), ([], []), ([], []), ([4, 5], [4, 5]), ([6], [6]), ([7], [7]), ([3, 8], [3, 8]), ([9], [9])])
def impl_FitsOrder.B7 : List Nat := [0, 0, 3, 7, 0, 0, 48, 112, 240, 511, 1023]
theorem impl_FitsOrder.tab7 : rtab .any (opsOf Try.f22 7) = impl_FitsOrder.T7 := by kernel_rfl
theorem impl_FitsOrder.bits7 : waitsOk impl_FitsOrder.T7.2 impl_FitsOrder.B7 = true := by kernel_rfl
def impl_FitsOrder.T12 : Bool × List (List Nat × List Nat) := (true, [([], []), ([], []), ([0, 1], [0, 1]), ([2], [2]), ([], []), ([], []), ([4, 5], [4, 5]), ([6], [6]), ([3, 7], [3, 7])])
def impl_FitsOrder.B12 : List Nat := [0, 0, 3, 7, 0, 0, 48, 112, 255]
theorem impl_FitsOrder.tab12 : rtab .any (opsOf Try.f22 12) = impl_FitsOrder.T12 := by kernel_rfl
theorem impl_FitsOrder.bits12 : waitsOk impl_FitsOrder.T12.2 impl_FitsOrder.B12 = true := by kernel_rfl
set_option maxHeartbeats 8000000 in
set_option maxRecDepth 100000 in
theorem impl_FitsOrder.calls (k : Nat) (a0 : Int) (A1 : Option Addr) (c1 : Nat) (l1 : List (S77)) (A2 : Option Addr) (c2 : Nat) (l2 : List Int) (r1 : Bool) (r2 : Bool) (w : World) (hr1 : Kd.C k77 w A1 l1.length l1) (hc1 : l1.length ≤ c1) (hr2 : Kd.C (Kd.int .i64) w A2 l2.length l2) (hc2 : l2.length ≤ c2) (h : impl_FitsOrder.f k a0 l1 l2 = some (r1, r2)) :
  Calls Try.prog 22 #[.int .i64 a0, .slice A1 l1.length c1, .slice A2 l2.length c2] w fun e w' => e = .returned (.tuple #[.bool r1, .bool r2]) ∧ Below w.heap.size w w' := by
 have hu77 := Try.underlying77
 have HR1 := a_ hr1
 have HC1 := a_ hc1
 clear hr1 hc1
 have HR2 := a_ hr2
 have HC2 := a_ hc2
 clear hr2 hc2
 have HB := a_ (Below.refl w.heap.size w)
 have H : ((impl_PlayObject.f k a0 l1 l2).bind fun bt263 => (if bt263.2 = true then (impl_FitsOrder.l0 k l1 l2 bt263.1 l2 (l2.length : Int) 0) else (some (false, false)))) = some (r1, r2) := h
 clear h
 replace H := Option.bind_eq_some_iff.mp H
 obtain ⟨⟨t263, t264⟩, A40, H⟩ := H
 try dsimp only at H
 have A4 := a_ A40
 clear A40
 by_cases c5 : t264 = true
 ·subst c5
  rw [if_pos rfl] at H
  have H' := a_ H
  clear H
  go_enter Try.func22, Try.ntmps22
  go_wp2_with (first | ((with_reducible refine gate_callee (f := 13) rfl ?_); refine goesL_ (some 18) rfl rfl Try.func13 (by kernel_rfl) rfl #[.int .i64 a0, .slice A1 l1.length c1, .slice A2 l2.length c2] rfl la_ ?_; (with_reducible refine (impl_PlayObject.calls k a0 _ _ l1 _ _ l2 t263 true _ ?side1 ?side2 ?side3 ?side4 A4.out).mono ?_); (case side1 => repeat (first | exact HR1.out | (with_reducible refine Kd.C_alloc ?_ _) | (with_reducible refine Kd.C_drewN ?_ _) | (with_reducible refine Kd.C_drew ?_))); (case side2 => exact HC1.out); (case side3 => repeat (first | exact HR2.out | (with_reducible refine Kd.C_alloc ?_ _) | (with_reducible refine Kd.C_drewN ?_ _) | (with_reducible refine Kd.C_drew ?_))); (case side4 => exact HC2.out); rintro e w6 ⟨v265, rfl, ho0, hb⟩; refine ⟨_, rfl, ?_⟩; have n0_ := a_ (Kd.R_lower ho0 (below_size b_)); have n1_ := a_ (below_step b_ hb); clear HB; have HO266 := n0_; have HB := n1_; clear n0_ n1_; (try clear hb); (try clear hb2); (try clear hk); (try clear hi); (try clear ho0)))
  go_loopg [25] k (fun kq v25 w' => ∃ (x25_1 : Int), v25 = .int .i64 x25_1 ∧ Aside0 (impl_FitsOrder.l0 kq l1 l2 t263 l2 (l2.length : Int) x25_1 = some (r1, r2)) ∧ Aside0 (kq ≤ k) ∧ Aside0 (Kd.R Kd.float 55 w' w.heap.size (fun _ => True) v265 t263) ∧ Aside0 (Below w.heap.size w w'))
  case atStart => exact ⟨(0), (by first | rfl | (simp; done) | (simp [*]; done)), H', ⟨Nat.le_refl _⟩, ⟨by exact r_ HO266.out⟩, ⟨b_⟩⟩
  case round =>
   clear H'
   (try clear c1); (try clear c2); (try clear p2); (try clear c5)
   obtain ⟨x25_1, rfl, HA, HK1, HO_8, HB⟩ := hrel
   cases gk with
   | zero => exact absurd HA.out (by simp [impl_FitsOrder.l0])
   | succ k1 =>
    have H := HA.out; clear HA
    simp only [impl_FitsOrder.l0] at H
    by_cases c7 : x25_1 < (l2.length : Int)
    ·rw [if_pos c7] at H
     have c7b0 := decide_eq_true c7
     clear c7
     replace H := ig_ H
     obtain ⟨c8b0, H⟩ := H
     replace H := ig_ H
     obtain ⟨c9b0, H⟩ := H
     replace H := ig_ H
     obtain ⟨c10b0, H⟩ := H
     replace H := ig_ H
     obtain ⟨c11b0, H⟩ := H
     replace H := ig_ H
     obtain ⟨c12b0, H⟩ := H
     replace H := Option.bind_eq_some_iff.mp H
     obtain ⟨t270, A130, H⟩ := H
     try dsimp only at H
     have A13 := a_ A130; clear A130
     by_cases c14 : t270 = true
     ·subst c14
      rw [if_pos rfl] at H
      obtain ⟨ji15, hji15⟩ : ∃ j_ : Int, (wrap64 (x25_1 + 1)) = j_ := ⟨_, rfl⟩
      replace H : (if 0 ≤ (ji15) then (if (ji15) ≤ (l2.length : Int) then (impl_FitsOrder.l1 k1 l1 l2 t263 (rd l2 x25_1) l2 (l2.length : Int) x25_1 (l2.drop ((ji15) : Int).toNat) ((l2.drop ((ji15) : Int).toNat).length : Int) 0) else (none)) else (none)) = some (r1, r2) := by first | (rw [hji15] at H; exact H) | (simp only [hji15] at H ⊢; exact H)
      (try rw [hji15] at A13)
      have hji15w : (IntKind.i64.wrap (x25_1 + 1)) = ji15 := (i64_w _).trans hji15
      have c16 := it_ H
      rw [if_pos c16] at H
      have c16b0 := eq_true c16
      have c16b1 := decide_eq_true c16
      clear c16
      have c17 := it_ H
      rw [if_pos c17] at H
      have c17b0 := eq_true c17
      have c17b1 := decide_eq_true c17
      clear c17
      have H' := a_ H
      clear H
      have p267 : 0 ≤ (x25_1 : Int) := od_
      have q267 : x25_1 < (l2.length : Int) := od_
      obtain ⟨ad267, e267, hx267_0⟩ := Kd.at_int HR2.out x25_1 p267 q267
      cases e267
      try replace hx267_0 := cl_ HB.out hx267_0
      replace p267 := eq_true p267; replace q267 := eq_true q267
      try go_wp2
      have n0_ := a_ (Kd.R_drew HO_8.out)
      have n1_ := a_ (below_drew1 HB.out)
      clear HO_8; clear HB; have HO_8 := n0_; have HB := n1_; clear n0_ n1_
      obtain ⟨Ao19, co19, eo19⟩ := Kd.R_slice HO_8.out
      (first | subst eo19 | (injection eo19 with f1_ f2_ f3_; have f4_ := f1_.symm; have f5_ := f3_.symm; clear f1_ f2_ f3_; subst f4_; subst f5_))
      have p268 : 0 ≤ (x25_1 : Int) := od_
      have q268 : x25_1 < (t263.length : Int) := od_
      obtain ⟨ad268, e268, hx268_0⟩ := Kd.at_float (Kd.R_reads' HO_8.out).2.2 x25_1 p268 q268
      cases e268
      replace p268 := eq_true p268; replace q268 := eq_true q268
      have p269 : 0 ≤ ((rd l2 x25_1) : Int) := od_
      have q269 : (rd l2 x25_1) < (l1.length : Int) := od_
      obtain ⟨ad269, e269, hx269_0, hx269_1, hx269_2, hx269_3, hx269_4⟩ := at_T77 HR1.out (rd l2 x25_1) p269 q269
      have hw269_4 := hx269_4; have hw269_3 := hx269_3; have hw269_2 := hx269_2; have hw269_1 := hx269_1; have hw269_0 := hx269_0
      cases e269
      try replace hx269_0 := cl_ HB.out hx269_0
      try replace hx269_1 := cl_ HB.out hx269_1
      try replace hx269_2 := cl_ HB.out hx269_2
      try replace hx269_3 := cl_ HB.out hx269_3
      try replace hx269_4 := cl_ HB.out hx269_4
      replace p269 := eq_true p269; replace q269 := eq_true q269
      refine start_ (n := 11) (S := fun w' => w'.cell? (ad268.add (x25_1).toNat) = some (.float .f64 (rdOf (0 : Nat) t263 x25_1)) ∧ w'.cell? (ad269.add (((rd l2 x25_1)).toNat * 5)) = some (.int .i64 ((rd_T77 l1 (rd l2 x25_1)).f0)) ∧ w'.cell? ⟨(ad269.add (((rd l2 x25_1)).toNat * 5)).block, (ad269.add (((rd l2 x25_1)).toNat * 5)).off + 1, none⟩ = some (.int .i64 ((rd_T77 l1 (rd l2 x25_1)).f1)) ∧ w'.cell? ⟨(ad269.add (((rd l2 x25_1)).toNat * 5)).block, (ad269.add (((rd l2 x25_1)).toNat * 5)).off + 2, none⟩ = some (.int .i64 ((rd_T77 l1 (rd l2 x25_1)).f2)) ∧ w'.cell? ⟨(ad269.add (((rd l2 x25_1)).toNat * 5)).block, (ad269.add (((rd l2 x25_1)).toNat * 5)).off + 3, none⟩ = some (.bool ((rd_T77 l1 (rd l2 x25_1)).f3)) ∧ w'.cell? ⟨(ad269.add (((rd l2 x25_1)).toNat * 5)).block, (ad269.add (((rd l2 x25_1)).toNat * 5)).off + 4, none⟩ = some (.float .f64 ((rd_T77 l1 (rd l2 x25_1)).f4))) (ds := []) #[false, false, false, false, false, false, false, false, false, false, false] (by kernel_rfl) rfl rfl ⟨hx268_0, ((HB.out.cell (World.block_lt_of_cell? w _ hw269_0)).trans hw269_0), ((HB.out.cell (World.block_lt_of_cell? w _ hw269_1)).trans hw269_1), ((HB.out.cell (World.block_lt_of_cell? w _ hw269_2)).trans hw269_2), ((HB.out.cell (World.block_lt_of_cell? w _ hw269_3)).trans hw269_3), ((HB.out.cell (World.block_lt_of_cell? w _ hw269_4)).trans hw269_4)⟩ (fun hHeld => ?_); refine with_tabW impl_FitsOrder.tab7 impl_FitsOrder.bits7 (fun HT_ HW_ => ?_)
      generalize wr.drew = w18 at HO_8 HB hx268_0 hx269_0 hx269_1 hx269_2 hx269_3 hx269_4 hHeld ⊢
      refine pure_ (i := 0) (N := some 30) (v := ?_) (a' := ?_) #[true, false, false, false, false, false, false, false, false, false, false] rfl rfl (any_of HT_.out (by kernel_rfl)) (fun _ _ _ h => h) (Or.inl ⟨by rfl, ?_⟩) ?_ ?_
      rotate_left
      ·intro w'
       go_simp
       with_reducible rfl
      rotate_left
      ·simp only [Act.put, List.setIfInBounds_toArray, List.set_cons_zero, List.set_cons_succ, i64_w, i32_w]
       rfl
      refine pure_ (i := 1) (N := some 31) (v := ?_) (a' := ?_) #[true, true, false, false, false, false, false, false, false, false, false] rfl rfl (any_of HT_.out (by kernel_rfl)) (fun _ _ _ h => h) (Or.inl ⟨by rfl, ?_⟩) ?_ ?_
      rotate_left
      ·intro w'
       go_simp
       with_reducible rfl
      rotate_left
      ·simp only [Act.put, List.setIfInBounds_toArray, List.set_cons_zero, List.set_cons_succ, i64_w, i32_w]
       rfl
      refine pure_ (i := 2) (N := some 32) (v := ?_) (a' := ?_) #[true, true, true, false, false, false, false, false, false, false, false] rfl rfl (any_of HT_.out (by kernel_rfl)) (fun _ _ _ h => h) (Or.inl ⟨by rfl, ?_⟩) ?_ ?_
      rotate_left
      ·intro w'
       go_simp
       with_reducible rfl
      rotate_left
      ·simp only [Act.put, List.setIfInBounds_toArray, List.set_cons_zero, List.set_cons_succ, i64_w, i32_w]
       rfl
      refine pure_ (i := 4) (N := some 34) (v := ?_) (a' := ?_) #[true, true, true, false, true, false, false, false, false, false, false] rfl rfl (any_of HT_.out (by kernel_rfl)) (fun _ _ _ h => h) (Or.inl ⟨by rfl, ?_⟩) ?_ ?_
      rotate_left
      ·intro w'
       go_simp
       with_reducible rfl
      rotate_left
      ·simp only [Act.put, List.setIfInBounds_toArray, List.set_cons_zero, List.set_cons_succ, i64_w, i32_w]
       rfl
      refine pure_ (i := 5) (N := some 35) (v := ?_) (a' := ?_) #[true, true, true, false, true, true, false, false, false, false, false] rfl rfl (any_of HT_.out (by kernel_rfl)) (fun _ _ _ h => h) (Or.inl ⟨by rfl, ?_⟩) ?_ ?_
      rotate_left
      ·intro w'
       go_simp
       with_reducible rfl
      rotate_left
      ·simp only [Act.put, List.setIfInBounds_toArray, List.set_cons_zero, List.set_cons_succ, i64_w, i32_w]
       rfl
      refine pure_ (i := 6) (N := some 36) (v := ?_) (a' := ?_) #[true, true, true, false, true, true, true, false, false, false, false] rfl rfl (any_of HT_.out (by kernel_rfl)) (fun _ _ _ h => h) (Or.inl ⟨by rfl, ?_⟩) ?_ ?_
      rotate_left
      ·intro w'
       go_simp
       with_reducible rfl
      rotate_left
      ·simp only [Act.put, List.setIfInBounds_toArray, List.set_cons_zero, List.set_cons_succ, i64_w, i32_w]
       rfl
      refine pure_ (i := 7) (N := some 37) (v := ?_) (a' := ?_) #[true, true, true, false, true, true, true, true, false, false, false] rfl rfl (any_of HT_.out (by kernel_rfl)) (fun _ _ _ h => h) (Or.inl ⟨by rfl, ?_⟩) ?_ ?_
      rotate_left
      ·intro w'
       go_simp
       with_reducible rfl
      rotate_left
      ·simp only [Act.put, List.setIfInBounds_toArray, List.set_cons_zero, List.set_cons_succ, i64_w, i32_w]
       rfl
      refine take_ (i := 3) (N := some 33) (v := ?_) (a' := ?_) #[true, true, true, true, true, true, true, true, false, false, false] rfl rfl (take_ofW HT_.out HW_.out (by kernel_rfl)) (fun _ _ _ h => h) (Or.inl ⟨by rfl, ?_⟩) hHeld ?_ ?_
      rotate_left
      ·rintro w' ⟨s0, s1, s2, s3, s4, s5⟩
       go_simp
       with_reducible rfl
      rotate_left
      ·simp only [Act.put, List.setIfInBounds_toArray, List.set_cons_zero, List.set_cons_succ, i64_w, i32_w]
       rfl
      refine take_ (i := 8) (N := some 38) (v := ?_) (a' := ?_) #[true, true, true, true, true, true, true, true, true, false, false] rfl rfl (take_ofW HT_.out HW_.out (by kernel_rfl)) (fun _ _ _ h => h) (Or.inl ⟨by rfl, ?_⟩) hHeld ?_ ?_
      rotate_left
      ·rintro w' ⟨s0, s1, s2, s3, s4, s5⟩
       go_simp
       with_reducible rfl
      rotate_left
      ·simp only [Act.put, List.setIfInBounds_toArray, List.set_cons_zero, List.set_cons_succ, i64_w, i32_w]
       rfl
      refine one_ (i := 9) (N := some 39) #[true, true, true, true, true, true, true, true, true, true, false] rfl rfl (one_of HT_.out (by kernel_rfl)) (by decide) (fun K hK => ?_)
      first | refine goes_ Try.func42 (by kernel_rfl) rfl #[.float .f64 (rdOf (0 : Nat) t263 x25_1), .float .f64 ((rd_T77 l1 (rd l2 x25_1)).f4)] (by rfl) rfl rfl la_ ?_ | refine goesV_ Try.func42 (by kernel_rfl) rfl #[.float .f64 (rdOf (0 : Nat) t263 x25_1), .float .f64 ((rd_T77 l1 (rd l2 x25_1)).f4)] (by rfl) rfl rfl (by rfl) (by first | rfl | (simp only [List.map_toArray, List.map_cons, List.map_nil]; rfl)) ?_
      with_reducible refine (impl_SameNum.calls (rdOf (0 : Nat) t263 x25_1) ((rd_T77 l1 (rd l2 x25_1)).f4) true _ A13.out).mono ?_
      rintro e w' ⟨rfl, ⟨nd, rfl⟩⟩
      refine ⟨_, rfl, ?_⟩
      refine hK.out _ _ ⟨hHeld.1, ((HB.out.cell (World.block_lt_of_cell? w _ hw269_0)).trans hw269_0), ((HB.out.cell (World.block_lt_of_cell? w _ hw269_1)).trans hw269_1), ((HB.out.cell (World.block_lt_of_cell? w _ hw269_2)).trans hw269_2), ((HB.out.cell (World.block_lt_of_cell? w _ hw269_3)).trans hw269_3), ((HB.out.cell (World.block_lt_of_cell? w _ hw269_4)).trans hw269_4)⟩ (fun hHeld => ?_)
      clear hK K
      refine norm_ (a' := ?_) ?_ ?_
      rotate_left
      ·show Act.put _ (some 39) _ = _
       simp only [Act.put, List.setIfInBounds_toArray, List.set_cons_zero, List.set_cons_succ, i64_w, i32_w]
       rfl
      refine pure_ (i := 10) (N := some 40) (v := ?_) (a' := ?_) #[true, true, true, true, true, true, true, true, true, true, true] rfl rfl (any_of HT_.out (by kernel_rfl)) (fun _ _ _ h => h) (Or.inl ⟨by rfl, ?_⟩) ?_ ?_
      rotate_left
      ·intro w'
       go_simp
       with_reducible rfl
      rotate_left
      ·simp only [Act.put, List.setIfInBounds_toArray, List.set_cons_zero, List.set_cons_succ, i64_w, i32_w]
       rfl
      refine done_ (done_of HT_.out (by kernel_rfl)) ?_
      obtain ⟨i020, hi020, _, hsz20, _⟩ := info_parts info3
      obtain ⟨A20, hcut20, hA20, hC20⟩ := print_drop_of (P := Try.prog) (Value.int .i64) 0 23 3 .i64 Try.underlying23 hi020 hsz20 (some ad267) c2 l2 (ji15) (od_) (od_) HC2.out
      have HR271 := a_ (Kd.C_of_reads (h1 := fun _ => rfl) (hA20 _ (Kd.reads_of_C HR2.out)))
      have HC271 := a_ hC20; clear hA20 hC20 hi020 hsz20
      obtain ⟨D1_, hD_⟩ : ∃ D_ : List Int, D_ = (l2.drop ((ji15) : Int).toNat) := ⟨_, rfl⟩
      (try simp only [← hD_] at hcut20)
      (try simp only [← hD_] at HR271)
      (try simp only [← hD_] at HC271)
      (try simp only [← hD_] at H')
      clear hD_
      try go_wp2
      go_loopg [46] k1 (fun kq v46 w' => ∃ (x46_2 : Int), v46 = .int .i64 x46_2 ∧ Aside0 (impl_FitsOrder.l1 kq l1 l2 t263 (rd l2 x25_1) l2 (l2.length : Int) x25_1 D1_ (D1_.length : Int) x46_2 = some (r1, r2)) ∧ Aside0 (kq ≤ k1) ∧ Aside0 (Kd.R Kd.float 55 w' w.heap.size (fun _ => True) (.slice (some ad268) t263.length co19) t263) ∧ Aside0 (Below w.heap.size w w'))
      case atStart => exact ⟨(0), (by first | rfl | (simp; done) | (simp [*]; done)), H', ⟨Nat.le_refl _⟩, ⟨by exact r_ HO_8.out⟩, ⟨b_⟩⟩
      case round =>
       clear H'
       (try clear c1); (try clear c2); (try clear p2); (try clear q2); (try clear hx2); (try clear c4); (try clear c5); (try clear p6); (try clear c7); (try clear c7b0); (try clear c8); (try clear c8b0); (try clear c9); (try clear c9b0); (try clear c10); (try clear c10b0); (try clear c11); (try clear c11b0); (try clear c12); (try clear c12b0); (try clear c13); (try clear c14); (try clear c16); (try clear c16b0); (try clear c16b1); (try clear c17); (try clear c17b0); (try clear c17b1); (try clear hx267_0); (try clear hx268_0); (try clear hx269_0); (try clear hx269_1); (try clear hx269_2); (try clear hx269_3); (try clear hx269_4); (try clear p2); (try clear p267); (try clear p268); (try clear p269); (try clear q267); (try clear q268); (try clear q269)
       obtain ⟨x46_2, rfl, HA, HK2, HO_8, HB⟩ := hrel
       cases gk with
       | zero => exact absurd HA.out (by simp [impl_FitsOrder.l1])
       | succ k2 =>
        have H := HA.out; clear HA
        simp only [impl_FitsOrder.l1] at H
        by_cases c21 : x46_2 < (D1_.length : Int)
        ·rw [if_pos c21] at H
         have c21b0 := decide_eq_true c21
         clear c21
         replace H := ig_ H
         obtain ⟨c22b0, H⟩ := H
         replace H := ig_ H
         obtain ⟨c23b0, H⟩ := H
         replace H := ig_ H
         obtain ⟨c24b0, H⟩ := H
         replace H := ig_ H
         obtain ⟨c25b0, H⟩ := H
         replace H := ig_ H
         obtain ⟨c26b0, H⟩ := H
         replace H := ig_ H
         obtain ⟨c27b0, H⟩ := H
         replace H := Option.bind_eq_some_iff.mp H
         obtain ⟨t275, A280, H⟩ := H
         try dsimp only at H
         have A28 := a_ A280; clear A280
         by_cases c29 : t275 = true
         ·subst c29
          rw [if_pos rfl] at H
          simp only [Option.some.injEq, Prod.mk.injEq] at H
          obtain ⟨rfl, rfl⟩ := H
          have p272 : 0 ≤ (x46_2 : Int) := od_
          have q272 : x46_2 < (D1_.length : Int) := od_
          obtain ⟨ad272, e272, hx272_0⟩ := Kd.at_int HR271.out x46_2 p272 q272
          cases e272
          try replace hx272_0 := cl_ HB.out hx272_0
          replace p272 := eq_true p272; replace q272 := eq_true q272
          try go_wp2
          have n0_ := a_ (Kd.R_drew HO_8.out)
          have n1_ := a_ (below_drew1 HB.out)
          clear HO_8; clear HB; have HO_8 := n0_; have HB := n1_; clear n0_ n1_
          have p273 : 0 ≤ ((rd D1_ x46_2) : Int) := od_
          have q273 : (rd D1_ x46_2) < (l1.length : Int) := od_
          obtain ⟨ad273, e273, hx273_0, hx273_1, hx273_2, hx273_3, hx273_4⟩ := at_T77 HR1.out (rd D1_ x46_2) p273 q273
          have hw273_4 := hx273_4; have hw273_3 := hx273_3; have hw273_2 := hx273_2; have hw273_1 := hx273_1; have hw273_0 := hx273_0
          obtain rfl : ad269 = ad273 := (by injection e273)
          try replace hx273_0 := cl_ HB.out hx273_0
          try replace hx273_1 := cl_ HB.out hx273_1
          try replace hx273_2 := cl_ HB.out hx273_2
          try replace hx273_3 := cl_ HB.out hx273_3
          try replace hx273_4 := cl_ HB.out hx273_4
          replace p273 := eq_true p273; replace q273 := eq_true q273
          have p274 : 0 ≤ ((rd l2 x25_1) : Int) := od_
          have q274 : (rd l2 x25_1) < (l1.length : Int) := od_
          obtain ⟨ad274, e274, hx274_0, hx274_1, hx274_2, hx274_3, hx274_4⟩ := at_T77 HR1.out (rd l2 x25_1) p274 q274
          have hw274_4 := hx274_4; have hw274_3 := hx274_3; have hw274_2 := hx274_2; have hw274_1 := hx274_1; have hw274_0 := hx274_0
          obtain rfl : ad269 = ad274 := (by injection e274)
          try replace hx274_0 := cl_ HB.out hx274_0
          try replace hx274_1 := cl_ HB.out hx274_1
          try replace hx274_2 := cl_ HB.out hx274_2
          try replace hx274_3 := cl_ HB.out hx274_3
          try replace hx274_4 := cl_ HB.out hx274_4
          replace p274 := eq_true p274; replace q274 := eq_true q274
          refine start_ (n := 9) (S := fun w' => w'.cell? (ad269.add (((rd D1_ x46_2)).toNat * 5)) = some (.int .i64 ((rd_T77 l1 (rd D1_ x46_2)).f0)) ∧ w'.cell? ⟨(ad269.add (((rd D1_ x46_2)).toNat * 5)).block, (ad269.add (((rd D1_ x46_2)).toNat * 5)).off + 1, none⟩ = some (.int .i64 ((rd_T77 l1 (rd D1_ x46_2)).f1)) ∧ w'.cell? ⟨(ad269.add (((rd D1_ x46_2)).toNat * 5)).block, (ad269.add (((rd D1_ x46_2)).toNat * 5)).off + 2, none⟩ = some (.int .i64 ((rd_T77 l1 (rd D1_ x46_2)).f2)) ∧ w'.cell? ⟨(ad269.add (((rd D1_ x46_2)).toNat * 5)).block, (ad269.add (((rd D1_ x46_2)).toNat * 5)).off + 3, none⟩ = some (.bool ((rd_T77 l1 (rd D1_ x46_2)).f3)) ∧ w'.cell? ⟨(ad269.add (((rd D1_ x46_2)).toNat * 5)).block, (ad269.add (((rd D1_ x46_2)).toNat * 5)).off + 4, none⟩ = some (.float .f64 ((rd_T77 l1 (rd D1_ x46_2)).f4)) ∧ w'.cell? (ad269.add (((rd l2 x25_1)).toNat * 5)) = some (.int .i64 ((rd_T77 l1 (rd l2 x25_1)).f0)) ∧ w'.cell? ⟨(ad269.add (((rd l2 x25_1)).toNat * 5)).block, (ad269.add (((rd l2 x25_1)).toNat * 5)).off + 1, none⟩ = some (.int .i64 ((rd_T77 l1 (rd l2 x25_1)).f1)) ∧ w'.cell? ⟨(ad269.add (((rd l2 x25_1)).toNat * 5)).block, (ad269.add (((rd l2 x25_1)).toNat * 5)).off + 2, none⟩ = some (.int .i64 ((rd_T77 l1 (rd l2 x25_1)).f2)) ∧ w'.cell? ⟨(ad269.add (((rd l2 x25_1)).toNat * 5)).block, (ad269.add (((rd l2 x25_1)).toNat * 5)).off + 3, none⟩ = some (.bool ((rd_T77 l1 (rd l2 x25_1)).f3)) ∧ w'.cell? ⟨(ad269.add (((rd l2 x25_1)).toNat * 5)).block, (ad269.add (((rd l2 x25_1)).toNat * 5)).off + 4, none⟩ = some (.float .f64 ((rd_T77 l1 (rd l2 x25_1)).f4))) (ds := []) #[false, false, false, false, false, false, false, false, false] (by kernel_rfl) rfl rfl ⟨((HB.out.cell (World.block_lt_of_cell? w _ hw273_0)).trans hw273_0), ((HB.out.cell (World.block_lt_of_cell? w _ hw273_1)).trans hw273_1), ((HB.out.cell (World.block_lt_of_cell? w _ hw273_2)).trans hw273_2), ((HB.out.cell (World.block_lt_of_cell? w _ hw273_3)).trans hw273_3), ((HB.out.cell (World.block_lt_of_cell? w _ hw273_4)).trans hw273_4), ((HB.out.cell (World.block_lt_of_cell? w _ hw274_0)).trans hw274_0), ((HB.out.cell (World.block_lt_of_cell? w _ hw274_1)).trans hw274_1), ((HB.out.cell (World.block_lt_of_cell? w _ hw274_2)).trans hw274_2), ((HB.out.cell (World.block_lt_of_cell? w _ hw274_3)).trans hw274_3), ((HB.out.cell (World.block_lt_of_cell? w _ hw274_4)).trans hw274_4)⟩ (fun hHeld => ?_); refine with_tabW impl_FitsOrder.tab12 impl_FitsOrder.bits12 (fun HT_ HW_ => ?_)
          generalize wr.drew = w30 at HO_8 HB hx273_0 hx273_1 hx273_2 hx273_3 hx273_4 hx274_0 hx274_1 hx274_2 hx274_3 hx274_4 hHeld ⊢
          refine pure_ (i := 0) (N := some 50) (v := ?_) (a' := ?_) #[true, false, false, false, false, false, false, false, false] rfl rfl (any_of HT_.out (by kernel_rfl)) (fun _ _ _ h => h) (Or.inl ⟨by rfl, ?_⟩) ?_ ?_
          rotate_left
          ·intro w'
           go_simp
           with_reducible rfl
          rotate_left
          ·simp only [Act.put, List.setIfInBounds_toArray, List.set_cons_zero, List.set_cons_succ, i64_w, i32_w]
           rfl
          refine pure_ (i := 1) (N := some 51) (v := ?_) (a' := ?_) #[true, true, false, false, false, false, false, false, false] rfl rfl (any_of HT_.out (by kernel_rfl)) (fun _ _ _ h => h) (Or.inl ⟨by rfl, ?_⟩) ?_ ?_
          rotate_left
          ·intro w'
           go_simp
           with_reducible rfl
          rotate_left
          ·simp only [Act.put, List.setIfInBounds_toArray, List.set_cons_zero, List.set_cons_succ, i64_w, i32_w]
           rfl
          refine pure_ (i := 2) (N := some 52) (v := ?_) (a' := ?_) #[true, true, true, false, false, false, false, false, false] rfl rfl (any_of HT_.out (by kernel_rfl)) (fun _ _ _ h => h) (Or.inl ⟨by rfl, ?_⟩) ?_ ?_
          rotate_left
          ·intro w'
           go_simp
           with_reducible rfl
          rotate_left
          ·simp only [Act.put, List.setIfInBounds_toArray, List.set_cons_zero, List.set_cons_succ, i64_w, i32_w]
           rfl
          refine pure_ (i := 4) (N := some 54) (v := ?_) (a' := ?_) #[true, true, true, false, true, false, false, false, false] rfl rfl (any_of HT_.out (by kernel_rfl)) (fun _ _ _ h => h) (Or.inl ⟨by rfl, ?_⟩) ?_ ?_
          rotate_left
          ·intro w'
           go_simp
           with_reducible rfl
          rotate_left
          ·simp only [Act.put, List.setIfInBounds_toArray, List.set_cons_zero, List.set_cons_succ, i64_w, i32_w]
           rfl
          refine pure_ (i := 5) (N := some 55) (v := ?_) (a' := ?_) #[true, true, true, false, true, true, false, false, false] rfl rfl (any_of HT_.out (by kernel_rfl)) (fun _ _ _ h => h) (Or.inl ⟨by rfl, ?_⟩) ?_ ?_
          rotate_left
          ·intro w'
           go_simp
           with_reducible rfl
          rotate_left
          ·simp only [Act.put, List.setIfInBounds_toArray, List.set_cons_zero, List.set_cons_succ, i64_w, i32_w]
           rfl
          refine pure_ (i := 6) (N := some 56) (v := ?_) (a' := ?_) #[true, true, true, false, true, true, true, false, false] rfl rfl (any_of HT_.out (by kernel_rfl)) (fun _ _ _ h => h) (Or.inl ⟨by rfl, ?_⟩) ?_ ?_
          rotate_left
          ·intro w'
           go_simp
           with_reducible rfl
          rotate_left
          ·simp only [Act.put, List.setIfInBounds_toArray, List.set_cons_zero, List.set_cons_succ, i64_w, i32_w]
           rfl
          refine take_ (i := 3) (N := some 53) (v := ?_) (a' := ?_) #[true, true, true, true, true, true, true, false, false] rfl rfl (take_ofW HT_.out HW_.out (by kernel_rfl)) (fun _ _ _ h => h) (Or.inl ⟨by rfl, ?_⟩) hHeld ?_ ?_
          rotate_left
          ·rintro w' ⟨s0, s1, s2, s3, s4, s5, s6, s7, s8, s9⟩
           go_simp
           with_reducible rfl
          rotate_left
          ·simp only [Act.put, List.setIfInBounds_toArray, List.set_cons_zero, List.set_cons_succ, i64_w, i32_w]
           rfl
          refine take_ (i := 7) (N := some 57) (v := ?_) (a' := ?_) #[true, true, true, true, true, true, true, true, false] rfl rfl (take_ofW HT_.out HW_.out (by kernel_rfl)) (fun _ _ _ h => h) (Or.inl ⟨by rfl, ?_⟩) hHeld ?_ ?_
          rotate_left
          ·rintro w' ⟨s0, s1, s2, s3, s4, s5, s6, s7, s8, s9⟩
           go_simp
           with_reducible rfl
          rotate_left
          ·simp only [Act.put, List.setIfInBounds_toArray, List.set_cons_zero, List.set_cons_succ, i64_w, i32_w]
           rfl
          refine one_ (i := 8) (N := some 58) #[true, true, true, true, true, true, true, true, true] rfl rfl (one_of HT_.out (by kernel_rfl)) (by decide) (fun K hK => ?_)
          first | refine goes_ Try.func69 (by kernel_rfl) rfl #[.agg #[.int .i64 ((rd_T77 l1 (rd D1_ x46_2)).f0), .int .i64 ((rd_T77 l1 (rd D1_ x46_2)).f1), .int .i64 ((rd_T77 l1 (rd D1_ x46_2)).f2), .bool ((rd_T77 l1 (rd D1_ x46_2)).f3), .float .f64 ((rd_T77 l1 (rd D1_ x46_2)).f4)], .agg #[.int .i64 ((rd_T77 l1 (rd l2 x25_1)).f0), .int .i64 ((rd_T77 l1 (rd l2 x25_1)).f1), .int .i64 ((rd_T77 l1 (rd l2 x25_1)).f2), .bool ((rd_T77 l1 (rd l2 x25_1)).f3), .float .f64 ((rd_T77 l1 (rd l2 x25_1)).f4)]] (by rfl) rfl rfl (by (try simp only [List.map_toArray, List.map_cons, List.map_nil]); first | done | (simp only [hji15]; rfl) | rfl | (simp only [List.length_drop, List.length_take]; rfl)) ?_ | refine goesV_ Try.func69 (by kernel_rfl) rfl #[.agg #[.int .i64 ((rd_T77 l1 (rd D1_ x46_2)).f0), .int .i64 ((rd_T77 l1 (rd D1_ x46_2)).f1), .int .i64 ((rd_T77 l1 (rd D1_ x46_2)).f2), .bool ((rd_T77 l1 (rd D1_ x46_2)).f3), .float .f64 ((rd_T77 l1 (rd D1_ x46_2)).f4)], .agg #[.int .i64 ((rd_T77 l1 (rd l2 x25_1)).f0), .int .i64 ((rd_T77 l1 (rd l2 x25_1)).f1), .int .i64 ((rd_T77 l1 (rd l2 x25_1)).f2), .bool ((rd_T77 l1 (rd l2 x25_1)).f3), .float .f64 ((rd_T77 l1 (rd l2 x25_1)).f4)]] (by rfl) rfl rfl (by rfl) (by first | rfl | (simp only [List.map_toArray, List.map_cons, List.map_nil]; rfl)) ?_
          with_reducible refine (impl_Call_ahead.calls ((rd_T77 l1 (rd D1_ x46_2)).f0) ((rd_T77 l1 (rd D1_ x46_2)).f1) ((rd_T77 l1 (rd D1_ x46_2)).f2) ((rd_T77 l1 (rd D1_ x46_2)).f3) ((rd_T77 l1 (rd D1_ x46_2)).f4) ((rd_T77 l1 (rd l2 x25_1)).f0) ((rd_T77 l1 (rd l2 x25_1)).f1) ((rd_T77 l1 (rd l2 x25_1)).f2) ((rd_T77 l1 (rd l2 x25_1)).f3) ((rd_T77 l1 (rd l2 x25_1)).f4) true _ A28.out).mono ?_
          rintro e w31 ⟨rfl, hb⟩
          refine ⟨_, rfl, ?_⟩
          have n0_ := a_ (Kd.R_below (r_ HO_8.out) hb)
          have n1_ := a_ (below_step b_ hb)
          clear HO_8; clear HB; have HO_8 := n0_; have HB := n1_; clear n0_ n1_; (try clear hb); (try clear hb2); (try clear hk); (try clear hi)
          refine hK.out _ _ ⟨((HB.out.cell (World.block_lt_of_cell? w _ hw273_0)).trans hw273_0), ((HB.out.cell (World.block_lt_of_cell? w _ hw273_1)).trans hw273_1), ((HB.out.cell (World.block_lt_of_cell? w _ hw273_2)).trans hw273_2), ((HB.out.cell (World.block_lt_of_cell? w _ hw273_3)).trans hw273_3), ((HB.out.cell (World.block_lt_of_cell? w _ hw273_4)).trans hw273_4), ((HB.out.cell (World.block_lt_of_cell? w _ hw274_0)).trans hw274_0), ((HB.out.cell (World.block_lt_of_cell? w _ hw274_1)).trans hw274_1), ((HB.out.cell (World.block_lt_of_cell? w _ hw274_2)).trans hw274_2), ((HB.out.cell (World.block_lt_of_cell? w _ hw274_3)).trans hw274_3), ((HB.out.cell (World.block_lt_of_cell? w _ hw274_4)).trans hw274_4)⟩ (fun hHeld => ?_)
          clear hK K
          refine norm_ (a' := ?_) ?_ ?_
          rotate_left
          ·show Act.put _ (some 58) _ = _
           simp only [Act.put, List.setIfInBounds_toArray, List.set_cons_zero, List.set_cons_succ, i64_w, i32_w]
           rfl
          refine done_ (done_of HT_.out (by kernel_rfl)) ?_
          try go_wp2
          go_ret2
          exact ⟨by first | rfl | (simp [errW_none, errW_some] <;> rfl) | (simp only [← hji15]; first | rfl | (simp [errW_none, errW_some] <;> rfl)) | (simp [*, errW_none, errW_some] <;> rfl), b_⟩
         ·replace c29 := Bool.eq_false_iff.mpr c29
          subst c29
          rw [if_neg (show ¬ (false = true) by decide)] at H
          have H' := a_ H
          clear H
          have p272 : 0 ≤ (x46_2 : Int) := od_
          have q272 : x46_2 < (D1_.length : Int) := od_
          obtain ⟨ad272, e272, hx272_0⟩ := Kd.at_int HR271.out x46_2 p272 q272
          cases e272
          try replace hx272_0 := cl_ HB.out hx272_0
          replace p272 := eq_true p272; replace q272 := eq_true q272
          try go_wp2
          have n0_ := a_ (Kd.R_drew HO_8.out)
          have n1_ := a_ (below_drew1 HB.out)
          clear HO_8; clear HB; have HO_8 := n0_; have HB := n1_; clear n0_ n1_
          have p273 : 0 ≤ ((rd D1_ x46_2) : Int) := od_
          have q273 : (rd D1_ x46_2) < (l1.length : Int) := od_
          obtain ⟨ad273, e273, hx273_0, hx273_1, hx273_2, hx273_3, hx273_4⟩ := at_T77 HR1.out (rd D1_ x46_2) p273 q273
          have hw273_4 := hx273_4; have hw273_3 := hx273_3; have hw273_2 := hx273_2; have hw273_1 := hx273_1; have hw273_0 := hx273_0
          obtain rfl : ad269 = ad273 := (by injection e273)
          try replace hx273_0 := cl_ HB.out hx273_0
          try replace hx273_1 := cl_ HB.out hx273_1
          try replace hx273_2 := cl_ HB.out hx273_2
          try replace hx273_3 := cl_ HB.out hx273_3
          try replace hx273_4 := cl_ HB.out hx273_4
          replace p273 := eq_true p273; replace q273 := eq_true q273
          have p274 : 0 ≤ ((rd l2 x25_1) : Int) := od_
          have q274 : (rd l2 x25_1) < (l1.length : Int) := od_
          obtain ⟨ad274, e274, hx274_0, hx274_1, hx274_2, hx274_3, hx274_4⟩ := at_T77 HR1.out (rd l2 x25_1) p274 q274
          have hw274_4 := hx274_4; have hw274_3 := hx274_3; have hw274_2 := hx274_2; have hw274_1 := hx274_1; have hw274_0 := hx274_0
          obtain rfl : ad269 = ad274 := (by injection e274)
          try replace hx274_0 := cl_ HB.out hx274_0
          try replace hx274_1 := cl_ HB.out hx274_1
          try replace hx274_2 := cl_ HB.out hx274_2
          try replace hx274_3 := cl_ HB.out hx274_3
          try replace hx274_4 := cl_ HB.out hx274_4
          replace p274 := eq_true p274; replace q274 := eq_true q274
          refine start_ (n := 9) (S := fun w' => w'.cell? (ad269.add (((rd D1_ x46_2)).toNat * 5)) = some (.int .i64 ((rd_T77 l1 (rd D1_ x46_2)).f0)) ∧ w'.cell? ⟨(ad269.add (((rd D1_ x46_2)).toNat * 5)).block, (ad269.add (((rd D1_ x46_2)).toNat * 5)).off + 1, none⟩ = some (.int .i64 ((rd_T77 l1 (rd D1_ x46_2)).f1)) ∧ w'.cell? ⟨(ad269.add (((rd D1_ x46_2)).toNat * 5)).block, (ad269.add (((rd D1_ x46_2)).toNat * 5)).off + 2, none⟩ = some (.int .i64 ((rd_T77 l1 (rd D1_ x46_2)).f2)) ∧ w'.cell? ⟨(ad269.add (((rd D1_ x46_2)).toNat * 5)).block, (ad269.add (((rd D1_ x46_2)).toNat * 5)).off + 3, none⟩ = some (.bool ((rd_T77 l1 (rd D1_ x46_2)).f3)) ∧ w'.cell? ⟨(ad269.add (((rd D1_ x46_2)).toNat * 5)).block, (ad269.add (((rd D1_ x46_2)).toNat * 5)).off + 4, none⟩ = some (.float .f64 ((rd_T77 l1 (rd D1_ x46_2)).f4)) ∧ w'.cell? (ad269.add (((rd l2 x25_1)).toNat * 5)) = some (.int .i64 ((rd_T77 l1 (rd l2 x25_1)).f0)) ∧ w'.cell? ⟨(ad269.add (((rd l2 x25_1)).toNat * 5)).block, (ad269.add (((rd l2 x25_1)).toNat * 5)).off + 1, none⟩ = some (.int .i64 ((rd_T77 l1 (rd l2 x25_1)).f1)) ∧ w'.cell? ⟨(ad269.add (((rd l2 x25_1)).toNat * 5)).block, (ad269.add (((rd l2 x25_1)).toNat * 5)).off + 2, none⟩ = some (.int .i64 ((rd_T77 l1 (rd l2 x25_1)).f2)) ∧ w'.cell? ⟨(ad269.add (((rd l2 x25_1)).toNat * 5)).block, (ad269.add (((rd l2 x25_1)).toNat * 5)).off + 3, none⟩ = some (.bool ((rd_T77 l1 (rd l2 x25_1)).f3)) ∧ w'.cell? ⟨(ad269.add (((rd l2 x25_1)).toNat * 5)).block, (ad269.add (((rd l2 x25_1)).toNat * 5)).off + 4, none⟩ = some (.float .f64 ((rd_T77 l1 (rd l2 x25_1)).f4))) (ds := []) #[false, false, false, false, false, false, false, false, false] (by kernel_rfl) rfl rfl ⟨((HB.out.cell (World.block_lt_of_cell? w _ hw273_0)).trans hw273_0), ((HB.out.cell (World.block_lt_of_cell? w _ hw273_1)).trans hw273_1), ((HB.out.cell (World.block_lt_of_cell? w _ hw273_2)).trans hw273_2), ((HB.out.cell (World.block_lt_of_cell? w _ hw273_3)).trans hw273_3), ((HB.out.cell (World.block_lt_of_cell? w _ hw273_4)).trans hw273_4), ((HB.out.cell (World.block_lt_of_cell? w _ hw274_0)).trans hw274_0), ((HB.out.cell (World.block_lt_of_cell? w _ hw274_1)).trans hw274_1), ((HB.out.cell (World.block_lt_of_cell? w _ hw274_2)).trans hw274_2), ((HB.out.cell (World.block_lt_of_cell? w _ hw274_3)).trans hw274_3), ((HB.out.cell (World.block_lt_of_cell? w _ hw274_4)).trans hw274_4)⟩ (fun hHeld => ?_); refine with_tabW impl_FitsOrder.tab12 impl_FitsOrder.bits12 (fun HT_ HW_ => ?_)
          generalize wr.drew = w32 at HO_8 HB hx273_0 hx273_1 hx273_2 hx273_3 hx273_4 hx274_0 hx274_1 hx274_2 hx274_3 hx274_4 hHeld ⊢
          refine pure_ (i := 0) (N := some 50) (v := ?_) (a' := ?_) #[true, false, false, false, false, false, false, false, false] rfl rfl (any_of HT_.out (by kernel_rfl)) (fun _ _ _ h => h) (Or.inl ⟨by rfl, ?_⟩) ?_ ?_
          rotate_left
          ·intro w'
           go_simp
           with_reducible rfl
          rotate_left
          ·simp only [Act.put, List.setIfInBounds_toArray, List.set_cons_zero, List.set_cons_succ, i64_w, i32_w]
           rfl
          refine pure_ (i := 1) (N := some 51) (v := ?_) (a' := ?_) #[true, true, false, false, false, false, false, false, false] rfl rfl (any_of HT_.out (by kernel_rfl)) (fun _ _ _ h => h) (Or.inl ⟨by rfl, ?_⟩) ?_ ?_
          rotate_left
          ·intro w'
           go_simp
           with_reducible rfl
          rotate_left
          ·simp only [Act.put, List.setIfInBounds_toArray, List.set_cons_zero, List.set_cons_succ, i64_w, i32_w]
           rfl
          refine pure_ (i := 2) (N := some 52) (v := ?_) (a' := ?_) #[true, true, true, false, false, false, false, false, false] rfl rfl (any_of HT_.out (by kernel_rfl)) (fun _ _ _ h => h) (Or.inl ⟨by rfl, ?_⟩) ?_ ?_
          rotate_left
          ·intro w'
           go_simp
           with_reducible rfl
          rotate_left
          ·simp only [Act.put, List.setIfInBounds_toArray, List.set_cons_zero, List.set_cons_succ, i64_w, i32_w]
           rfl
          refine pure_ (i := 4) (N := some 54) (v := ?_) (a' := ?_) #[true, true, true, false, true, false, false, false, false] rfl rfl (any_of HT_.out (by kernel_rfl)) (fun _ _ _ h => h) (Or.inl ⟨by rfl, ?_⟩) ?_ ?_
          rotate_left
          ·intro w'
           go_simp
           with_reducible rfl
          rotate_left
          ·simp only [Act.put, List.setIfInBounds_toArray, List.set_cons_zero, List.set_cons_succ, i64_w, i32_w]
           rfl
          refine pure_ (i := 5) (N := some 55) (v := ?_) (a' := ?_) #[true, true, true, false, true, true, false, false, false] rfl rfl (any_of HT_.out (by kernel_rfl)) (fun _ _ _ h => h) (Or.inl ⟨by rfl, ?_⟩) ?_ ?_
          rotate_left
          ·intro w'
           go_simp
           with_reducible rfl
          rotate_left
          ·simp only [Act.put, List.setIfInBounds_toArray, List.set_cons_zero, List.set_cons_succ, i64_w, i32_w]
           rfl
          refine pure_ (i := 6) (N := some 56) (v := ?_) (a' := ?_) #[true, true, true, false, true, true, true, false, false] rfl rfl (any_of HT_.out (by kernel_rfl)) (fun _ _ _ h => h) (Or.inl ⟨by rfl, ?_⟩) ?_ ?_
          rotate_left
          ·intro w'
           go_simp
           with_reducible rfl
          rotate_left
          ·simp only [Act.put, List.setIfInBounds_toArray, List.set_cons_zero, List.set_cons_succ, i64_w, i32_w]
           rfl
          refine take_ (i := 3) (N := some 53) (v := ?_) (a' := ?_) #[true, true, true, true, true, true, true, false, false] rfl rfl (take_ofW HT_.out HW_.out (by kernel_rfl)) (fun _ _ _ h => h) (Or.inl ⟨by rfl, ?_⟩) hHeld ?_ ?_
          rotate_left
          ·rintro w' ⟨s0, s1, s2, s3, s4, s5, s6, s7, s8, s9⟩
           go_simp
           with_reducible rfl
          rotate_left
          ·simp only [Act.put, List.setIfInBounds_toArray, List.set_cons_zero, List.set_cons_succ, i64_w, i32_w]
           rfl
          refine take_ (i := 7) (N := some 57) (v := ?_) (a' := ?_) #[true, true, true, true, true, true, true, true, false] rfl rfl (take_ofW HT_.out HW_.out (by kernel_rfl)) (fun _ _ _ h => h) (Or.inl ⟨by rfl, ?_⟩) hHeld ?_ ?_
          rotate_left
          ·rintro w' ⟨s0, s1, s2, s3, s4, s5, s6, s7, s8, s9⟩
           go_simp
           with_reducible rfl
          rotate_left
          ·simp only [Act.put, List.setIfInBounds_toArray, List.set_cons_zero, List.set_cons_succ, i64_w, i32_w]
           rfl
          refine one_ (i := 8) (N := some 58) #[true, true, true, true, true, true, true, true, true] rfl rfl (one_of HT_.out (by kernel_rfl)) (by decide) (fun K hK => ?_)
          first | refine goes_ Try.func69 (by kernel_rfl) rfl #[.agg #[.int .i64 ((rd_T77 l1 (rd D1_ x46_2)).f0), .int .i64 ((rd_T77 l1 (rd D1_ x46_2)).f1), .int .i64 ((rd_T77 l1 (rd D1_ x46_2)).f2), .bool ((rd_T77 l1 (rd D1_ x46_2)).f3), .float .f64 ((rd_T77 l1 (rd D1_ x46_2)).f4)], .agg #[.int .i64 ((rd_T77 l1 (rd l2 x25_1)).f0), .int .i64 ((rd_T77 l1 (rd l2 x25_1)).f1), .int .i64 ((rd_T77 l1 (rd l2 x25_1)).f2), .bool ((rd_T77 l1 (rd l2 x25_1)).f3), .float .f64 ((rd_T77 l1 (rd l2 x25_1)).f4)]] (by rfl) rfl rfl (by (try simp only [List.map_toArray, List.map_cons, List.map_nil]); first | done | (simp only [hji15]; rfl) | rfl | (simp only [List.length_drop, List.length_take]; rfl)) ?_ | refine goesV_ Try.func69 (by kernel_rfl) rfl #[.agg #[.int .i64 ((rd_T77 l1 (rd D1_ x46_2)).f0), .int .i64 ((rd_T77 l1 (rd D1_ x46_2)).f1), .int .i64 ((rd_T77 l1 (rd D1_ x46_2)).f2), .bool ((rd_T77 l1 (rd D1_ x46_2)).f3), .float .f64 ((rd_T77 l1 (rd D1_ x46_2)).f4)], .agg #[.int .i64 ((rd_T77 l1 (rd l2 x25_1)).f0), .int .i64 ((rd_T77 l1 (rd l2 x25_1)).f1), .int .i64 ((rd_T77 l1 (rd l2 x25_1)).f2), .bool ((rd_T77 l1 (rd l2 x25_1)).f3), .float .f64 ((rd_T77 l1 (rd l2 x25_1)).f4)]] (by rfl) rfl rfl (by rfl) (by first | rfl | (simp only [List.map_toArray, List.map_cons, List.map_nil]; rfl)) ?_
          with_reducible refine (impl_Call_ahead.calls ((rd_T77 l1 (rd D1_ x46_2)).f0) ((rd_T77 l1 (rd D1_ x46_2)).f1) ((rd_T77 l1 (rd D1_ x46_2)).f2) ((rd_T77 l1 (rd D1_ x46_2)).f3) ((rd_T77 l1 (rd D1_ x46_2)).f4) ((rd_T77 l1 (rd l2 x25_1)).f0) ((rd_T77 l1 (rd l2 x25_1)).f1) ((rd_T77 l1 (rd l2 x25_1)).f2) ((rd_T77 l1 (rd l2 x25_1)).f3) ((rd_T77 l1 (rd l2 x25_1)).f4) false _ A28.out).mono ?_
          rintro e w33 ⟨rfl, hb⟩
          refine ⟨_, rfl, ?_⟩
          have n0_ := a_ (Kd.R_below (r_ HO_8.out) hb)
          have n1_ := a_ (below_step b_ hb)
          clear HO_8; clear HB; have HO_8 := n0_; have HB := n1_; clear n0_ n1_; (try clear hb); (try clear hb2); (try clear hk); (try clear hi)
          refine hK.out _ _ ⟨((HB.out.cell (World.block_lt_of_cell? w _ hw273_0)).trans hw273_0), ((HB.out.cell (World.block_lt_of_cell? w _ hw273_1)).trans hw273_1), ((HB.out.cell (World.block_lt_of_cell? w _ hw273_2)).trans hw273_2), ((HB.out.cell (World.block_lt_of_cell? w _ hw273_3)).trans hw273_3), ((HB.out.cell (World.block_lt_of_cell? w _ hw273_4)).trans hw273_4), ((HB.out.cell (World.block_lt_of_cell? w _ hw274_0)).trans hw274_0), ((HB.out.cell (World.block_lt_of_cell? w _ hw274_1)).trans hw274_1), ((HB.out.cell (World.block_lt_of_cell? w _ hw274_2)).trans hw274_2), ((HB.out.cell (World.block_lt_of_cell? w _ hw274_3)).trans hw274_3), ((HB.out.cell (World.block_lt_of_cell? w _ hw274_4)).trans hw274_4)⟩ (fun hHeld => ?_)
          clear hK K
          refine norm_ (a' := ?_) ?_ ?_
          rotate_left
          ·show Act.put _ (some 58) _ = _
           simp only [Act.put, List.setIfInBounds_toArray, List.set_cons_zero, List.set_cons_succ, i64_w, i32_w]
           rfl
          refine done_ (done_of HT_.out (by kernel_rfl)) ?_
          try go_wp2
          go_roundg k2
          case measure => have := HK1.out; have := HK2.out; omega
          case rel => exact ⟨(wrap64 (x46_2 + 1)), (by first | rfl | (simp; done) | (simp [*]; done)), H', ⟨by have := HK1.out; have := HK2.out; omega⟩, ⟨by exact r_ HO_8.out⟩, ⟨b_⟩⟩
        ·rw [if_neg c21] at H
         have c21b0 := decide_eq_false c21
         clear c21
         have H' := a_ H
         clear H
         go_wp2
         go_roundg k2
         case measure => have := HK1.out; have := HK2.out; omega
         case rel => exact ⟨(wrap64 (x25_1 + 1)), (by first | rfl | (simp; done) | (simp [*]; done)), H', ⟨by have := HK1.out; have := HK2.out; omega⟩, ⟨by exact r_ HO_8.out⟩, ⟨b_⟩⟩
     ·replace c14 := Bool.eq_false_iff.mpr c14
      subst c14
      rw [if_neg (show ¬ (false = true) by decide)] at H
      simp only [Option.some.injEq, Prod.mk.injEq] at H
      obtain ⟨rfl, rfl⟩ := H
      have p267 : 0 ≤ (x25_1 : Int) := od_
      have q267 : x25_1 < (l2.length : Int) := od_
      obtain ⟨ad267, e267, hx267_0⟩ := Kd.at_int HR2.out x25_1 p267 q267
      cases e267
      try replace hx267_0 := cl_ HB.out hx267_0
      replace p267 := eq_true p267; replace q267 := eq_true q267
      try go_wp2
      have n0_ := a_ (Kd.R_drew HO_8.out)
      have n1_ := a_ (below_drew1 HB.out)
      clear HO_8; clear HB; have HO_8 := n0_; have HB := n1_; clear n0_ n1_
      obtain ⟨Ao35, co35, eo35⟩ := Kd.R_slice HO_8.out
      (first | subst eo35 | (injection eo35 with f1_ f2_ f3_; have f4_ := f1_.symm; have f5_ := f3_.symm; clear f1_ f2_ f3_; subst f4_; subst f5_))
      have p268 : 0 ≤ (x25_1 : Int) := od_
      have q268 : x25_1 < (t263.length : Int) := od_
      obtain ⟨ad268, e268, hx268_0⟩ := Kd.at_float (Kd.R_reads' HO_8.out).2.2 x25_1 p268 q268
      cases e268
      replace p268 := eq_true p268; replace q268 := eq_true q268
      have p269 : 0 ≤ ((rd l2 x25_1) : Int) := od_
      have q269 : (rd l2 x25_1) < (l1.length : Int) := od_
      obtain ⟨ad269, e269, hx269_0, hx269_1, hx269_2, hx269_3, hx269_4⟩ := at_T77 HR1.out (rd l2 x25_1) p269 q269
      have hw269_4 := hx269_4; have hw269_3 := hx269_3; have hw269_2 := hx269_2; have hw269_1 := hx269_1; have hw269_0 := hx269_0
      cases e269
      try replace hx269_0 := cl_ HB.out hx269_0
      try replace hx269_1 := cl_ HB.out hx269_1
      try replace hx269_2 := cl_ HB.out hx269_2
      try replace hx269_3 := cl_ HB.out hx269_3
      try replace hx269_4 := cl_ HB.out hx269_4
      replace p269 := eq_true p269; replace q269 := eq_true q269
      refine start_ (n := 11) (S := fun w' => w'.cell? (ad268.add (x25_1).toNat) = some (.float .f64 (rdOf (0 : Nat) t263 x25_1)) ∧ w'.cell? (ad269.add (((rd l2 x25_1)).toNat * 5)) = some (.int .i64 ((rd_T77 l1 (rd l2 x25_1)).f0)) ∧ w'.cell? ⟨(ad269.add (((rd l2 x25_1)).toNat * 5)).block, (ad269.add (((rd l2 x25_1)).toNat * 5)).off + 1, none⟩ = some (.int .i64 ((rd_T77 l1 (rd l2 x25_1)).f1)) ∧ w'.cell? ⟨(ad269.add (((rd l2 x25_1)).toNat * 5)).block, (ad269.add (((rd l2 x25_1)).toNat * 5)).off + 2, none⟩ = some (.int .i64 ((rd_T77 l1 (rd l2 x25_1)).f2)) ∧ w'.cell? ⟨(ad269.add (((rd l2 x25_1)).toNat * 5)).block, (ad269.add (((rd l2 x25_1)).toNat * 5)).off + 3, none⟩ = some (.bool ((rd_T77 l1 (rd l2 x25_1)).f3)) ∧ w'.cell? ⟨(ad269.add (((rd l2 x25_1)).toNat * 5)).block, (ad269.add (((rd l2 x25_1)).toNat * 5)).off + 4, none⟩ = some (.float .f64 ((rd_T77 l1 (rd l2 x25_1)).f4))) (ds := []) #[false, false, false, false, false, false, false, false, false, false, false] (by kernel_rfl) rfl rfl ⟨hx268_0, ((HB.out.cell (World.block_lt_of_cell? w _ hw269_0)).trans hw269_0), ((HB.out.cell (World.block_lt_of_cell? w _ hw269_1)).trans hw269_1), ((HB.out.cell (World.block_lt_of_cell? w _ hw269_2)).trans hw269_2), ((HB.out.cell (World.block_lt_of_cell? w _ hw269_3)).trans hw269_3), ((HB.out.cell (World.block_lt_of_cell? w _ hw269_4)).trans hw269_4)⟩ (fun hHeld => ?_); refine with_tabW impl_FitsOrder.tab7 impl_FitsOrder.bits7 (fun HT_ HW_ => ?_)
      generalize wr.drew = w34 at HO_8 HB hx268_0 hx269_0 hx269_1 hx269_2 hx269_3 hx269_4 hHeld ⊢
      refine pure_ (i := 0) (N := some 30) (v := ?_) (a' := ?_) #[true, false, false, false, false, false, false, false, false, false, false] rfl rfl (any_of HT_.out (by kernel_rfl)) (fun _ _ _ h => h) (Or.inl ⟨by rfl, ?_⟩) ?_ ?_
      rotate_left
      ·intro w'
       go_simp
       with_reducible rfl
      rotate_left
      ·simp only [Act.put, List.setIfInBounds_toArray, List.set_cons_zero, List.set_cons_succ, i64_w, i32_w]
       rfl
      refine pure_ (i := 1) (N := some 31) (v := ?_) (a' := ?_) #[true, true, false, false, false, false, false, false, false, false, false] rfl rfl (any_of HT_.out (by kernel_rfl)) (fun _ _ _ h => h) (Or.inl ⟨by rfl, ?_⟩) ?_ ?_
      rotate_left
      ·intro w'
       go_simp
       with_reducible rfl
      rotate_left
      ·simp only [Act.put, List.setIfInBounds_toArray, List.set_cons_zero, List.set_cons_succ, i64_w, i32_w]
       rfl
      refine pure_ (i := 2) (N := some 32) (v := ?_) (a' := ?_) #[true, true, true, false, false, false, false, false, false, false, false] rfl rfl (any_of HT_.out (by kernel_rfl)) (fun _ _ _ h => h) (Or.inl ⟨by rfl, ?_⟩) ?_ ?_
      rotate_left
      ·intro w'
       go_simp
       with_reducible rfl
      rotate_left
      ·simp only [Act.put, List.setIfInBounds_toArray, List.set_cons_zero, List.set_cons_succ, i64_w, i32_w]
       rfl
      refine pure_ (i := 4) (N := some 34) (v := ?_) (a' := ?_) #[true, true, true, false, true, false, false, false, false, false, false] rfl rfl (any_of HT_.out (by kernel_rfl)) (fun _ _ _ h => h) (Or.inl ⟨by rfl, ?_⟩) ?_ ?_
      rotate_left
      ·intro w'
       go_simp
       with_reducible rfl
      rotate_left
      ·simp only [Act.put, List.setIfInBounds_toArray, List.set_cons_zero, List.set_cons_succ, i64_w, i32_w]
       rfl
      refine pure_ (i := 5) (N := some 35) (v := ?_) (a' := ?_) #[true, true, true, false, true, true, false, false, false, false, false] rfl rfl (any_of HT_.out (by kernel_rfl)) (fun _ _ _ h => h) (Or.inl ⟨by rfl, ?_⟩) ?_ ?_
      rotate_left
      ·intro w'
       go_simp
       with_reducible rfl
      rotate_left
      ·simp only [Act.put, List.setIfInBounds_toArray, List.set_cons_zero, List.set_cons_succ, i64_w, i32_w]
       rfl
      refine pure_ (i := 6) (N := some 36) (v := ?_) (a' := ?_) #[true, true, true, false, true, true, true, false, false, false, false] rfl rfl (any_of HT_.out (by kernel_rfl)) (fun _ _ _ h => h) (Or.inl ⟨by rfl, ?_⟩) ?_ ?_
      rotate_left
      ·intro w'
       go_simp
       with_reducible rfl
      rotate_left
      ·simp only [Act.put, List.setIfInBounds_toArray, List.set_cons_zero, List.set_cons_succ, i64_w, i32_w]
       rfl
      refine pure_ (i := 7) (N := some 37) (v := ?_) (a' := ?_) #[true, true, true, false, true, true, true, true, false, false, false] rfl rfl (any_of HT_.out (by kernel_rfl)) (fun _ _ _ h => h) (Or.inl ⟨by rfl, ?_⟩) ?_ ?_
      rotate_left
      ·intro w'
       go_simp
       with_reducible rfl
      rotate_left
      ·simp only [Act.put, List.setIfInBounds_toArray, List.set_cons_zero, List.set_cons_succ, i64_w, i32_w]
       rfl
      refine take_ (i := 3) (N := some 33) (v := ?_) (a' := ?_) #[true, true, true, true, true, true, true, true, false, false, false] rfl rfl (take_ofW HT_.out HW_.out (by kernel_rfl)) (fun _ _ _ h => h) (Or.inl ⟨by rfl, ?_⟩) hHeld ?_ ?_
      rotate_left
      ·rintro w' ⟨s0, s1, s2, s3, s4, s5⟩
       go_simp
       with_reducible rfl
      rotate_left
      ·simp only [Act.put, List.setIfInBounds_toArray, List.set_cons_zero, List.set_cons_succ, i64_w, i32_w]
       rfl
      refine take_ (i := 8) (N := some 38) (v := ?_) (a' := ?_) #[true, true, true, true, true, true, true, true, true, false, false] rfl rfl (take_ofW HT_.out HW_.out (by kernel_rfl)) (fun _ _ _ h => h) (Or.inl ⟨by rfl, ?_⟩) hHeld ?_ ?_
      rotate_left
      ·rintro w' ⟨s0, s1, s2, s3, s4, s5⟩
       go_simp
       with_reducible rfl
      rotate_left
      ·simp only [Act.put, List.setIfInBounds_toArray, List.set_cons_zero, List.set_cons_succ, i64_w, i32_w]
       rfl
      refine one_ (i := 9) (N := some 39) #[true, true, true, true, true, true, true, true, true, true, false] rfl rfl (one_of HT_.out (by kernel_rfl)) (by decide) (fun K hK => ?_)
      first | refine goes_ Try.func42 (by kernel_rfl) rfl #[.float .f64 (rdOf (0 : Nat) t263 x25_1), .float .f64 ((rd_T77 l1 (rd l2 x25_1)).f4)] (by rfl) rfl rfl la_ ?_ | refine goesV_ Try.func42 (by kernel_rfl) rfl #[.float .f64 (rdOf (0 : Nat) t263 x25_1), .float .f64 ((rd_T77 l1 (rd l2 x25_1)).f4)] (by rfl) rfl rfl (by rfl) (by first | rfl | (simp only [List.map_toArray, List.map_cons, List.map_nil]; rfl)) ?_
      with_reducible refine (impl_SameNum.calls (rdOf (0 : Nat) t263 x25_1) ((rd_T77 l1 (rd l2 x25_1)).f4) false _ A13.out).mono ?_
      rintro e w' ⟨rfl, ⟨nd, rfl⟩⟩
      refine ⟨_, rfl, ?_⟩
      refine hK.out _ _ ⟨hHeld.1, ((HB.out.cell (World.block_lt_of_cell? w _ hw269_0)).trans hw269_0), ((HB.out.cell (World.block_lt_of_cell? w _ hw269_1)).trans hw269_1), ((HB.out.cell (World.block_lt_of_cell? w _ hw269_2)).trans hw269_2), ((HB.out.cell (World.block_lt_of_cell? w _ hw269_3)).trans hw269_3), ((HB.out.cell (World.block_lt_of_cell? w _ hw269_4)).trans hw269_4)⟩ (fun hHeld => ?_)
      clear hK K
      refine norm_ (a' := ?_) ?_ ?_
      rotate_left
      ·show Act.put _ (some 39) _ = _
       simp only [Act.put, List.setIfInBounds_toArray, List.set_cons_zero, List.set_cons_succ, i64_w, i32_w]
       rfl
      refine pure_ (i := 10) (N := some 40) (v := ?_) (a' := ?_) #[true, true, true, true, true, true, true, true, true, true, true] rfl rfl (any_of HT_.out (by kernel_rfl)) (fun _ _ _ h => h) (Or.inl ⟨by rfl, ?_⟩) ?_ ?_
      rotate_left
      ·intro w'
       go_simp
       with_reducible rfl
      rotate_left
      ·simp only [Act.put, List.setIfInBounds_toArray, List.set_cons_zero, List.set_cons_succ, i64_w, i32_w]
       rfl
      refine done_ (done_of HT_.out (by kernel_rfl)) ?_
      try go_wp2
      go_ret2
      exact ⟨by first | rfl | (simp [errW_none, errW_some] <;> rfl) | (simp [*, errW_none, errW_some] <;> rfl), b_⟩
    ·rw [if_neg c7] at H
     have c7b0 := decide_eq_false c7
     clear c7
     simp only [Option.some.injEq, Prod.mk.injEq] at H
     obtain ⟨rfl, rfl⟩ := H
     go_wp2
     go_ret2
     exact ⟨by first | rfl | (simp [errW_none, errW_some] <;> rfl) | (simp [*, errW_none, errW_some] <;> rfl), b_⟩
 ·replace c5 := Bool.eq_false_iff.mpr c5
  subst c5
  rw [if_neg (show ¬ (false = true) by decide)] at H
  simp only [Option.some.injEq, Prod.mk.injEq] at H
  obtain ⟨rfl, rfl⟩ := H
  go_enter Try.func22, Try.ntmps22
  go_wp2_with (first | ((with_reducible refine gate_callee (f := 13) rfl ?_); refine goesL_ (some 18) rfl rfl Try.func13 (by kernel_rfl) rfl #[.int .i64 a0, .slice A1 l1.length c1, .slice A2 l2.length c2] rfl la_ ?_; (with_reducible refine (impl_PlayObject.calls k a0 _ _ l1 _ _ l2 t263 false _ ?side1 ?side2 ?side3 ?side4 A4.out).mono ?_); (case side1 => repeat (first | exact HR1.out | (with_reducible refine Kd.C_alloc ?_ _) | (with_reducible refine Kd.C_drewN ?_ _) | (with_reducible refine Kd.C_drew ?_))); (case side2 => exact HC1.out); (case side3 => repeat (first | exact HR2.out | (with_reducible refine Kd.C_alloc ?_ _) | (with_reducible refine Kd.C_drewN ?_ _) | (with_reducible refine Kd.C_drew ?_))); (case side4 => exact HC2.out); rintro e w36 ⟨v265, rfl, ho0, hb⟩; refine ⟨_, rfl, ?_⟩; have n0_ := a_ (Kd.R_lower ho0 (below_size b_)); have n1_ := a_ (below_step b_ hb); clear HB; have HO266 := n0_; have HB := n1_; clear n0_ n1_; (try clear hb); (try clear hb2); (try clear hk); (try clear hi); (try clear ho0)))
  go_ret2
  exact ⟨by first | rfl | (simp [errW_none, errW_some] <;> rfl) | (simp [*, errW_none, errW_some] <;> rfl), b_⟩

end Go.Proofs.Ythdpiceiemkjlaa.GFnOneOrder

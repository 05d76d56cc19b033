-- Printed by wip/tools/print2.py out of the translation: walks and plain functions; Lean checks them.
import Derived.Test.YthdpiceiemkjlaaGFitsOrderx0
import Derived.Test.YthdpiceiemkjlaaGFitsOrderx9
namespace Go.Proofs.Ythdpiceiemkjlaa.GFitsOrder
open Go.RowKit Go.Proofs.YthdpiceiemkjlaaW.PrintWords Go.Proofs.YthdpiceiemkjlaaW.PrintLast Go.Proofs.YthdpiceiemkjlaaW.PrintMore
attribute [local go_sem] max2_int min2_int max_two min_two max_three min_three max_four min_four   -- for this text's walks alone
set_option linter.unusedVariables false
set_option linter.unusedSimpArgs false

/-! ### impl_FitsOrder: function 22 -/
mutual
def impl_FitsOrder.l0 : Nat → List (S77) → List Int → List Nat → List Int → Int → Int → Option (Bool × Bool)
 | 0, _, _, _, _, _, _ => none
 | k + 1, x1, x2, x8, x23, x24, x25 => if x25 < x24 then (if 0 ≤ x25 then (if x25 < (x23.length : Int) then (if x25 < (x8.length : Int) then (if 0 ≤ (rd x23 x25) then (if (rd x23 x25) < (x1.length : Int) then ((impl_SameNum.f (rdOf (0 : Nat) x8 x25) ((rd_T77 x1 (rd x23 x25)).f4)).bind fun t290 => (if t290 = true then (if 0 ≤ (wrap64 (x25 + 1)) then (if (wrap64 (x25 + 1)) ≤ (x2.length : Int) then (impl_FitsOrder.l1 k x1 x2 x8 (rd x23 x25) x23 x24 x25 (x2.drop ((wrap64 (x25 + 1)) : Int).toNat) ((x2.drop ((wrap64 (x25 + 1)) : Int).toNat).length : Int) 0) else (none)) else (none)) else (some (false, true)))) else (none)) else (none)) else (none)) else (none)) else (none)) else (some (true, true))
def impl_FitsOrder.l1 : Nat → List (S77) → List Int → List Nat → Int → List Int → Int → Int → List Int → Int → Int → Option (Bool × Bool)
 | 0, _, _, _, _, _, _, _, _, _, _ => none
 | k + 1, x1, x2, x8, x11, x23, x24, x25, x44, x45, x46 => if x46 < x45 then (if 0 ≤ x46 then (if x46 < (x44.length : Int) then (if 0 ≤ (rd x44 x46) then (if (rd x44 x46) < (x1.length : Int) then (if 0 ≤ x11 then (if x11 < (x1.length : Int) then ((impl_Call_ahead.f ((rd_T77 x1 (rd x44 x46)).f0) ((rd_T77 x1 (rd x44 x46)).f1) ((rd_T77 x1 (rd x44 x46)).f2) ((rd_T77 x1 (rd x44 x46)).f3) ((rd_T77 x1 (rd x44 x46)).f4) ((rd_T77 x1 x11).f0) ((rd_T77 x1 x11).f1) ((rd_T77 x1 x11).f2) ((rd_T77 x1 x11).f3) ((rd_T77 x1 x11).f4)).bind fun t295 => (if t295 = true then (some (false, true)) else (impl_FitsOrder.l1 k x1 x2 x8 x11 x23 x24 x25 x44 x45 (wrap64 (x46 + 1))))) else (none)) else (none)) else (none)) else (none)) else (none)) else (none)) else (impl_FitsOrder.l0 k x1 x2 x8 x23 x24 (wrap64 (x25 + 1)))
end
def impl_FitsOrder.f (k : Nat) (a0 : Int) (l1 : List (S77)) (l2 : List Int) : Option (Bool × Bool) := (impl_PlayObject.f k a0 l1 l2).bind fun bt283 => (if bt283.2 = true then (impl_FitsOrder.l0 k l1 l2 bt283.1 l2 (l2.length : Int) 0) else (some (false, false)))
theorem impl_FitsOrder.mono_l : ∀ k, (∀ y0 y1 y2 y3 y4 y5, LeO (impl_FitsOrder.l0 k y0 y1 y2 y3 y4 y5) (impl_FitsOrder.l0 (k + 1) y0 y1 y2 y3 y4 y5)) ∧ (∀ y0 y1 y2 y3 y4 y5 y6 y7 y8 y9, LeO (impl_FitsOrder.l1 k y0 y1 y2 y3 y4 y5 y6 y7 y8 y9) (impl_FitsOrder.l1 (k + 1) y0 y1 y2 y3 y4 y5 y6 y7 y8 y9))
 | 0 => ⟨fun _ _ _ _ _ _ r h => by simp [impl_FitsOrder.l0] at h, fun _ _ _ _ _ _ _ _ _ _ r h => by simp [impl_FitsOrder.l1] at h⟩
 | k + 1 => by
  obtain ⟨ih0, ih1⟩ := impl_FitsOrder.mono_l k
  refine ⟨?_, ?_⟩
  ·intro y0 y1 y2 y3 y4 y5
   unfold impl_FitsOrder.l0
   repeat' first | (with_reducible exact ih0 _ _ _ _ _ _) | (with_reducible exact ih1 _ _ _ _ _ _ _ _ _ _) | (with_reducible exact impl_PlayObject.mono _ _ _ _) | (with_reducible exact LeO.refl _) | (with_reducible exact LeO.none _) | (with_reducible refine LeO.ite ?_ ?_) | (with_reducible refine LeO.bind ?_ (fun _ => ?_)) | exact ih0 _ _ _ _ _ _ | exact ih1 _ _ _ _ _ _ _ _ _ _ | exact impl_PlayObject.mono _ _ _ _ | exact LeO.none _ | refine LeO.ite ?_ ?_ | refine LeO.bind ?_ (fun _ => ?_)
  ·intro y0 y1 y2 y3 y4 y5 y6 y7 y8 y9
   unfold impl_FitsOrder.l1
   repeat' first | (with_reducible exact ih0 _ _ _ _ _ _) | (with_reducible exact ih1 _ _ _ _ _ _ _ _ _ _) | (with_reducible exact impl_PlayObject.mono _ _ _ _) | (with_reducible exact LeO.refl _) | (with_reducible exact LeO.none _) | (with_reducible refine LeO.ite ?_ ?_) | (with_reducible refine LeO.bind ?_ (fun _ => ?_)) | exact ih0 _ _ _ _ _ _ | exact ih1 _ _ _ _ _ _ _ _ _ _ | exact impl_PlayObject.mono _ _ _ _ | exact LeO.none _ | refine LeO.ite ?_ ?_ | refine LeO.bind ?_ (fun _ => ?_)
theorem impl_FitsOrder.mono : ∀ a0 a1 a2 k, LeO (impl_FitsOrder.f k a0 a1 a2) (impl_FitsOrder.f (k + 1) a0 a1 a2) := by
 intro a0 a1 a2 k
 obtain ⟨ih0, ih1⟩ := impl_FitsOrder.mono_l k
 unfold impl_FitsOrder.f
 repeat' first | (with_reducible exact ih0 _ _ _ _ _ _) | (with_reducible exact ih1 _ _ _ _ _ _ _ _ _ _) | (with_reducible exact impl_PlayObject.mono _ _ _ _) | (with_reducible exact LeO.refl _) | (with_reducible exact LeO.none _) | (with_reducible refine LeO.ite ?_ ?_) | (with_reducible refine LeO.bind ?_ (fun _ => ?_)) | exact ih0 _ _ _ _ _ _ | exact ih1 _ _ _ _ _ _ _ _ _ _ | exact impl_PlayObject.mono _ _ _ _ | exact LeO.none _ | refine LeO.ite ?_ ?_ | refine LeO.bind ?_ (fun _ => ?_)
def impl_FitsOrder.T7 : Bool × List (List Nat × List Nat) := (true, [([], []), ([], []), ([0, 1], [0, 1]), ([2], [2]), ([], []), ([], []), ([4, 5], [4, 5]), ([6], [6]), ([7], [7]), ([3, 8], [3, 8]), ([9], [9])])
def impl_FitsOrder.B7 : List Nat := [0, 0, 3, 7, 0, 0, 48, 112, 240, 511, 1023]
theorem impl_FitsOrder.tab7 : rtab .any (opsOf Try.f22 7) = impl_FitsOrder.T7 := by kernel_rfl
theorem impl_FitsOrder.bits7 : waitsOk impl_FitsOrder.T7.2 impl_FitsOrder.B7 = true := by kernel_rfl
def impl_FitsOrder.T12 : Bool × List (List Nat × List Nat) := (true, [([], []), ([], []), ([0, 1], [0, 1]), ([2], [2]), ([], []), ([], []), ([4, 5], [4, 5]), ([6], [6]), ([3, 7], [3, 7])])
def impl_FitsOrder.B12 : List Nat := [0, 0, 3, 7, 0, 0, 48, 112, 255]
theorem impl_FitsOrder.tab12 : rtab .any (opsOf Try.f22 12) = impl_FitsOrder.T12 := by kernel_rfl
theorem impl_FitsOrder.bits12 : waitsOk impl_FitsOrder.T12.2 impl_FitsOrder.B12 = true := by kernel_rfl
set_option maxHeartbeats 8000000 in
set_option maxRecDepth 100000 in
theorem impl_FitsOrder.calls (k : Nat) (a0 : Int) (A1 : Option Addr) (c1 : Nat) (l1 : List (S77)) (A2 : Option Addr) (c2 : Nat) (l2 : List Int) (r1 : Bool) (r2 : Bool) (w : World) (hr1 : Kd.C k77 w A1 l1.length l1) (hc1 : l1.length ≤ c1) (hr2 : Kd.C (Kd.int .i64) w A2 l2.length l2) (hc2 : l2.length ≤ c2) (h : impl_FitsOrder.f k a0 l1 l2 = some (r1, r2)) :
  Calls Try.prog 22 #[.int .i64 a0, .slice A1 l1.length c1, .slice A2 l2.length c2] w fun e w' => e = .returned (.tuple #[.bool r1, .bool r2]) ∧ Below w.heap.size w w' := by
 have hu77 := Try.underlying77
 have HR1 := a_ hr1
 have HC1 := a_ hc1
 clear hr1 hc1
 have HR2 := a_ hr2
 have HC2 := a_ hc2
 clear hr2 hc2
 have HB := a_ (Below.refl w.heap.size w)
 have H : ((impl_PlayObject.f k a0 l1 l2).bind fun bt283 => (if bt283.2 = true then (impl_FitsOrder.l0 k l1 l2 bt283.1 l2 (l2.length : Int) 0) else (some (false, false)))) = some (r1, r2) := h
 clear h
 replace H := Option.bind_eq_some_iff.mp H
 obtain ⟨⟨t283, t284⟩, A40, H⟩ := H
 replace H : (if t284 = true then (impl_FitsOrder.l0 k l1 l2 t283 l2 (l2.length : Int) 0) else (some (false, false))) = some (r1, r2) := H
 have A4 := a_ A40
 clear A40
 by_cases c5 : t284 = true
 ·subst c5
  have H1 : (impl_FitsOrder.l0 k l1 l2 t283 l2 (l2.length : Int) 0) = some (r1, r2) := by rw [if_pos rfl] at H; exact H
  clear H; have H := H1; clear H1
  have H' := a_ H
  clear H
  go_enter Try.func22, Try.ntmps22
  go_wp2_with (first | ((with_reducible refine gate_callee (f := 13) rfl ?_); refine goesL_ (some 18) rfl rfl Try.func13 (by kernel_rfl) rfl #[.int .i64 a0, .slice A1 l1.length c1, .slice A2 l2.length c2] rfl la_ ?_; (with_reducible refine (impl_PlayObject.calls k a0 _ _ l1 _ _ l2 t283 true _ ?side1 ?side2 ?side3 ?side4 A4.out).mono ?_); (case side1 => repeat (first | exact HR1.out | (with_reducible refine Kd.C_alloc ?_ _) | (with_reducible refine Kd.C_drewN ?_ _) | (with_reducible refine Kd.C_drew ?_))); (case side2 => exact HC1.out); (case side3 => repeat (first | exact HR2.out | (with_reducible refine Kd.C_alloc ?_ _) | (with_reducible refine Kd.C_drewN ?_ _) | (with_reducible refine Kd.C_drew ?_))); (case side4 => exact HC2.out); rintro e w6 ⟨v285, rfl, ho0, hb⟩; refine ⟨_, rfl, ?_⟩; have n0_ := a_ (Kd.R_lower ho0 (below_size b_)); have n1_ := a_ (below_step b_ hb); clear HB; have HO286 := n0_; have HB := n1_; clear n0_ n1_; (try clear hb); (try clear hb2); (try clear hk); (try clear hi); (try clear ho0)))
  go_loopg [25] k (fun kq v25 w' => ∃ (x25_1 : Int), v25 = .int .i64 x25_1 ∧ Aside0 (impl_FitsOrder.l0 kq l1 l2 t283 l2 (l2.length : Int) x25_1 = some (r1, r2)) ∧ Aside0 (kq ≤ k) ∧ Aside0 (Kd.R Kd.float 55 w' w.heap.size (fun _ => True) v285 t283) ∧ Aside0 (Below w.heap.size w w'))
  case atStart => exact ⟨(0), (by first | rfl | (simp; done) | (simp [*]; done)), H', ⟨Nat.le_refl _⟩, ⟨by exact r_ HO286.out⟩, ⟨b_⟩⟩
  case round =>
   clear H'
   (try clear c1); (try clear c2); (try clear p2); (try clear c5)
   obtain ⟨x25_1, rfl, HA, HK1, HO_8, HB⟩ := hrel
   cases gk with
   | zero => exact absurd HA.out (by simp [impl_FitsOrder.l0])
   | succ k1 =>
    have H := HA.out; clear HA
    simp only [impl_FitsOrder.l0] at H
    by_cases c7 : x25_1 < (l2.length : Int)
    ·rw [if_pos c7] at H
     have c7b0 : decide (x25_1 < (l2.length : Int)) = true := decide_eq_true c7
     clear c7
     by_cases c8 : 0 ≤ x25_1
     ·rw [if_pos c8] at H
      have c8b0 : decide (0 ≤ x25_1) = true := decide_eq_true c8
      clear c8
      by_cases c9 : x25_1 < (l2.length : Int)
      ·rw [if_pos c9] at H
       have c9b0 : decide (x25_1 < (l2.length : Int)) = true := decide_eq_true c9
       clear c9
       by_cases c10 : x25_1 < (t283.length : Int)
       ·rw [if_pos c10] at H
        have c10b0 : decide (x25_1 < (t283.length : Int)) = true := decide_eq_true c10
        clear c10
        by_cases c11 : 0 ≤ (rd l2 x25_1)
        ·rw [if_pos c11] at H
         have c11b0 : decide (0 ≤ (rd l2 x25_1)) = true := decide_eq_true c11
         clear c11
         by_cases c12 : (rd l2 x25_1) < (l1.length : Int)
         ·rw [if_pos c12] at H
          have c12b0 : decide ((rd l2 x25_1) < (l1.length : Int)) = true := decide_eq_true c12
          clear c12
          replace H := Option.bind_eq_some_iff.mp H
          obtain ⟨t290, A130, H⟩ := H
          replace H : (if t290 = true then (if 0 ≤ (wrap64 (x25_1 + 1)) then (if (wrap64 (x25_1 + 1)) ≤ (l2.length : Int) then (impl_FitsOrder.l1 k1 l1 l2 t283 (rd l2 x25_1) l2 (l2.length : Int) x25_1 (l2.drop ((wrap64 (x25_1 + 1)) : Int).toNat) ((l2.drop ((wrap64 (x25_1 + 1)) : Int).toNat).length : Int) 0) else (none)) else (none)) else (some (false, true))) = some (r1, r2) := H
          have A13 := a_ A130; clear A130
          by_cases c14 : t290 = true
          ·subst c14
           have H1 : (if 0 ≤ (wrap64 (x25_1 + 1)) then (if (wrap64 (x25_1 + 1)) ≤ (l2.length : Int) then (impl_FitsOrder.l1 k1 l1 l2 t283 (rd l2 x25_1) l2 (l2.length : Int) x25_1 (l2.drop ((wrap64 (x25_1 + 1)) : Int).toNat) ((l2.drop ((wrap64 (x25_1 + 1)) : Int).toNat).length : Int) 0) else (none)) else (none)) = some (r1, r2) := by rw [if_pos rfl] at H; exact H
           clear H; have H := H1; clear H1
           obtain ⟨ji15, hji15⟩ : ∃ j_ : Int, (wrap64 (x25_1 + 1)) = j_ := ⟨_, rfl⟩
           replace H : (if 0 ≤ (ji15) then (if (ji15) ≤ (l2.length : Int) then (impl_FitsOrder.l1 k1 l1 l2 t283 (rd l2 x25_1) l2 (l2.length : Int) x25_1 (l2.drop ((ji15) : Int).toNat) ((l2.drop ((ji15) : Int).toNat).length : Int) 0) else (none)) else (none)) = some (r1, r2) := by first | (rw [hji15] at H; exact H) | (simp only [hji15] at H ⊢; exact H)
           (try rw [hji15] at A13)
           have hji15w : (IntKind.i64.wrap (x25_1 + 1)) = ji15 := (i64_w _).trans hji15
           by_cases c16 : 0 ≤ (ji15)
           ·rw [if_pos c16] at H
            have c16b0 := eq_true c16
            have c16b1 : decide (0 ≤ (ji15)) = true := decide_eq_true c16
            clear c16
            by_cases c17 : (ji15) ≤ (l2.length : Int)
            ·rw [if_pos c17] at H
             have c17b0 := eq_true c17
             have c17b1 : decide ((ji15) ≤ (l2.length : Int)) = true := decide_eq_true c17
             clear c17
             have H' := a_ H
             clear H
             have p287 : 0 ≤ (x25_1 : Int) := od_
             have q287 : x25_1 < (l2.length : Int) := od_
             obtain ⟨ad287, e287, hx287_0⟩ := Kd.at_int HR2.out x25_1 p287 q287
             cases e287
             try replace hx287_0 := (HB.out.cell (World.block_lt_of_cell? w _ hx287_0)).trans hx287_0
             replace p287 := eq_true p287; replace q287 := eq_true q287
             try go_wp2
             have n0_ := a_ (Kd.R_drew HO_8.out)
             have n1_ := a_ (below_drew1 HB.out)
             clear HO_8; clear HB; have HO_8 := n0_; have HB := n1_; clear n0_ n1_
             obtain ⟨Ao19, co19, eo19⟩ := Kd.R_slice HO_8.out
             (first | subst eo19 | (injection eo19 with f1_ f2_ f3_; have f4_ := f1_.symm; have f5_ := f3_.symm; clear f1_ f2_ f3_; subst f4_; subst f5_))
             have p288 : 0 ≤ (x25_1 : Int) := od_
             have q288 : x25_1 < (t283.length : Int) := od_
             obtain ⟨ad288, e288, hx288_0⟩ := Kd.at_float (Kd.R_reads' HO_8.out).2.2 x25_1 p288 q288
             cases e288
             replace p288 := eq_true p288; replace q288 := eq_true q288
             have p289 : 0 ≤ ((rd l2 x25_1) : Int) := od_
             have q289 : (rd l2 x25_1) < (l1.length : Int) := od_
             obtain ⟨ad289, e289, hx289_0, hx289_1, hx289_2, hx289_3, hx289_4⟩ := at_T77 HR1.out (rd l2 x25_1) p289 q289
             have hw289_4 := hx289_4; have hw289_3 := hx289_3; have hw289_2 := hx289_2; have hw289_1 := hx289_1; have hw289_0 := hx289_0
             cases e289
             try replace hx289_0 := (HB.out.cell (World.block_lt_of_cell? w _ hx289_0)).trans hx289_0
             try replace hx289_1 := (HB.out.cell (World.block_lt_of_cell? w _ hx289_1)).trans hx289_1
             try replace hx289_2 := (HB.out.cell (World.block_lt_of_cell? w _ hx289_2)).trans hx289_2
             try replace hx289_3 := (HB.out.cell (World.block_lt_of_cell? w _ hx289_3)).trans hx289_3
             try replace hx289_4 := (HB.out.cell (World.block_lt_of_cell? w _ hx289_4)).trans hx289_4
             replace p289 := eq_true p289; replace q289 := eq_true q289
             refine start_ (n := 11) (S := fun w' => w'.cell? (ad288.add (x25_1).toNat) = some (.float .f64 (rdOf (0 : Nat) t283 x25_1)) ∧ w'.cell? (ad289.add (((rd l2 x25_1)).toNat * 5)) = some (.int .i64 ((rd_T77 l1 (rd l2 x25_1)).f0)) ∧ w'.cell? ⟨(ad289.add (((rd l2 x25_1)).toNat * 5)).block, (ad289.add (((rd l2 x25_1)).toNat * 5)).off + 1, none⟩ = some (.int .i64 ((rd_T77 l1 (rd l2 x25_1)).f1)) ∧ w'.cell? ⟨(ad289.add (((rd l2 x25_1)).toNat * 5)).block, (ad289.add (((rd l2 x25_1)).toNat * 5)).off + 2, none⟩ = some (.int .i64 ((rd_T77 l1 (rd l2 x25_1)).f2)) ∧ w'.cell? ⟨(ad289.add (((rd l2 x25_1)).toNat * 5)).block, (ad289.add (((rd l2 x25_1)).toNat * 5)).off + 3, none⟩ = some (.bool ((rd_T77 l1 (rd l2 x25_1)).f3)) ∧ w'.cell? ⟨(ad289.add (((rd l2 x25_1)).toNat * 5)).block, (ad289.add (((rd l2 x25_1)).toNat * 5)).off + 4, none⟩ = some (.float .f64 ((rd_T77 l1 (rd l2 x25_1)).f4))) (ds := []) #[false, false, false, false, false, false, false, false, false, false, false] (by kernel_rfl) rfl rfl ⟨hx288_0, ((HB.out.cell (World.block_lt_of_cell? w _ hw289_0)).trans hw289_0), ((HB.out.cell (World.block_lt_of_cell? w _ hw289_1)).trans hw289_1), ((HB.out.cell (World.block_lt_of_cell? w _ hw289_2)).trans hw289_2), ((HB.out.cell (World.block_lt_of_cell? w _ hw289_3)).trans hw289_3), ((HB.out.cell (World.block_lt_of_cell? w _ hw289_4)).trans hw289_4)⟩ (fun hHeld => ?_); refine with_tabW impl_FitsOrder.tab7 impl_FitsOrder.bits7 (fun HT_ HW_ => ?_)
             generalize wr.drew = w18 at HO_8 HB hx288_0 hx289_0 hx289_1 hx289_2 hx289_3 hx289_4 hHeld ⊢
             refine pure_ (i := 0) (N := some 30) (v := ?_) (a' := ?_) #[true, false, false, false, false, false, false, false, false, false, false] rfl rfl (any_of HT_.out (by kernel_rfl)) (fun _ _ _ h => h) (Or.inl ⟨by rfl, ?_⟩) ?_ ?_
             rotate_left
             ·intro w'
              go_simp
              with_reducible rfl
             rotate_left
             ·simp only [Act.put, List.setIfInBounds_toArray, List.set_cons_zero, List.set_cons_succ, i64_w, i32_w]
              rfl
             refine pure_ (i := 1) (N := some 31) (v := ?_) (a' := ?_) #[true, true, false, false, false, false, false, false, false, false, false] rfl rfl (any_of HT_.out (by kernel_rfl)) (fun _ _ _ h => h) (Or.inl ⟨by rfl, ?_⟩) ?_ ?_
             rotate_left
             ·intro w'
              go_simp
              with_reducible rfl
             rotate_left
             ·simp only [Act.put, List.setIfInBounds_toArray, List.set_cons_zero, List.set_cons_succ, i64_w, i32_w]
              rfl
             refine pure_ (i := 2) (N := some 32) (v := ?_) (a' := ?_) #[true, true, true, false, false, false, false, false, false, false, false] rfl rfl (any_of HT_.out (by kernel_rfl)) (fun _ _ _ h => h) (Or.inl ⟨by rfl, ?_⟩) ?_ ?_
             rotate_left
             ·intro w'
              go_simp
              with_reducible rfl
             rotate_left
             ·simp only [Act.put, List.setIfInBounds_toArray, List.set_cons_zero, List.set_cons_succ, i64_w, i32_w]
              rfl
             refine pure_ (i := 4) (N := some 34) (v := ?_) (a' := ?_) #[true, true, true, false, true, false, false, false, false, false, false] rfl rfl (any_of HT_.out (by kernel_rfl)) (fun _ _ _ h => h) (Or.inl ⟨by rfl, ?_⟩) ?_ ?_
             rotate_left
             ·intro w'
              go_simp
              with_reducible rfl
             rotate_left
             ·simp only [Act.put, List.setIfInBounds_toArray, List.set_cons_zero, List.set_cons_succ, i64_w, i32_w]
              rfl
             refine pure_ (i := 5) (N := some 35) (v := ?_) (a' := ?_) #[true, true, true, false, true, true, false, false, false, false, false] rfl rfl (any_of HT_.out (by kernel_rfl)) (fun _ _ _ h => h) (Or.inl ⟨by rfl, ?_⟩) ?_ ?_
             rotate_left
             ·intro w'
              go_simp
              with_reducible rfl
             rotate_left
             ·simp only [Act.put, List.setIfInBounds_toArray, List.set_cons_zero, List.set_cons_succ, i64_w, i32_w]
              rfl
             refine pure_ (i := 6) (N := some 36) (v := ?_) (a' := ?_) #[true, true, true, false, true, true, true, false, false, false, false] rfl rfl (any_of HT_.out (by kernel_rfl)) (fun _ _ _ h => h) (Or.inl ⟨by rfl, ?_⟩) ?_ ?_
             rotate_left
             ·intro w'
              go_simp
              with_reducible rfl
             rotate_left
             ·simp only [Act.put, List.setIfInBounds_toArray, List.set_cons_zero, List.set_cons_succ, i64_w, i32_w]
              rfl
             refine pure_ (i := 7) (N := some 37) (v := ?_) (a' := ?_) #[true, true, true, false, true, true, true, true, false, false, false] rfl rfl (any_of HT_.out (by kernel_rfl)) (fun _ _ _ h => h) (Or.inl ⟨by rfl, ?_⟩) ?_ ?_
             rotate_left
             ·intro w'
              go_simp
              with_reducible rfl
             rotate_left
             ·simp only [Act.put, List.setIfInBounds_toArray, List.set_cons_zero, List.set_cons_succ, i64_w, i32_w]
              rfl
             refine take_ (i := 3) (N := some 33) (v := ?_) (a' := ?_) #[true, true, true, true, true, true, true, true, false, false, false] rfl rfl (take_ofW HT_.out HW_.out (by kernel_rfl)) (fun _ _ _ h => h) (Or.inl ⟨by rfl, ?_⟩) hHeld ?_ ?_
             rotate_left
             ·rintro w' ⟨s0, s1, s2, s3, s4, s5⟩
              go_simp
              with_reducible rfl
             rotate_left
             ·simp only [Act.put, List.setIfInBounds_toArray, List.set_cons_zero, List.set_cons_succ, i64_w, i32_w]
              rfl
             refine take_ (i := 8) (N := some 38) (v := ?_) (a' := ?_) #[true, true, true, true, true, true, true, true, true, false, false] rfl rfl (take_ofW HT_.out HW_.out (by kernel_rfl)) (fun _ _ _ h => h) (Or.inl ⟨by rfl, ?_⟩) hHeld ?_ ?_
             rotate_left
             ·rintro w' ⟨s0, s1, s2, s3, s4, s5⟩
              go_simp
              with_reducible rfl
             rotate_left
             ·simp only [Act.put, List.setIfInBounds_toArray, List.set_cons_zero, List.set_cons_succ, i64_w, i32_w]
              rfl
             refine one_ (i := 9) (N := some 39) #[true, true, true, true, true, true, true, true, true, true, false] rfl rfl (one_of HT_.out (by kernel_rfl)) (by decide) (fun K hK => ?_)
             first | refine goes_ Try.func42 (by kernel_rfl) rfl #[.float .f64 (rdOf (0 : Nat) t283 x25_1), .float .f64 ((rd_T77 l1 (rd l2 x25_1)).f4)] (by rfl) rfl rfl la_ ?_ | refine goesV_ Try.func42 (by kernel_rfl) rfl #[.float .f64 (rdOf (0 : Nat) t283 x25_1), .float .f64 ((rd_T77 l1 (rd l2 x25_1)).f4)] (by rfl) rfl rfl (by rfl) (by first | rfl | (simp only [List.map_toArray, List.map_cons, List.map_nil]; rfl)) ?_
             with_reducible refine (impl_SameNum.calls (rdOf (0 : Nat) t283 x25_1) ((rd_T77 l1 (rd l2 x25_1)).f4) true _ A13.out).mono ?_
             rintro e w' ⟨rfl, ⟨nd, rfl⟩⟩
             refine ⟨_, rfl, ?_⟩
             refine hK.out _ _ ⟨hHeld.1, ((HB.out.cell (World.block_lt_of_cell? w _ hw289_0)).trans hw289_0), ((HB.out.cell (World.block_lt_of_cell? w _ hw289_1)).trans hw289_1), ((HB.out.cell (World.block_lt_of_cell? w _ hw289_2)).trans hw289_2), ((HB.out.cell (World.block_lt_of_cell? w _ hw289_3)).trans hw289_3), ((HB.out.cell (World.block_lt_of_cell? w _ hw289_4)).trans hw289_4)⟩ (fun hHeld => ?_)
             clear hK K
             refine norm_ (a' := ?_) ?_ ?_
             rotate_left
             ·show Act.put _ (some 39) _ = _
              simp only [Act.put, List.setIfInBounds_toArray, List.set_cons_zero, List.set_cons_succ, i64_w, i32_w]
              rfl
             refine pure_ (i := 10) (N := some 40) (v := ?_) (a' := ?_) #[true, true, true, true, true, true, true, true, true, true, true] rfl rfl (any_of HT_.out (by kernel_rfl)) (fun _ _ _ h => h) (Or.inl ⟨by rfl, ?_⟩) ?_ ?_
             rotate_left
             ·intro w'
              go_simp
              with_reducible rfl
             rotate_left
             ·simp only [Act.put, List.setIfInBounds_toArray, List.set_cons_zero, List.set_cons_succ, i64_w, i32_w]
              rfl
             refine done_ (done_of HT_.out (by kernel_rfl)) ?_
             obtain ⟨i020, hi020, _, hsz20, _⟩ := info_parts info3
             obtain ⟨A20, hcut20, hA20, hC20⟩ := print_drop_of (P := Try.prog) (Value.int .i64) 0 23 3 .i64 Try.underlying23 hi020 hsz20 (some ad287) c2 l2 (ji15) (od_) (od_) HC2.out
             have HR291 := a_ (Kd.C_of_reads (h1 := fun _ => rfl) (hA20 _ (Kd.reads_of_C HR2.out)))
             have HC291 := a_ hC20; clear hA20 hC20 hi020 hsz20
             obtain ⟨D1_, hD_⟩ : ∃ D_ : List Int, D_ = (l2.drop ((ji15) : Int).toNat) := ⟨_, rfl⟩
             (try simp only [← hD_] at hcut20)
             (try simp only [← hD_] at HR291)
             (try simp only [← hD_] at HC291)
             (try simp only [← hD_] at H')
             clear hD_
             try go_wp2
             go_loopg [46] k1 (fun kq v46 w' => ∃ (x46_2 : Int), v46 = .int .i64 x46_2 ∧ Aside0 (impl_FitsOrder.l1 kq l1 l2 t283 (rd l2 x25_1) l2 (l2.length : Int) x25_1 D1_ (D1_.length : Int) x46_2 = some (r1, r2)) ∧ Aside0 (kq ≤ k1) ∧ Aside0 (Kd.R Kd.float 55 w' w.heap.size (fun _ => True) (.slice (some ad288) t283.length co19) t283) ∧ Aside0 (Below w.heap.size w w'))
             case atStart => exact ⟨(0), (by first | rfl | (simp; done) | (simp [*]; done)), H', ⟨Nat.le_refl _⟩, ⟨by exact r_ HO_8.out⟩, ⟨b_⟩⟩
             case round =>
              clear H'
              (try clear c1); (try clear c2); (try clear p2); (try clear q2); (try clear hx2); (try clear c4); (try clear c5); (try clear p6); (try clear c7); (try clear c7b0); (try clear c8); (try clear c8b0); (try clear c9); (try clear c9b0); (try clear c10); (try clear c10b0); (try clear c11); (try clear c11b0); (try clear c12); (try clear c12b0); (try clear c13); (try clear c14); (try clear c16); (try clear c16b0); (try clear c16b1); (try clear c17); (try clear c17b0); (try clear c17b1); (try clear hx287_0); (try clear hx288_0); (try clear hx289_0); (try clear hx289_1); (try clear hx289_2); (try clear hx289_3); (try clear hx289_4); (try clear p2); (try clear p287); (try clear p288); (try clear p289); (try clear q287); (try clear q288); (try clear q289)
              obtain ⟨x46_2, rfl, HA, HK2, HO_8, HB⟩ := hrel
              cases gk with
              | zero => exact absurd HA.out (by simp [impl_FitsOrder.l1])
              | succ k2 =>
               have H := HA.out; clear HA
               simp only [impl_FitsOrder.l1] at H
               by_cases c21 : x46_2 < (D1_.length : Int)
               ·rw [if_pos c21] at H
                have c21b0 : decide (x46_2 < (D1_.length : Int)) = true := decide_eq_true c21
                clear c21
                by_cases c22 : 0 ≤ x46_2
                ·rw [if_pos c22] at H
                 have c22b0 : decide (0 ≤ x46_2) = true := decide_eq_true c22
                 clear c22
                 by_cases c23 : x46_2 < (D1_.length : Int)
                 ·rw [if_pos c23] at H
                  have c23b0 : decide (x46_2 < (D1_.length : Int)) = true := decide_eq_true c23
                  clear c23
                  by_cases c24 : 0 ≤ (rd D1_ x46_2)
                  ·rw [if_pos c24] at H
                   have c24b0 : decide (0 ≤ (rd D1_ x46_2)) = true := decide_eq_true c24
                   clear c24
                   by_cases c25 : (rd D1_ x46_2) < (l1.length : Int)
                   ·rw [if_pos c25] at H
                    have c25b0 : decide ((rd D1_ x46_2) < (l1.length : Int)) = true := decide_eq_true c25
                    clear c25
                    by_cases c26 : 0 ≤ (rd l2 x25_1)
                    ·rw [if_pos c26] at H
                     have c26b0 : decide (0 ≤ (rd l2 x25_1)) = true := decide_eq_true c26
                     clear c26
                     by_cases c27 : (rd l2 x25_1) < (l1.length : Int)
                     ·rw [if_pos c27] at H
                      have c27b0 : decide ((rd l2 x25_1) < (l1.length : Int)) = true := decide_eq_true c27
                      clear c27
                      replace H := Option.bind_eq_some_iff.mp H
                      obtain ⟨t295, A280, H⟩ := H
                      replace H : (if t295 = true then (some (false, true)) else (impl_FitsOrder.l1 k2 l1 l2 t283 (rd l2 x25_1) l2 (l2.length : Int) x25_1 D1_ (D1_.length : Int) (wrap64 (x46_2 + 1)))) = some (r1, r2) := H
                      have A28 := a_ A280; clear A280
                      by_cases c29 : t295 = true
                      ·subst c29
                       have H1 : (some (false, true)) = some (r1, r2) := by rw [if_pos rfl] at H; exact H
                       clear H; have H := H1; clear H1
                       simp only [Option.some.injEq, Prod.mk.injEq] at H
                       obtain ⟨rfl, rfl⟩ := H
                       have p292 : 0 ≤ (x46_2 : Int) := od_
                       have q292 : x46_2 < (D1_.length : Int) := od_
                       obtain ⟨ad292, e292, hx292_0⟩ := Kd.at_int HR291.out x46_2 p292 q292
                       cases e292
                       try replace hx292_0 := (HB.out.cell (World.block_lt_of_cell? w _ hx292_0)).trans hx292_0
                       replace p292 := eq_true p292; replace q292 := eq_true q292
                       try go_wp2
                       have n0_ := a_ (Kd.R_drew HO_8.out)
                       have n1_ := a_ (below_drew1 HB.out)
                       clear HO_8; clear HB; have HO_8 := n0_; have HB := n1_; clear n0_ n1_
                       have p293 : 0 ≤ ((rd D1_ x46_2) : Int) := od_
                       have q293 : (rd D1_ x46_2) < (l1.length : Int) := od_
                       obtain ⟨ad293, e293, hx293_0, hx293_1, hx293_2, hx293_3, hx293_4⟩ := at_T77 HR1.out (rd D1_ x46_2) p293 q293
                       have hw293_4 := hx293_4; have hw293_3 := hx293_3; have hw293_2 := hx293_2; have hw293_1 := hx293_1; have hw293_0 := hx293_0
                       obtain rfl : ad289 = ad293 := (by injection e293)
                       try replace hx293_0 := (HB.out.cell (World.block_lt_of_cell? w _ hx293_0)).trans hx293_0
                       try replace hx293_1 := (HB.out.cell (World.block_lt_of_cell? w _ hx293_1)).trans hx293_1
                       try replace hx293_2 := (HB.out.cell (World.block_lt_of_cell? w _ hx293_2)).trans hx293_2
                       try replace hx293_3 := (HB.out.cell (World.block_lt_of_cell? w _ hx293_3)).trans hx293_3
                       try replace hx293_4 := (HB.out.cell (World.block_lt_of_cell? w _ hx293_4)).trans hx293_4
                       replace p293 := eq_true p293; replace q293 := eq_true q293
                       have p294 : 0 ≤ ((rd l2 x25_1) : Int) := od_
                       have q294 : (rd l2 x25_1) < (l1.length : Int) := od_
                       obtain ⟨ad294, e294, hx294_0, hx294_1, hx294_2, hx294_3, hx294_4⟩ := at_T77 HR1.out (rd l2 x25_1) p294 q294
                       have hw294_4 := hx294_4; have hw294_3 := hx294_3; have hw294_2 := hx294_2; have hw294_1 := hx294_1; have hw294_0 := hx294_0
                       obtain rfl : ad289 = ad294 := (by injection e294)
                       try replace hx294_0 := (HB.out.cell (World.block_lt_of_cell? w _ hx294_0)).trans hx294_0
                       try replace hx294_1 := (HB.out.cell (World.block_lt_of_cell? w _ hx294_1)).trans hx294_1
                       try replace hx294_2 := (HB.out.cell (World.block_lt_of_cell? w _ hx294_2)).trans hx294_2
                       try replace hx294_3 := (HB.out.cell (World.block_lt_of_cell? w _ hx294_3)).trans hx294_3
                       try replace hx294_4 := (HB.out.cell (World.block_lt_of_cell? w _ hx294_4)).trans hx294_4
                       replace p294 := eq_true p294; replace q294 := eq_true q294
                       refine start_ (n := 9) (S := fun w' => w'.cell? (ad289.add (((rd D1_ x46_2)).toNat * 5)) = some (.int .i64 ((rd_T77 l1 (rd D1_ x46_2)).f0)) ∧ w'.cell? ⟨(ad289.add (((rd D1_ x46_2)).toNat * 5)).block, (ad289.add (((rd D1_ x46_2)).toNat * 5)).off + 1, none⟩ = some (.int .i64 ((rd_T77 l1 (rd D1_ x46_2)).f1)) ∧ w'.cell? ⟨(ad289.add (((rd D1_ x46_2)).toNat * 5)).block, (ad289.add (((rd D1_ x46_2)).toNat * 5)).off + 2, none⟩ = some (.int .i64 ((rd_T77 l1 (rd D1_ x46_2)).f2)) ∧ w'.cell? ⟨(ad289.add (((rd D1_ x46_2)).toNat * 5)).block, (ad289.add (((rd D1_ x46_2)).toNat * 5)).off + 3, none⟩ = some (.bool ((rd_T77 l1 (rd D1_ x46_2)).f3)) ∧ w'.cell? ⟨(ad289.add (((rd D1_ x46_2)).toNat * 5)).block, (ad289.add (((rd D1_ x46_2)).toNat * 5)).off + 4, none⟩ = some (.float .f64 ((rd_T77 l1 (rd D1_ x46_2)).f4)) ∧ w'.cell? (ad289.add (((rd l2 x25_1)).toNat * 5)) = some (.int .i64 ((rd_T77 l1 (rd l2 x25_1)).f0)) ∧ w'.cell? ⟨(ad289.add (((rd l2 x25_1)).toNat * 5)).block, (ad289.add (((rd l2 x25_1)).toNat * 5)).off + 1, none⟩ = some (.int .i64 ((rd_T77 l1 (rd l2 x25_1)).f1)) ∧ w'.cell? ⟨(ad289.add (((rd l2 x25_1)).toNat * 5)).block, (ad289.add (((rd l2 x25_1)).toNat * 5)).off + 2, none⟩ = some (.int .i64 ((rd_T77 l1 (rd l2 x25_1)).f2)) ∧ w'.cell? ⟨(ad289.add (((rd l2 x25_1)).toNat * 5)).block, (ad289.add (((rd l2 x25_1)).toNat * 5)).off + 3, none⟩ = some (.bool ((rd_T77 l1 (rd l2 x25_1)).f3)) ∧ w'.cell? ⟨(ad289.add (((rd l2 x25_1)).toNat * 5)).block, (ad289.add (((rd l2 x25_1)).toNat * 5)).off + 4, none⟩ = some (.float .f64 ((rd_T77 l1 (rd l2 x25_1)).f4))) (ds := []) #[false, false, false, false, false, false, false, false, false] (by kernel_rfl) rfl rfl ⟨((HB.out.cell (World.block_lt_of_cell? w _ hw293_0)).trans hw293_0), ((HB.out.cell (World.block_lt_of_cell? w _ hw293_1)).trans hw293_1), ((HB.out.cell (World.block_lt_of_cell? w _ hw293_2)).trans hw293_2), ((HB.out.cell (World.block_lt_of_cell? w _ hw293_3)).trans hw293_3), ((HB.out.cell (World.block_lt_of_cell? w _ hw293_4)).trans hw293_4), ((HB.out.cell (World.block_lt_of_cell? w _ hw294_0)).trans hw294_0), ((HB.out.cell (World.block_lt_of_cell? w _ hw294_1)).trans hw294_1), ((HB.out.cell (World.block_lt_of_cell? w _ hw294_2)).trans hw294_2), ((HB.out.cell (World.block_lt_of_cell? w _ hw294_3)).trans hw294_3), ((HB.out.cell (World.block_lt_of_cell? w _ hw294_4)).trans hw294_4)⟩ (fun hHeld => ?_); refine with_tabW impl_FitsOrder.tab12 impl_FitsOrder.bits12 (fun HT_ HW_ => ?_)
                       generalize wr.drew = w30 at HO_8 HB hx293_0 hx293_1 hx293_2 hx293_3 hx293_4 hx294_0 hx294_1 hx294_2 hx294_3 hx294_4 hHeld ⊢
                       refine pure_ (i := 0) (N := some 50) (v := ?_) (a' := ?_) #[true, false, false, false, false, false, false, false, false] rfl rfl (any_of HT_.out (by kernel_rfl)) (fun _ _ _ h => h) (Or.inl ⟨by rfl, ?_⟩) ?_ ?_
                       rotate_left
                       ·intro w'
                        go_simp
                        with_reducible rfl
                       rotate_left
                       ·simp only [Act.put, List.setIfInBounds_toArray, List.set_cons_zero, List.set_cons_succ, i64_w, i32_w]
                        rfl
                       refine pure_ (i := 1) (N := some 51) (v := ?_) (a' := ?_) #[true, true, false, false, false, false, false, false, false] rfl rfl (any_of HT_.out (by kernel_rfl)) (fun _ _ _ h => h) (Or.inl ⟨by rfl, ?_⟩) ?_ ?_
                       rotate_left
                       ·intro w'
                        go_simp
                        with_reducible rfl
                       rotate_left
                       ·simp only [Act.put, List.setIfInBounds_toArray, List.set_cons_zero, List.set_cons_succ, i64_w, i32_w]
                        rfl
                       refine pure_ (i := 2) (N := some 52) (v := ?_) (a' := ?_) #[true, true, true, false, false, false, false, false, false] rfl rfl (any_of HT_.out (by kernel_rfl)) (fun _ _ _ h => h) (Or.inl ⟨by rfl, ?_⟩) ?_ ?_
                       rotate_left
                       ·intro w'
                        go_simp
                        with_reducible rfl
                       rotate_left
                       ·simp only [Act.put, List.setIfInBounds_toArray, List.set_cons_zero, List.set_cons_succ, i64_w, i32_w]
                        rfl
                       refine pure_ (i := 4) (N := some 54) (v := ?_) (a' := ?_) #[true, true, true, false, true, false, false, false, false] rfl rfl (any_of HT_.out (by kernel_rfl)) (fun _ _ _ h => h) (Or.inl ⟨by rfl, ?_⟩) ?_ ?_
                       rotate_left
                       ·intro w'
                        go_simp
                        with_reducible rfl
                       rotate_left
                       ·simp only [Act.put, List.setIfInBounds_toArray, List.set_cons_zero, List.set_cons_succ, i64_w, i32_w]
                        rfl
                       refine pure_ (i := 5) (N := some 55) (v := ?_) (a' := ?_) #[true, true, true, false, true, true, false, false, false] rfl rfl (any_of HT_.out (by kernel_rfl)) (fun _ _ _ h => h) (Or.inl ⟨by rfl, ?_⟩) ?_ ?_
                       rotate_left
                       ·intro w'
                        go_simp
                        with_reducible rfl
                       rotate_left
                       ·simp only [Act.put, List.setIfInBounds_toArray, List.set_cons_zero, List.set_cons_succ, i64_w, i32_w]
                        rfl
                       refine pure_ (i := 6) (N := some 56) (v := ?_) (a' := ?_) #[true, true, true, false, true, true, true, false, false] rfl rfl (any_of HT_.out (by kernel_rfl)) (fun _ _ _ h => h) (Or.inl ⟨by rfl, ?_⟩) ?_ ?_
                       rotate_left
                       ·intro w'
                        go_simp
                        with_reducible rfl
                       rotate_left
                       ·simp only [Act.put, List.setIfInBounds_toArray, List.set_cons_zero, List.set_cons_succ, i64_w, i32_w]
                        rfl
                       refine take_ (i := 3) (N := some 53) (v := ?_) (a' := ?_) #[true, true, true, true, true, true, true, false, false] rfl rfl (take_ofW HT_.out HW_.out (by kernel_rfl)) (fun _ _ _ h => h) (Or.inl ⟨by rfl, ?_⟩) hHeld ?_ ?_
                       rotate_left
                       ·rintro w' ⟨s0, s1, s2, s3, s4, s5, s6, s7, s8, s9⟩
                        go_simp
                        with_reducible rfl
                       rotate_left
                       ·simp only [Act.put, List.setIfInBounds_toArray, List.set_cons_zero, List.set_cons_succ, i64_w, i32_w]
                        rfl
                       refine take_ (i := 7) (N := some 57) (v := ?_) (a' := ?_) #[true, true, true, true, true, true, true, true, false] rfl rfl (take_ofW HT_.out HW_.out (by kernel_rfl)) (fun _ _ _ h => h) (Or.inl ⟨by rfl, ?_⟩) hHeld ?_ ?_
                       rotate_left
                       ·rintro w' ⟨s0, s1, s2, s3, s4, s5, s6, s7, s8, s9⟩
                        go_simp
                        with_reducible rfl
                       rotate_left
                       ·simp only [Act.put, List.setIfInBounds_toArray, List.set_cons_zero, List.set_cons_succ, i64_w, i32_w]
                        rfl
                       refine one_ (i := 8) (N := some 58) #[true, true, true, true, true, true, true, true, true] rfl rfl (one_of HT_.out (by kernel_rfl)) (by decide) (fun K hK => ?_)
                       first | refine goes_ Try.func69 (by kernel_rfl) rfl #[.agg #[.int .i64 ((rd_T77 l1 (rd D1_ x46_2)).f0), .int .i64 ((rd_T77 l1 (rd D1_ x46_2)).f1), .int .i64 ((rd_T77 l1 (rd D1_ x46_2)).f2), .bool ((rd_T77 l1 (rd D1_ x46_2)).f3), .float .f64 ((rd_T77 l1 (rd D1_ x46_2)).f4)], .agg #[.int .i64 ((rd_T77 l1 (rd l2 x25_1)).f0), .int .i64 ((rd_T77 l1 (rd l2 x25_1)).f1), .int .i64 ((rd_T77 l1 (rd l2 x25_1)).f2), .bool ((rd_T77 l1 (rd l2 x25_1)).f3), .float .f64 ((rd_T77 l1 (rd l2 x25_1)).f4)]] (by rfl) rfl rfl (by (try simp only [List.map_toArray, List.map_cons, List.map_nil]); first | done | (simp only [hji15]; rfl) | rfl | (simp only [List.length_drop, List.length_take]; rfl)) ?_ | refine goesV_ Try.func69 (by kernel_rfl) rfl #[.agg #[.int .i64 ((rd_T77 l1 (rd D1_ x46_2)).f0), .int .i64 ((rd_T77 l1 (rd D1_ x46_2)).f1), .int .i64 ((rd_T77 l1 (rd D1_ x46_2)).f2), .bool ((rd_T77 l1 (rd D1_ x46_2)).f3), .float .f64 ((rd_T77 l1 (rd D1_ x46_2)).f4)], .agg #[.int .i64 ((rd_T77 l1 (rd l2 x25_1)).f0), .int .i64 ((rd_T77 l1 (rd l2 x25_1)).f1), .int .i64 ((rd_T77 l1 (rd l2 x25_1)).f2), .bool ((rd_T77 l1 (rd l2 x25_1)).f3), .float .f64 ((rd_T77 l1 (rd l2 x25_1)).f4)]] (by rfl) rfl rfl (by rfl) (by first | rfl | (simp only [List.map_toArray, List.map_cons, List.map_nil]; rfl)) ?_
                       with_reducible refine (impl_Call_ahead.calls ((rd_T77 l1 (rd D1_ x46_2)).f0) ((rd_T77 l1 (rd D1_ x46_2)).f1) ((rd_T77 l1 (rd D1_ x46_2)).f2) ((rd_T77 l1 (rd D1_ x46_2)).f3) ((rd_T77 l1 (rd D1_ x46_2)).f4) ((rd_T77 l1 (rd l2 x25_1)).f0) ((rd_T77 l1 (rd l2 x25_1)).f1) ((rd_T77 l1 (rd l2 x25_1)).f2) ((rd_T77 l1 (rd l2 x25_1)).f3) ((rd_T77 l1 (rd l2 x25_1)).f4) true _ A28.out).mono ?_
                       rintro e w31 ⟨rfl, hb⟩
                       refine ⟨_, rfl, ?_⟩
                       have n0_ := a_ (Kd.R_below (r_ HO_8.out) hb)
                       have n1_ := a_ (below_step b_ hb)
                       clear HO_8; clear HB; have HO_8 := n0_; have HB := n1_; clear n0_ n1_; (try clear hb); (try clear hb2); (try clear hk); (try clear hi)
                       refine hK.out _ _ ⟨((HB.out.cell (World.block_lt_of_cell? w _ hw293_0)).trans hw293_0), ((HB.out.cell (World.block_lt_of_cell? w _ hw293_1)).trans hw293_1), ((HB.out.cell (World.block_lt_of_cell? w _ hw293_2)).trans hw293_2), ((HB.out.cell (World.block_lt_of_cell? w _ hw293_3)).trans hw293_3), ((HB.out.cell (World.block_lt_of_cell? w _ hw293_4)).trans hw293_4), ((HB.out.cell (World.block_lt_of_cell? w _ hw294_0)).trans hw294_0), ((HB.out.cell (World.block_lt_of_cell? w _ hw294_1)).trans hw294_1), ((HB.out.cell (World.block_lt_of_cell? w _ hw294_2)).trans hw294_2), ((HB.out.cell (World.block_lt_of_cell? w _ hw294_3)).trans hw294_3), ((HB.out.cell (World.block_lt_of_cell? w _ hw294_4)).trans hw294_4)⟩ (fun hHeld => ?_)
                       clear hK K
                       refine norm_ (a' := ?_) ?_ ?_
                       rotate_left
                       ·show Act.put _ (some 58) _ = _
                        simp only [Act.put, List.setIfInBounds_toArray, List.set_cons_zero, List.set_cons_succ, i64_w, i32_w]
                        rfl
                       refine done_ (done_of HT_.out (by kernel_rfl)) ?_
                       try go_wp2
                       go_ret2
                       exact ⟨by first | rfl | (simp [errW_none, errW_some] <;> rfl) | (simp only [← hji15]; first | rfl | (simp [errW_none, errW_some] <;> rfl)) | (simp [*, errW_none, errW_some] <;> rfl), b_⟩
                      ·replace c29 := Bool.eq_false_iff.mpr c29
                       subst c29
                       have H1 : (impl_FitsOrder.l1 k2 l1 l2 t283 (rd l2 x25_1) l2 (l2.length : Int) x25_1 D1_ (D1_.length : Int) (wrap64 (x46_2 + 1))) = some (r1, r2) := by rw [if_neg (show ¬ (false = true) by decide)] at H; exact H
                       clear H; have H := H1; clear H1
                       have H' := a_ H
                       clear H
                       have p292 : 0 ≤ (x46_2 : Int) := od_
                       have q292 : x46_2 < (D1_.length : Int) := od_
                       obtain ⟨ad292, e292, hx292_0⟩ := Kd.at_int HR291.out x46_2 p292 q292
                       cases e292
                       try replace hx292_0 := (HB.out.cell (World.block_lt_of_cell? w _ hx292_0)).trans hx292_0
                       replace p292 := eq_true p292; replace q292 := eq_true q292
                       try go_wp2
                       have n0_ := a_ (Kd.R_drew HO_8.out)
                       have n1_ := a_ (below_drew1 HB.out)
                       clear HO_8; clear HB; have HO_8 := n0_; have HB := n1_; clear n0_ n1_
                       have p293 : 0 ≤ ((rd D1_ x46_2) : Int) := od_
                       have q293 : (rd D1_ x46_2) < (l1.length : Int) := od_
                       obtain ⟨ad293, e293, hx293_0, hx293_1, hx293_2, hx293_3, hx293_4⟩ := at_T77 HR1.out (rd D1_ x46_2) p293 q293
                       have hw293_4 := hx293_4; have hw293_3 := hx293_3; have hw293_2 := hx293_2; have hw293_1 := hx293_1; have hw293_0 := hx293_0
                       obtain rfl : ad289 = ad293 := (by injection e293)
                       try replace hx293_0 := (HB.out.cell (World.block_lt_of_cell? w _ hx293_0)).trans hx293_0
                       try replace hx293_1 := (HB.out.cell (World.block_lt_of_cell? w _ hx293_1)).trans hx293_1
                       try replace hx293_2 := (HB.out.cell (World.block_lt_of_cell? w _ hx293_2)).trans hx293_2
                       try replace hx293_3 := (HB.out.cell (World.block_lt_of_cell? w _ hx293_3)).trans hx293_3
                       try replace hx293_4 := (HB.out.cell (World.block_lt_of_cell? w _ hx293_4)).trans hx293_4
                       replace p293 := eq_true p293; replace q293 := eq_true q293
                       have p294 : 0 ≤ ((rd l2 x25_1) : Int) := od_
                       have q294 : (rd l2 x25_1) < (l1.length : Int) := od_
                       obtain ⟨ad294, e294, hx294_0, hx294_1, hx294_2, hx294_3, hx294_4⟩ := at_T77 HR1.out (rd l2 x25_1) p294 q294
                       have hw294_4 := hx294_4; have hw294_3 := hx294_3; have hw294_2 := hx294_2; have hw294_1 := hx294_1; have hw294_0 := hx294_0
                       obtain rfl : ad289 = ad294 := (by injection e294)
                       try replace hx294_0 := (HB.out.cell (World.block_lt_of_cell? w _ hx294_0)).trans hx294_0
                       try replace hx294_1 := (HB.out.cell (World.block_lt_of_cell? w _ hx294_1)).trans hx294_1
                       try replace hx294_2 := (HB.out.cell (World.block_lt_of_cell? w _ hx294_2)).trans hx294_2
                       try replace hx294_3 := (HB.out.cell (World.block_lt_of_cell? w _ hx294_3)).trans hx294_3
                       try replace hx294_4 := (HB.out.cell (World.block_lt_of_cell? w _ hx294_4)).trans hx294_4
                       replace p294 := eq_true p294; replace q294 := eq_true q294
                       refine start_ (n := 9) (S := fun w' => w'.cell? (ad289.add (((rd D1_ x46_2)).toNat * 5)) = some (.int .i64 ((rd_T77 l1 (rd D1_ x46_2)).f0)) ∧ w'.cell? ⟨(ad289.add (((rd D1_ x46_2)).toNat * 5)).block, (ad289.add (((rd D1_ x46_2)).toNat * 5)).off + 1, none⟩ = some (.int .i64 ((rd_T77 l1 (rd D1_ x46_2)).f1)) ∧ w'.cell? ⟨(ad289.add (((rd D1_ x46_2)).toNat * 5)).block, (ad289.add (((rd D1_ x46_2)).toNat * 5)).off + 2, none⟩ = some (.int .i64 ((rd_T77 l1 (rd D1_ x46_2)).f2)) ∧ w'.cell? ⟨(ad289.add (((rd D1_ x46_2)).toNat * 5)).block, (ad289.add (((rd D1_ x46_2)).toNat * 5)).off + 3, none⟩ = some (.bool ((rd_T77 l1 (rd D1_ x46_2)).f3)) ∧ w'.cell? ⟨(ad289.add (((rd D1_ x46_2)).toNat * 5)).block, (ad289.add (((rd D1_ x46_2)).toNat * 5)).off + 4, none⟩ = some (.float .f64 ((rd_T77 l1 (rd D1_ x46_2)).f4)) ∧ w'.cell? (ad289.add (((rd l2 x25_1)).toNat * 5)) = some (.int .i64 ((rd_T77 l1 (rd l2 x25_1)).f0)) ∧ w'.cell? ⟨(ad289.add (((rd l2 x25_1)).toNat * 5)).block, (ad289.add (((rd l2 x25_1)).toNat * 5)).off + 1, none⟩ = some (.int .i64 ((rd_T77 l1 (rd l2 x25_1)).f1)) ∧ w'.cell? ⟨(ad289.add (((rd l2 x25_1)).toNat * 5)).block, (ad289.add (((rd l2 x25_1)).toNat * 5)).off + 2, none⟩ = some (.int .i64 ((rd_T77 l1 (rd l2 x25_1)).f2)) ∧ w'.cell? ⟨(ad289.add (((rd l2 x25_1)).toNat * 5)).block, (ad289.add (((rd l2 x25_1)).toNat * 5)).off + 3, none⟩ = some (.bool ((rd_T77 l1 (rd l2 x25_1)).f3)) ∧ w'.cell? ⟨(ad289.add (((rd l2 x25_1)).toNat * 5)).block, (ad289.add (((rd l2 x25_1)).toNat * 5)).off + 4, none⟩ = some (.float .f64 ((rd_T77 l1 (rd l2 x25_1)).f4))) (ds := []) #[false, false, false, false, false, false, false, false, false] (by kernel_rfl) rfl rfl ⟨((HB.out.cell (World.block_lt_of_cell? w _ hw293_0)).trans hw293_0), ((HB.out.cell (World.block_lt_of_cell? w _ hw293_1)).trans hw293_1), ((HB.out.cell (World.block_lt_of_cell? w _ hw293_2)).trans hw293_2), ((HB.out.cell (World.block_lt_of_cell? w _ hw293_3)).trans hw293_3), ((HB.out.cell (World.block_lt_of_cell? w _ hw293_4)).trans hw293_4), ((HB.out.cell (World.block_lt_of_cell? w _ hw294_0)).trans hw294_0), ((HB.out.cell (World.block_lt_of_cell? w _ hw294_1)).trans hw294_1), ((HB.out.cell (World.block_lt_of_cell? w _ hw294_2)).trans hw294_2), ((HB.out.cell (World.block_lt_of_cell? w _ hw294_3)).trans hw294_3), ((HB.out.cell (World.block_lt_of_cell? w _ hw294_4)).trans hw294_4)⟩ (fun hHeld => ?_); refine with_tabW impl_FitsOrder.tab12 impl_FitsOrder.bits12 (fun HT_ HW_ => ?_)
                       generalize wr.drew = w32 at HO_8 HB hx293_0 hx293_1 hx293_2 hx293_3 hx293_4 hx294_0 hx294_1 hx294_2 hx294_3 hx294_4 hHeld ⊢
                       refine pure_ (i := 0) (N := some 50) (v := ?_) (a' := ?_) #[true, false, false, false, false, false, false, false, false] rfl rfl (any_of HT_.out (by kernel_rfl)) (fun _ _ _ h => h) (Or.inl ⟨by rfl, ?_⟩) ?_ ?_
                       rotate_left
                       ·intro w'
                        go_simp
                        with_reducible rfl
                       rotate_left
                       ·simp only [Act.put, List.setIfInBounds_toArray, List.set_cons_zero, List.set_cons_succ, i64_w, i32_w]
                        rfl
                       refine pure_ (i := 1) (N := some 51) (v := ?_) (a' := ?_) #[true, true, false, false, false, false, false, false, false] rfl rfl (any_of HT_.out (by kernel_rfl)) (fun _ _ _ h => h) (Or.inl ⟨by rfl, ?_⟩) ?_ ?_
                       rotate_left
                       ·intro w'
                        go_simp
                        with_reducible rfl
                       rotate_left
                       ·simp only [Act.put, List.setIfInBounds_toArray, List.set_cons_zero, List.set_cons_succ, i64_w, i32_w]
                        rfl
                       refine pure_ (i := 2) (N := some 52) (v := ?_) (a' := ?_) #[true, true, true, false, false, false, false, false, false] rfl rfl (any_of HT_.out (by kernel_rfl)) (fun _ _ _ h => h) (Or.inl ⟨by rfl, ?_⟩) ?_ ?_
                       rotate_left
                       ·intro w'
                        go_simp
                        with_reducible rfl
                       rotate_left
                       ·simp only [Act.put, List.setIfInBounds_toArray, List.set_cons_zero, List.set_cons_succ, i64_w, i32_w]
                        rfl
                       refine pure_ (i := 4) (N := some 54) (v := ?_) (a' := ?_) #[true, true, true, false, true, false, false, false, false] rfl rfl (any_of HT_.out (by kernel_rfl)) (fun _ _ _ h => h) (Or.inl ⟨by rfl, ?_⟩) ?_ ?_
                       rotate_left
                       ·intro w'
                        go_simp
                        with_reducible rfl
                       rotate_left
                       ·simp only [Act.put, List.setIfInBounds_toArray, List.set_cons_zero, List.set_cons_succ, i64_w, i32_w]
                        rfl
                       refine pure_ (i := 5) (N := some 55) (v := ?_) (a' := ?_) #[true, true, true, false, true, true, false, false, false] rfl rfl (any_of HT_.out (by kernel_rfl)) (fun _ _ _ h => h) (Or.inl ⟨by rfl, ?_⟩) ?_ ?_
                       rotate_left
                       ·intro w'
                        go_simp
                        with_reducible rfl
                       rotate_left
                       ·simp only [Act.put, List.setIfInBounds_toArray, List.set_cons_zero, List.set_cons_succ, i64_w, i32_w]
                        rfl
                       refine pure_ (i := 6) (N := some 56) (v := ?_) (a' := ?_) #[true, true, true, false, true, true, true, false, false] rfl rfl (any_of HT_.out (by kernel_rfl)) (fun _ _ _ h => h) (Or.inl ⟨by rfl, ?_⟩) ?_ ?_
                       rotate_left
                       ·intro w'
                        go_simp
                        with_reducible rfl
                       rotate_left
                       ·simp only [Act.put, List.setIfInBounds_toArray, List.set_cons_zero, List.set_cons_succ, i64_w, i32_w]
                        rfl
                       refine take_ (i := 3) (N := some 53) (v := ?_) (a' := ?_) #[true, true, true, true, true, true, true, false, false] rfl rfl (take_ofW HT_.out HW_.out (by kernel_rfl)) (fun _ _ _ h => h) (Or.inl ⟨by rfl, ?_⟩) hHeld ?_ ?_
                       rotate_left
                       ·rintro w' ⟨s0, s1, s2, s3, s4, s5, s6, s7, s8, s9⟩
                        go_simp
                        with_reducible rfl
                       rotate_left
                       ·simp only [Act.put, List.setIfInBounds_toArray, List.set_cons_zero, List.set_cons_succ, i64_w, i32_w]
                        rfl
                       refine take_ (i := 7) (N := some 57) (v := ?_) (a' := ?_) #[true, true, true, true, true, true, true, true, false] rfl rfl (take_ofW HT_.out HW_.out (by kernel_rfl)) (fun _ _ _ h => h) (Or.inl ⟨by rfl, ?_⟩) hHeld ?_ ?_
                       rotate_left
                       ·rintro w' ⟨s0, s1, s2, s3, s4, s5, s6, s7, s8, s9⟩
                        go_simp
                        with_reducible rfl
                       rotate_left
                       ·simp only [Act.put, List.setIfInBounds_toArray, List.set_cons_zero, List.set_cons_succ, i64_w, i32_w]
                        rfl
                       refine one_ (i := 8) (N := some 58) #[true, true, true, true, true, true, true, true, true] rfl rfl (one_of HT_.out (by kernel_rfl)) (by decide) (fun K hK => ?_)
                       first | refine goes_ Try.func69 (by kernel_rfl) rfl #[.agg #[.int .i64 ((rd_T77 l1 (rd D1_ x46_2)).f0), .int .i64 ((rd_T77 l1 (rd D1_ x46_2)).f1), .int .i64 ((rd_T77 l1 (rd D1_ x46_2)).f2), .bool ((rd_T77 l1 (rd D1_ x46_2)).f3), .float .f64 ((rd_T77 l1 (rd D1_ x46_2)).f4)], .agg #[.int .i64 ((rd_T77 l1 (rd l2 x25_1)).f0), .int .i64 ((rd_T77 l1 (rd l2 x25_1)).f1), .int .i64 ((rd_T77 l1 (rd l2 x25_1)).f2), .bool ((rd_T77 l1 (rd l2 x25_1)).f3), .float .f64 ((rd_T77 l1 (rd l2 x25_1)).f4)]] (by rfl) rfl rfl (by (try simp only [List.map_toArray, List.map_cons, List.map_nil]); first | done | (simp only [hji15]; rfl) | rfl | (simp only [List.length_drop, List.length_take]; rfl)) ?_ | refine goesV_ Try.func69 (by kernel_rfl) rfl #[.agg #[.int .i64 ((rd_T77 l1 (rd D1_ x46_2)).f0), .int .i64 ((rd_T77 l1 (rd D1_ x46_2)).f1), .int .i64 ((rd_T77 l1 (rd D1_ x46_2)).f2), .bool ((rd_T77 l1 (rd D1_ x46_2)).f3), .float .f64 ((rd_T77 l1 (rd D1_ x46_2)).f4)], .agg #[.int .i64 ((rd_T77 l1 (rd l2 x25_1)).f0), .int .i64 ((rd_T77 l1 (rd l2 x25_1)).f1), .int .i64 ((rd_T77 l1 (rd l2 x25_1)).f2), .bool ((rd_T77 l1 (rd l2 x25_1)).f3), .float .f64 ((rd_T77 l1 (rd l2 x25_1)).f4)]] (by rfl) rfl rfl (by rfl) (by first | rfl | (simp only [List.map_toArray, List.map_cons, List.map_nil]; rfl)) ?_
                       with_reducible refine (impl_Call_ahead.calls ((rd_T77 l1 (rd D1_ x46_2)).f0) ((rd_T77 l1 (rd D1_ x46_2)).f1) ((rd_T77 l1 (rd D1_ x46_2)).f2) ((rd_T77 l1 (rd D1_ x46_2)).f3) ((rd_T77 l1 (rd D1_ x46_2)).f4) ((rd_T77 l1 (rd l2 x25_1)).f0) ((rd_T77 l1 (rd l2 x25_1)).f1) ((rd_T77 l1 (rd l2 x25_1)).f2) ((rd_T77 l1 (rd l2 x25_1)).f3) ((rd_T77 l1 (rd l2 x25_1)).f4) false _ A28.out).mono ?_
                       rintro e w33 ⟨rfl, hb⟩
                       refine ⟨_, rfl, ?_⟩
                       have n0_ := a_ (Kd.R_below (r_ HO_8.out) hb)
                       have n1_ := a_ (below_step b_ hb)
                       clear HO_8; clear HB; have HO_8 := n0_; have HB := n1_; clear n0_ n1_; (try clear hb); (try clear hb2); (try clear hk); (try clear hi)
                       refine hK.out _ _ ⟨((HB.out.cell (World.block_lt_of_cell? w _ hw293_0)).trans hw293_0), ((HB.out.cell (World.block_lt_of_cell? w _ hw293_1)).trans hw293_1), ((HB.out.cell (World.block_lt_of_cell? w _ hw293_2)).trans hw293_2), ((HB.out.cell (World.block_lt_of_cell? w _ hw293_3)).trans hw293_3), ((HB.out.cell (World.block_lt_of_cell? w _ hw293_4)).trans hw293_4), ((HB.out.cell (World.block_lt_of_cell? w _ hw294_0)).trans hw294_0), ((HB.out.cell (World.block_lt_of_cell? w _ hw294_1)).trans hw294_1), ((HB.out.cell (World.block_lt_of_cell? w _ hw294_2)).trans hw294_2), ((HB.out.cell (World.block_lt_of_cell? w _ hw294_3)).trans hw294_3), ((HB.out.cell (World.block_lt_of_cell? w _ hw294_4)).trans hw294_4)⟩ (fun hHeld => ?_)
                       clear hK K
                       refine norm_ (a' := ?_) ?_ ?_
                       rotate_left
                       ·show Act.put _ (some 58) _ = _
                        simp only [Act.put, List.setIfInBounds_toArray, List.set_cons_zero, List.set_cons_succ, i64_w, i32_w]
                        rfl
                       refine done_ (done_of HT_.out (by kernel_rfl)) ?_
                       try go_wp2
                       go_roundg k2
                       case measure => have := HK1.out; have := HK2.out; omega
                       case rel => exact ⟨(wrap64 (x46_2 + 1)), (by first | rfl | (simp; done) | (simp [*]; done)), H', ⟨by have := HK1.out; have := HK2.out; omega⟩, ⟨by exact r_ HO_8.out⟩, ⟨b_⟩⟩
                     ·rw [if_neg c27] at H
                      exact absurd H (by simp)
                    ·rw [if_neg c26] at H
                     exact absurd H (by simp)
                   ·rw [if_neg c25] at H
                    exact absurd H (by simp)
                  ·rw [if_neg c24] at H
                   exact absurd H (by simp)
                 ·rw [if_neg c23] at H
                  exact absurd H (by simp)
                ·rw [if_neg c22] at H
                 exact absurd H (by simp)
               ·rw [if_neg c21] at H
                have c21b0 : decide (x46_2 < (D1_.length : Int)) = false := decide_eq_false c21
                clear c21
                have H' := a_ H
                clear H
                go_wp2
                go_roundg k2
                case measure => have := HK1.out; have := HK2.out; omega
                case rel => exact ⟨(wrap64 (x25_1 + 1)), (by first | rfl | (simp; done) | (simp [*]; done)), H', ⟨by have := HK1.out; have := HK2.out; omega⟩, ⟨by exact r_ HO_8.out⟩, ⟨b_⟩⟩
            ·rw [if_neg c17] at H
             exact absurd H (by simp)
           ·rw [if_neg c16] at H
            exact absurd H (by simp)
          ·replace c14 := Bool.eq_false_iff.mpr c14
           subst c14
           have H1 : (some (false, true)) = some (r1, r2) := by rw [if_neg (show ¬ (false = true) by decide)] at H; exact H
           clear H; have H := H1; clear H1
           simp only [Option.some.injEq, Prod.mk.injEq] at H
           obtain ⟨rfl, rfl⟩ := H
           have p287 : 0 ≤ (x25_1 : Int) := od_
           have q287 : x25_1 < (l2.length : Int) := od_
           obtain ⟨ad287, e287, hx287_0⟩ := Kd.at_int HR2.out x25_1 p287 q287
           cases e287
           try replace hx287_0 := (HB.out.cell (World.block_lt_of_cell? w _ hx287_0)).trans hx287_0
           replace p287 := eq_true p287; replace q287 := eq_true q287
           try go_wp2
           have n0_ := a_ (Kd.R_drew HO_8.out)
           have n1_ := a_ (below_drew1 HB.out)
           clear HO_8; clear HB; have HO_8 := n0_; have HB := n1_; clear n0_ n1_
           obtain ⟨Ao35, co35, eo35⟩ := Kd.R_slice HO_8.out
           (first | subst eo35 | (injection eo35 with f1_ f2_ f3_; have f4_ := f1_.symm; have f5_ := f3_.symm; clear f1_ f2_ f3_; subst f4_; subst f5_))
           have p288 : 0 ≤ (x25_1 : Int) := od_
           have q288 : x25_1 < (t283.length : Int) := od_
           obtain ⟨ad288, e288, hx288_0⟩ := Kd.at_float (Kd.R_reads' HO_8.out).2.2 x25_1 p288 q288
           cases e288
           replace p288 := eq_true p288; replace q288 := eq_true q288
           have p289 : 0 ≤ ((rd l2 x25_1) : Int) := od_
           have q289 : (rd l2 x25_1) < (l1.length : Int) := od_
           obtain ⟨ad289, e289, hx289_0, hx289_1, hx289_2, hx289_3, hx289_4⟩ := at_T77 HR1.out (rd l2 x25_1) p289 q289
           have hw289_4 := hx289_4; have hw289_3 := hx289_3; have hw289_2 := hx289_2; have hw289_1 := hx289_1; have hw289_0 := hx289_0
           cases e289
           try replace hx289_0 := (HB.out.cell (World.block_lt_of_cell? w _ hx289_0)).trans hx289_0
           try replace hx289_1 := (HB.out.cell (World.block_lt_of_cell? w _ hx289_1)).trans hx289_1
           try replace hx289_2 := (HB.out.cell (World.block_lt_of_cell? w _ hx289_2)).trans hx289_2
           try replace hx289_3 := (HB.out.cell (World.block_lt_of_cell? w _ hx289_3)).trans hx289_3
           try replace hx289_4 := (HB.out.cell (World.block_lt_of_cell? w _ hx289_4)).trans hx289_4
           replace p289 := eq_true p289; replace q289 := eq_true q289
           refine start_ (n := 11) (S := fun w' => w'.cell? (ad288.add (x25_1).toNat) = some (.float .f64 (rdOf (0 : Nat) t283 x25_1)) ∧ w'.cell? (ad289.add (((rd l2 x25_1)).toNat * 5)) = some (.int .i64 ((rd_T77 l1 (rd l2 x25_1)).f0)) ∧ w'.cell? ⟨(ad289.add (((rd l2 x25_1)).toNat * 5)).block, (ad289.add (((rd l2 x25_1)).toNat * 5)).off + 1, none⟩ = some (.int .i64 ((rd_T77 l1 (rd l2 x25_1)).f1)) ∧ w'.cell? ⟨(ad289.add (((rd l2 x25_1)).toNat * 5)).block, (ad289.add (((rd l2 x25_1)).toNat * 5)).off + 2, none⟩ = some (.int .i64 ((rd_T77 l1 (rd l2 x25_1)).f2)) ∧ w'.cell? ⟨(ad289.add (((rd l2 x25_1)).toNat * 5)).block, (ad289.add (((rd l2 x25_1)).toNat * 5)).off + 3, none⟩ = some (.bool ((rd_T77 l1 (rd l2 x25_1)).f3)) ∧ w'.cell? ⟨(ad289.add (((rd l2 x25_1)).toNat * 5)).block, (ad289.add (((rd l2 x25_1)).toNat * 5)).off + 4, none⟩ = some (.float .f64 ((rd_T77 l1 (rd l2 x25_1)).f4))) (ds := []) #[false, false, false, false, false, false, false, false, false, false, false] (by kernel_rfl) rfl rfl ⟨hx288_0, ((HB.out.cell (World.block_lt_of_cell? w _ hw289_0)).trans hw289_0), ((HB.out.cell (World.block_lt_of_cell? w _ hw289_1)).trans hw289_1), ((HB.out.cell (World.block_lt_of_cell? w _ hw289_2)).trans hw289_2), ((HB.out.cell (World.block_lt_of_cell? w _ hw289_3)).trans hw289_3), ((HB.out.cell (World.block_lt_of_cell? w _ hw289_4)).trans hw289_4)⟩ (fun hHeld => ?_); refine with_tabW impl_FitsOrder.tab7 impl_FitsOrder.bits7 (fun HT_ HW_ => ?_)
           generalize wr.drew = w34 at HO_8 HB hx288_0 hx289_0 hx289_1 hx289_2 hx289_3 hx289_4 hHeld ⊢
           refine pure_ (i := 0) (N := some 30) (v := ?_) (a' := ?_) #[true, false, false, false, false, false, false, false, false, false, false] rfl rfl (any_of HT_.out (by kernel_rfl)) (fun _ _ _ h => h) (Or.inl ⟨by rfl, ?_⟩) ?_ ?_
           rotate_left
           ·intro w'
            go_simp
            with_reducible rfl
           rotate_left
           ·simp only [Act.put, List.setIfInBounds_toArray, List.set_cons_zero, List.set_cons_succ, i64_w, i32_w]
            rfl
           refine pure_ (i := 1) (N := some 31) (v := ?_) (a' := ?_) #[true, true, false, false, false, false, false, false, false, false, false] rfl rfl (any_of HT_.out (by kernel_rfl)) (fun _ _ _ h => h) (Or.inl ⟨by rfl, ?_⟩) ?_ ?_
           rotate_left
           ·intro w'
            go_simp
            with_reducible rfl
           rotate_left
           ·simp only [Act.put, List.setIfInBounds_toArray, List.set_cons_zero, List.set_cons_succ, i64_w, i32_w]
            rfl
           refine pure_ (i := 2) (N := some 32) (v := ?_) (a' := ?_) #[true, true, true, false, false, false, false, false, false, false, false] rfl rfl (any_of HT_.out (by kernel_rfl)) (fun _ _ _ h => h) (Or.inl ⟨by rfl, ?_⟩) ?_ ?_
           rotate_left
           ·intro w'
            go_simp
            with_reducible rfl
           rotate_left
           ·simp only [Act.put, List.setIfInBounds_toArray, List.set_cons_zero, List.set_cons_succ, i64_w, i32_w]
            rfl
           refine pure_ (i := 4) (N := some 34) (v := ?_) (a' := ?_) #[true, true, true, false, true, false, false, false, false, false, false] rfl rfl (any_of HT_.out (by kernel_rfl)) (fun _ _ _ h => h) (Or.inl ⟨by rfl, ?_⟩) ?_ ?_
           rotate_left
           ·intro w'
            go_simp
            with_reducible rfl
           rotate_left
           ·simp only [Act.put, List.setIfInBounds_toArray, List.set_cons_zero, List.set_cons_succ, i64_w, i32_w]
            rfl
           refine pure_ (i := 5) (N := some 35) (v := ?_) (a' := ?_) #[true, true, true, false, true, true, false, false, false, false, false] rfl rfl (any_of HT_.out (by kernel_rfl)) (fun _ _ _ h => h) (Or.inl ⟨by rfl, ?_⟩) ?_ ?_
           rotate_left
           ·intro w'
            go_simp
            with_reducible rfl
           rotate_left
           ·simp only [Act.put, List.setIfInBounds_toArray, List.set_cons_zero, List.set_cons_succ, i64_w, i32_w]
            rfl
           refine pure_ (i := 6) (N := some 36) (v := ?_) (a' := ?_) #[true, true, true, false, true, true, true, false, false, false, false] rfl rfl (any_of HT_.out (by kernel_rfl)) (fun _ _ _ h => h) (Or.inl ⟨by rfl, ?_⟩) ?_ ?_
           rotate_left
           ·intro w'
            go_simp
            with_reducible rfl
           rotate_left
           ·simp only [Act.put, List.setIfInBounds_toArray, List.set_cons_zero, List.set_cons_succ, i64_w, i32_w]
            rfl
           refine pure_ (i := 7) (N := some 37) (v := ?_) (a' := ?_) #[true, true, true, false, true, true, true, true, false, false, false] rfl rfl (any_of HT_.out (by kernel_rfl)) (fun _ _ _ h => h) (Or.inl ⟨by rfl, ?_⟩) ?_ ?_
           rotate_left
           ·intro w'
            go_simp
            with_reducible rfl
           rotate_left
           ·simp only [Act.put, List.setIfInBounds_toArray, List.set_cons_zero, List.set_cons_succ, i64_w, i32_w]
            rfl
           refine take_ (i := 3) (N := some 33) (v := ?_) (a' := ?_) #[true, true, true, true, true, true, true, true, false, false, false] rfl rfl (take_ofW HT_.out HW_.out (by kernel_rfl)) (fun _ _ _ h => h) (Or.inl ⟨by rfl, ?_⟩) hHeld ?_ ?_
           rotate_left
           ·rintro w' ⟨s0, s1, s2, s3, s4, s5⟩
            go_simp
            with_reducible rfl
           rotate_left
           ·simp only [Act.put, List.setIfInBounds_toArray, List.set_cons_zero, List.set_cons_succ, i64_w, i32_w]
            rfl
           refine take_ (i := 8) (N := some 38) (v := ?_) (a' := ?_) #[true, true, true, true, true, true, true, true, true, false, false] rfl rfl (take_ofW HT_.out HW_.out (by kernel_rfl)) (fun _ _ _ h => h) (Or.inl ⟨by rfl, ?_⟩) hHeld ?_ ?_
           rotate_left
           ·rintro w' ⟨s0, s1, s2, s3, s4, s5⟩
            go_simp
            with_reducible rfl
           rotate_left
           ·simp only [Act.put, List.setIfInBounds_toArray, List.set_cons_zero, List.set_cons_succ, i64_w, i32_w]
            rfl
           refine one_ (i := 9) (N := some 39) #[true, true, true, true, true, true, true, true, true, true, false] rfl rfl (one_of HT_.out (by kernel_rfl)) (by decide) (fun K hK => ?_)
           first | refine goes_ Try.func42 (by kernel_rfl) rfl #[.float .f64 (rdOf (0 : Nat) t283 x25_1), .float .f64 ((rd_T77 l1 (rd l2 x25_1)).f4)] (by rfl) rfl rfl la_ ?_ | refine goesV_ Try.func42 (by kernel_rfl) rfl #[.float .f64 (rdOf (0 : Nat) t283 x25_1), .float .f64 ((rd_T77 l1 (rd l2 x25_1)).f4)] (by rfl) rfl rfl (by rfl) (by first | rfl | (simp only [List.map_toArray, List.map_cons, List.map_nil]; rfl)) ?_
           with_reducible refine (impl_SameNum.calls (rdOf (0 : Nat) t283 x25_1) ((rd_T77 l1 (rd l2 x25_1)).f4) false _ A13.out).mono ?_
           rintro e w' ⟨rfl, ⟨nd, rfl⟩⟩
           refine ⟨_, rfl, ?_⟩
           refine hK.out _ _ ⟨hHeld.1, ((HB.out.cell (World.block_lt_of_cell? w _ hw289_0)).trans hw289_0), ((HB.out.cell (World.block_lt_of_cell? w _ hw289_1)).trans hw289_1), ((HB.out.cell (World.block_lt_of_cell? w _ hw289_2)).trans hw289_2), ((HB.out.cell (World.block_lt_of_cell? w _ hw289_3)).trans hw289_3), ((HB.out.cell (World.block_lt_of_cell? w _ hw289_4)).trans hw289_4)⟩ (fun hHeld => ?_)
           clear hK K
           refine norm_ (a' := ?_) ?_ ?_
           rotate_left
           ·show Act.put _ (some 39) _ = _
            simp only [Act.put, List.setIfInBounds_toArray, List.set_cons_zero, List.set_cons_succ, i64_w, i32_w]
            rfl
           refine pure_ (i := 10) (N := some 40) (v := ?_) (a' := ?_) #[true, true, true, true, true, true, true, true, true, true, true] rfl rfl (any_of HT_.out (by kernel_rfl)) (fun _ _ _ h => h) (Or.inl ⟨by rfl, ?_⟩) ?_ ?_
           rotate_left
           ·intro w'
            go_simp
            with_reducible rfl
           rotate_left
           ·simp only [Act.put, List.setIfInBounds_toArray, List.set_cons_zero, List.set_cons_succ, i64_w, i32_w]
            rfl
           refine done_ (done_of HT_.out (by kernel_rfl)) ?_
           try go_wp2
           go_ret2
           exact ⟨by first | rfl | (simp [errW_none, errW_some] <;> rfl) | (simp [*, errW_none, errW_some] <;> rfl), b_⟩
         ·rw [if_neg c12] at H
          exact absurd H (by simp)
        ·rw [if_neg c11] at H
         exact absurd H (by simp)
       ·rw [if_neg c10] at H
        exact absurd H (by simp)
      ·rw [if_neg c9] at H
       exact absurd H (by simp)
     ·rw [if_neg c8] at H
      exact absurd H (by simp)
    ·rw [if_neg c7] at H
     have c7b0 : decide (x25_1 < (l2.length : Int)) = false := decide_eq_false c7
     clear c7
     simp only [Option.some.injEq, Prod.mk.injEq] at H
     obtain ⟨rfl, rfl⟩ := H
     go_wp2
     go_ret2
     exact ⟨by first | rfl | (simp [errW_none, errW_some] <;> rfl) | (simp [*, errW_none, errW_some] <;> rfl), b_⟩
 ·replace c5 := Bool.eq_false_iff.mpr c5
  subst c5
  have H1 : (some (false, false)) = some (r1, r2) := by rw [if_neg (show ¬ (false = true) by decide)] at H; exact H
  clear H; have H := H1; clear H1
  simp only [Option.some.injEq, Prod.mk.injEq] at H
  obtain ⟨rfl, rfl⟩ := H
  go_enter Try.func22, Try.ntmps22
  go_wp2_with (first | ((with_reducible refine gate_callee (f := 13) rfl ?_); refine goesL_ (some 18) rfl rfl Try.func13 (by kernel_rfl) rfl #[.int .i64 a0, .slice A1 l1.length c1, .slice A2 l2.length c2] rfl la_ ?_; (with_reducible refine (impl_PlayObject.calls k a0 _ _ l1 _ _ l2 t283 false _ ?side1 ?side2 ?side3 ?side4 A4.out).mono ?_); (case side1 => repeat (first | exact HR1.out | (with_reducible refine Kd.C_alloc ?_ _) | (with_reducible refine Kd.C_drewN ?_ _) | (with_reducible refine Kd.C_drew ?_))); (case side2 => exact HC1.out); (case side3 => repeat (first | exact HR2.out | (with_reducible refine Kd.C_alloc ?_ _) | (with_reducible refine Kd.C_drewN ?_ _) | (with_reducible refine Kd.C_drew ?_))); (case side4 => exact HC2.out); rintro e w36 ⟨v285, rfl, ho0, hb⟩; refine ⟨_, rfl, ?_⟩; have n0_ := a_ (Kd.R_lower ho0 (below_size b_)); have n1_ := a_ (below_step b_ hb); clear HB; have HO286 := n0_; have HB := n1_; clear n0_ n1_; (try clear hb); (try clear hb2); (try clear hk); (try clear hi); (try clear ho0)))
  go_ret2
  exact ⟨by first | rfl | (simp [errW_none, errW_some] <;> rfl) | (simp [*, errW_none, errW_some] <;> rfl), b_⟩

end Go.Proofs.Ythdpiceiemkjlaa.GFitsOrder

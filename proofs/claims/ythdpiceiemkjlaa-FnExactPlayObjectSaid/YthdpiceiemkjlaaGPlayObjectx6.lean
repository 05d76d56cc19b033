-- Printed by wip/tools/print2.py out of the translation: walks and plain functions; Lean checks them.
import Derived.Test.YthdpiceiemkjlaaGPlayObjectx0
import Derived.Test.YthdpiceiemkjlaaGPlayObjectx3
import Derived.Test.YthdpiceiemkjlaaGPlayObjectx4
import Derived.Test.YthdpiceiemkjlaaGPlayObjectx5
namespace Go.Proofs.Ythdpiceiemkjlaa.GPlayObject
open Go.RowKit Go.Proofs.YthdpiceiemkjlaaW.PrintWords Go.Proofs.YthdpiceiemkjlaaW.PrintLast Go.Proofs.YthdpiceiemkjlaaW.PrintMore
attribute [local go_sem] max2_int min2_int max_two min_two max_three min_three max_four min_four   -- for this text's walks alone
set_option linter.unusedVariables false
set_option linter.unusedSimpArgs false

/-! ### impl_toldBy: function 65 -/
def impl_toldBy.l0 : Nat → List (S77) → List Nat → List Int → Int → Int → Int → List Nat → Option (List Nat)
 | 0, _, _, _, _, _, _, _ => none
 | k + 1, x1, x7, x16, x17, x18, x235000, x235001 => if x18 < x17 then (if 0 ≤ x18 then (if x18 < (x16.length : Int) then (if 0 ≤ (rd x16 x18) then (if (rd x16 x18) < (x1.length : Int) then ((impl_object_play.f k x235000 x235001 ((rd_T77 x1 (rd x16 x18)).f0) ((rd_T77 x1 (rd x16 x18)).f1) ((rd_T77 x1 (rd x16 x18)).f2) ((rd_T77 x1 (rd x16 x18)).f3) ((rd_T77 x1 (rd x16 x18)).f4)).bind fun bt237 => (if x7.length < 17592186044416 then (impl_toldBy.l0 k x1 (x7 ++ [bt237.1]) x16 x17 (wrap64 (x18 + 1)) bt237.2.1 bt237.2.2) else (none))) else (none)) else (none)) else (none)) else (none)) else (some x7)
def impl_toldBy.f (k : Nat) (a0 : Int) (l1 : List (S77)) (l2 : List Int) : Option (List Nat) := (impl_newObject.f a0).bind fun bt230 => (impl_toldBy.l0 k l1 (([] : List Nat)) l2 (l2.length : Int) 0 bt230.1 bt230.2)
theorem impl_toldBy.mono_l : ∀ k, (∀ y0 y1 y2 y3 y4 y5 y6, LeO (impl_toldBy.l0 k y0 y1 y2 y3 y4 y5 y6) (impl_toldBy.l0 (k + 1) y0 y1 y2 y3 y4 y5 y6))
 | 0 => fun _ _ _ _ _ _ _ r h => by simp [impl_toldBy.l0] at h
 | k + 1 => by
  have ih0 := impl_toldBy.mono_l k
  ·intro y0 y1 y2 y3 y4 y5 y6
   unfold impl_toldBy.l0
   repeat' first | (with_reducible exact ih0 _ _ _ _ _ _ _) | (with_reducible exact impl_object_play.mono _ _ _ _ _ _ _ _) | (with_reducible exact LeO.refl _) | (with_reducible exact LeO.none _) | (with_reducible refine LeO.ite ?_ ?_) | (with_reducible refine LeO.bind ?_ (fun _ => ?_)) | exact ih0 _ _ _ _ _ _ _ | exact impl_object_play.mono _ _ _ _ _ _ _ _ | exact LeO.none _ | refine LeO.ite ?_ ?_ | refine LeO.bind ?_ (fun _ => ?_)
theorem impl_toldBy.mono : ∀ a0 a1 a2 k, LeO (impl_toldBy.f k a0 a1 a2) (impl_toldBy.f (k + 1) a0 a1 a2) := by
 intro a0 a1 a2 k
 have ih0 := impl_toldBy.mono_l k
 unfold impl_toldBy.f
 repeat' first | (with_reducible exact ih0 _ _ _ _ _ _ _) | (with_reducible exact impl_object_play.mono _ _ _ _ _ _ _ _) | (with_reducible exact LeO.refl _) | (with_reducible exact LeO.none _) | (with_reducible refine LeO.ite ?_ ?_) | (with_reducible refine LeO.bind ?_ (fun _ => ?_)) | exact ih0 _ _ _ _ _ _ _ | exact impl_object_play.mono _ _ _ _ _ _ _ _ | exact LeO.none _ | refine LeO.ite ?_ ?_ | refine LeO.bind ?_ (fun _ => ?_)
def impl_toldBy.T5 : Bool × List (List Nat × List Nat) := (true, [([], []), ([], []), ([], []), ([1, 2], [1, 2]), ([3], [3]), ([0, 4], [0, 4]), ([5], [5]), ([6], [6]), ([6], [6]), ([], []), ([7, 5, 0, 1, 2, 3, 4, 5, 6, 7, 9], [7]), ([9, 8, 10, 0, 1, 2, 3, 4, 5, 6, 7, 8, 9, 10], [8, 9])])
def impl_toldBy.B5 : List Nat := [0, 0, 0, 6, 14, 31, 63, 127, 127, 0, 767, 2047]
theorem impl_toldBy.tab5 : rtab .any (opsOf Try.f65 5) = impl_toldBy.T5 := by kernel_rfl
theorem impl_toldBy.bits5 : waitsOk impl_toldBy.T5.2 impl_toldBy.B5 = true := by kernel_rfl
set_option maxHeartbeats 8000000 in
set_option maxRecDepth 100000 in
theorem impl_toldBy.calls (k : Nat) (a0 : Int) (A1 : Option Addr) (c1 : Nat) (l1 : List (S77)) (A2 : Option Addr) (c2 : Nat) (l2 : List Int) (r : List Nat) (w : World) (hr1 : Kd.C k77 w A1 l1.length l1) (hc1 : l1.length ≤ c1) (hr2 : Kd.C (Kd.int .i64) w A2 l2.length l2) (hc2 : l2.length ≤ c2) (h : impl_toldBy.f k a0 l1 l2 = some r) :
  Calls Try.prog 65 #[.int .i64 a0, .slice A1 l1.length c1, .slice A2 l2.length c2] w fun e w' => ∃ v0_ : Value, e = .returned (v0_) ∧ Kd.R Kd.float 55 w' w.heap.size (fun _ => True) v0_ r ∧ Below w.heap.size w w' := by
 have hu88 := Try.underlying88
 have hu77 := Try.underlying77
 have HR1 := a_ hr1
 have HC1 := a_ hc1
 clear hr1 hc1
 have HR2 := a_ hr2
 have HC2 := a_ hc2
 clear hr2 hc2
 have HB := a_ (Below.refl w.heap.size w)
 have H : ((impl_newObject.f a0).bind fun bt230 => (impl_toldBy.l0 k l1 (([] : List Nat)) l2 (l2.length : Int) 0 bt230.1 bt230.2)) = some r := h
 clear h
 obtain ⟨y227, hy227⟩ : ∃ y_ : List Nat, y_ = (([] : List Nat)) := ⟨_, rfl⟩
 replace H : ((impl_newObject.f a0).bind fun bt230 => (impl_toldBy.l0 k l1 y227 l2 (l2.length : Int) 0 bt230.1 bt230.2)) = some r := by first|(rw [hy227]; with_reducible exact H)|(rw [hy227]; exact (Option.bind_some _ _).symm.trans H)|(rw [hy227]; exact H)|exact H
 have Ny227 := a_ hy227
 clear hy227
 replace H := Option.bind_eq_some_iff.mp H
 obtain ⟨⟨t230, t231⟩, A40, H⟩ := H
 replace H : (impl_toldBy.l0 k l1 y227 l2 (l2.length : Int) 0 t230 t231) = some r := H
 have A4 := a_ A40
 clear A40
 have H' := a_ H
 clear H
 go_enter Try.func65, Try.ntmps65
 go_wp2_with (first | ((with_reducible refine gate_dst (N := 13) rfl ?_); refine Kd.R_lit Kd.float _ 55 ?hg (N := 13) ?hd (xs := ([] : List Nat)) (inner := []) (ok := fun _ => True) (okp := fun _ => True) ?hr ?hp (fun _ hk => hk) trivial (Below.refl _ _) (Nat.le_refl _) (by simp) ?_; (case hd => rfl); (case hg => rfl); (case hr => first | (go_simp; done) | (go_simp; rfl)); (case hp => exact (Reps.none _ _)); intro v228 w5 ho6 hb hg_ hnew_; clear hg_ hnew_; (first | rw [← Ny227.out] at ho6 | (simp only [Int.reduceToNat] at ho6; rw [← Ny227.out] at ho6)); have n0_ := a_ (Kd.R_lower ho6 (below_size b_)); have n1_ := a_ (below_step b_ hb); clear HB; have HO229 := n0_; have HB := n1_; clear n0_ n1_; clear hb ho6) | ((with_reducible refine gate_callee (f := 73) rfl ?_); refine goesL_ (some 15) rfl rfl Try.func73 (by kernel_rfl) rfl #[.int .i64 a0] rfl la_ ?_; (with_reducible refine (impl_newObject.calls a0 t230 t231 _ A4.out).mono ?_); rintro e w7 ⟨v232, rfl, ho0, hb⟩; refine ⟨_, rfl, ?_⟩; have n0_ := a_ (Kd.R_elder' (r_ HO229.out) (by first | exact Kd.R_base ho0 | exact Kd.S_base ho0 | exact Kd.R_base ho0) hb); have n1_ := a_ (Kd.R_lower (Kd.R_new' ho0 (Kd.R_lt (r_ HO229.out))) (below_size b_)); have n2_ := a_ (below_step b_ hb); clear HO229; clear HB; have HO229 := n0_; have HO233 := n1_; have HB := n2_; clear n0_ n1_ n2_; (try clear hb); (try clear hb2); (try clear hk); (try clear hi); (try clear ho0)) | ((with_reducible refine gate_dst (N := 8) rfl ?_); refine box_event ?hg (N := 8) ?hd (cs := #[.int .i64 0, .slice none 0 0]) (t := 88) ?hr ?_; (case hd => rfl); (case hg => rfl); (case hr => first | (go_simp; done) | (go_simp; rfl)); intro gb234 hg w8 hbox hb; have n0_ := a_ (Kd.R_below (r_ HO229.out) hb); have n1_ := a_ (Kd.R_below (r_ HO233.out) hb); have n2_ := a_ (below_step b_ hb); have n3_ := a_ (hbox); have n4_ := a_ ((by rw [hg]; exact (below_size b_) : w.heap.size ≤ gb234)); have n5_ := a_ ((by rw [hg]; exact (below_size b_) : w.heap.size ≤ gb234)); clear HO229; clear HO233; clear HB; have HO229 := n0_; have HO233 := n1_; have HB := n2_; have BK234 := n3_; have GW234 := n4_; have GE234 := n5_; clear n0_ n1_ n2_ n3_ n4_ n5_; clear hb hbox hg; have hcz9_0 : w8.cell? ⟨gb234, 0, none⟩ = some (.int .i64 0) := (blk_cell BK234.out 0).trans rfl; have hcz9_1 : w8.cell? ⟨gb234, 1, none⟩ = some (.slice none 0 0) := (blk_cell BK234.out 1).trans rfl; have hfz9_0 := blk_frozen BK234.out 0; have hfz9_1 := blk_frozen BK234.out 1; obtain ⟨Ao10, co10, eo10⟩ := Kd.R_slice HO233.out; subst eo10))
 go_loopg [7, 18] k (fun kq v7 v18 w' => ∃ (x7_1 : List Nat) (x18_1 : Int) (x235000_1 : Int) (x235001_1 : List Nat) (u235001 : Value), v18 = .int .i64 x18_1 ∧ Aside0 (impl_toldBy.l0 kq l1 x7_1 l2 (l2.length : Int) x18_1 x235000_1 x235001_1 = some r) ∧ Aside0 (kq ≤ k) ∧ Aside0 (Kd.R Kd.float 55 w' w.heap.size (fun _ => True) v7 x7_1) ∧ Aside0 (Kd.V Kd.float 55 w' w.heap.size (fun k_ => some k_ ≠ (v7 : Value).ownBlock ∧ k_ ≠ gb234) u235001 x235001_1) ∧ Aside0 (w'.heap[gb234]? = some (.cells #[.int .i64 x235000_1, u235001] 88 (0, 0))) ∧ Aside0 (Below w.heap.size w w'))
 case atStart => exact ⟨(y227), (0), (t230), (t231), (.slice Ao10 t231.length co10), (by first | rfl | (simp; done) | (simp [*]; done)), H', ⟨Nat.le_refl _⟩, ⟨by refine r_ ?_; exact Kd.R_mono (Kd.R_far (p := ⟨gb234, 1, none⟩) (Kd.R_far (p := ⟨gb234, 0, none⟩) (Kd.R_types HO229.out BK234.out (by decide)) (fun _ hk => hk.2) (.int .i64 t230)) (fun _ hk => hk.2) (.slice Ao10 t231.length co10)) (fun _ hk => trivial)⟩, ⟨Kd.R_V (by refine r_ ?_; exact Kd.R_mono (Kd.R_far (p := ⟨gb234, 1, none⟩) (Kd.R_far (p := ⟨gb234, 0, none⟩) (Kd.R_types (Kd.R_types HO233.out BK234.out (by decide)) BK234.out (by decide)) (fun _ hk => hk.2) (.int .i64 t230)) (fun _ hk => hk.2) (.slice Ao10 t231.length co10)) (fun _ hk => ⟨hk.1.1.2, hk.1.2⟩))⟩, ⟨by refine q_ ?_; refine blk_put (cs := #[.int .i64 t230, .slice none 0 0]) ?_ 1 _ rfl; refine q_ ?_; refine blk_put (cs := #[.int .i64 0, .slice none 0 0]) ?_ 0 _ rfl; exact q_ BK234.out⟩, ⟨b_⟩⟩
 case round =>
  clear H'
  (try clear c1); (try clear c2); (try clear p2); (try clear c6); (try clear c7); (try clear hcz9_0); (try clear hcz9_1); (try clear hfz9_0); (try clear hfz9_1)
  obtain ⟨x7_1, x18_1, x235000_1, x235001_1, u235001, rfl, HA, HK1, HO_7, HO_235001, BK234, HB⟩ := hrel
  cases gk with
  | zero => exact absurd HA.out (by simp [impl_toldBy.l0])
  | succ k1 =>
   have H := HA.out; clear HA
   simp only [impl_toldBy.l0] at H
   by_cases c11 : x18_1 < (l2.length : Int)
   ·rw [if_pos c11] at H
    have c11b0 : decide (x18_1 < (l2.length : Int)) = true := decide_eq_true c11
    clear c11
    by_cases c12 : 0 ≤ x18_1
    ·rw [if_pos c12] at H
     have c12b0 : decide (0 ≤ x18_1) = true := decide_eq_true c12
     clear c12
     by_cases c13 : x18_1 < (l2.length : Int)
     ·rw [if_pos c13] at H
      have c13b0 : decide (x18_1 < (l2.length : Int)) = true := decide_eq_true c13
      clear c13
      by_cases c14 : 0 ≤ (rd l2 x18_1)
      ·rw [if_pos c14] at H
       have c14b0 : decide (0 ≤ (rd l2 x18_1)) = true := decide_eq_true c14
       clear c14
       by_cases c15 : (rd l2 x18_1) < (l1.length : Int)
       ·rw [if_pos c15] at H
        have c15b0 : decide ((rd l2 x18_1) < (l1.length : Int)) = true := decide_eq_true c15
        clear c15
        replace H := Option.bind_eq_some_iff.mp H
        obtain ⟨⟨t237, t238, t239⟩, A160, H⟩ := H
        replace H : (if x7_1.length < 17592186044416 then (impl_toldBy.l0 k1 l1 (x7_1 ++ [t237]) l2 (l2.length : Int) (wrap64 (x18_1 + 1)) t238 t239) else (none)) = some r := H
        have A16 := a_ A160; clear A160
        by_cases c17 : x7_1.length < 17592186044416
        ·rw [if_pos c17] at H
         have LMc17 := a_ c17; clear c17
         obtain ⟨y243, hy243⟩ : ∃ y_ : List Nat, y_ = (x7_1 ++ [t237]) := ⟨_, rfl⟩
         replace H : (impl_toldBy.l0 k1 l1 y243 l2 (l2.length : Int) (wrap64 (x18_1 + 1)) t238 t239) = some r := by first|(rw [hy243]; with_reducible exact H)|(rw [hy243]; exact (Option.bind_some _ _).symm.trans H)|(rw [hy243]; exact H)|exact H
         have Ny243 := a_ hy243; clear hy243
         have H' := a_ H
         clear H
         have p235 : 0 ≤ (x18_1 : Int) := od_
         have q235 : x18_1 < (l2.length : Int) := od_
         obtain ⟨ad235, e235, hx235_0⟩ := Kd.at_int HR2.out x18_1 p235 q235
         cases e235
         try replace hx235_0 := (HB.out.cell (World.block_lt_of_cell? w _ hx235_0)).trans hx235_0
         replace p235 := eq_true p235; replace q235 := eq_true q235
         obtain ⟨Ao18, co18, eo18⟩ := Kd.V_slice HO_235001.out
         subst eo18
         try go_wp2
         have n0_ := a_ (Kd.R_drew HO_7.out)
         have n1_ := a_ (Kd.V_drew HO_235001.out)
         have n2_ := a_ (blk_drew BK234.out)
         have n3_ := a_ (below_drew1 HB.out)
         clear HO_7; clear HO_235001; clear BK234; clear HB; have HO_7 := n0_; have HO_235001 := n1_; have BK234 := n2_; have HB := n3_; clear n0_ n1_ n2_ n3_
         have p236 : 0 ≤ ((rd l2 x18_1) : Int) := od_
         have q236 : (rd l2 x18_1) < (l1.length : Int) := od_
         obtain ⟨ad236, e236, hx236_0, hx236_1, hx236_2, hx236_3, hx236_4⟩ := at_T77 HR1.out (rd l2 x18_1) p236 q236
         have hw236_4 := hx236_4; have hw236_3 := hx236_3; have hw236_2 := hx236_2; have hw236_1 := hx236_1; have hw236_0 := hx236_0
         cases e236
         try replace hx236_0 := (HB.out.cell (World.block_lt_of_cell? w _ hx236_0)).trans hx236_0
         try replace hx236_1 := (HB.out.cell (World.block_lt_of_cell? w _ hx236_1)).trans hx236_1
         try replace hx236_2 := (HB.out.cell (World.block_lt_of_cell? w _ hx236_2)).trans hx236_2
         try replace hx236_3 := (HB.out.cell (World.block_lt_of_cell? w _ hx236_3)).trans hx236_3
         try replace hx236_4 := (HB.out.cell (World.block_lt_of_cell? w _ hx236_4)).trans hx236_4
         replace p236 := eq_true p236; replace q236 := eq_true q236
         refine start_ (n := 12) (S := fun w' => w'.cell? ⟨gb234, 0, none⟩ = some (.int .i64 x235000_1) ∧ w'.cell? ⟨gb234, 1, none⟩ = some (.slice Ao18 x235001_1.length co18) ∧ w'.cell? (ad236.add (((rd l2 x18_1)).toNat * 5)) = some (.int .i64 ((rd_T77 l1 (rd l2 x18_1)).f0)) ∧ w'.cell? ⟨(ad236.add (((rd l2 x18_1)).toNat * 5)).block, (ad236.add (((rd l2 x18_1)).toNat * 5)).off + 1, none⟩ = some (.int .i64 ((rd_T77 l1 (rd l2 x18_1)).f1)) ∧ w'.cell? ⟨(ad236.add (((rd l2 x18_1)).toNat * 5)).block, (ad236.add (((rd l2 x18_1)).toNat * 5)).off + 2, none⟩ = some (.int .i64 ((rd_T77 l1 (rd l2 x18_1)).f2)) ∧ w'.cell? ⟨(ad236.add (((rd l2 x18_1)).toNat * 5)).block, (ad236.add (((rd l2 x18_1)).toNat * 5)).off + 3, none⟩ = some (.bool ((rd_T77 l1 (rd l2 x18_1)).f3)) ∧ w'.cell? ⟨(ad236.add (((rd l2 x18_1)).toNat * 5)).block, (ad236.add (((rd l2 x18_1)).toNat * 5)).off + 4, none⟩ = some (.float .f64 ((rd_T77 l1 (rd l2 x18_1)).f4))) (ds := []) #[false, false, false, false, false, false, false, false, false, false, false, false] (by kernel_rfl) rfl rfl ⟨(blk_cell BK234.out 0).trans rfl, (blk_cell BK234.out 1).trans rfl, ((HB.out.cell (World.block_lt_of_cell? w _ hw236_0)).trans hw236_0), ((HB.out.cell (World.block_lt_of_cell? w _ hw236_1)).trans hw236_1), ((HB.out.cell (World.block_lt_of_cell? w _ hw236_2)).trans hw236_2), ((HB.out.cell (World.block_lt_of_cell? w _ hw236_3)).trans hw236_3), ((HB.out.cell (World.block_lt_of_cell? w _ hw236_4)).trans hw236_4)⟩ (fun hHeld => ?_); refine with_tabW impl_toldBy.tab5 impl_toldBy.bits5 (fun HT_ HW_ => ?_)
         generalize wr.drew = w19 at HO_7 HO_235001 BK234 HB hx236_0 hx236_1 hx236_2 hx236_3 hx236_4 hHeld ⊢
         refine pure_ (i := 1) (N := some 24) (v := ?_) (a' := ?_) #[false, true, false, false, false, false, false, false, false, false, false, false] rfl rfl (any_of HT_.out (by kernel_rfl)) (fun _ _ _ h => h) (Or.inl ⟨by rfl, ?_⟩) ?_ ?_
         rotate_left
         ·intro w'
          go_simp
          with_reducible rfl
         rotate_left
         ·simp only [Act.put, List.setIfInBounds_toArray, List.set_cons_zero, List.set_cons_succ, i64_w, i32_w]
          rfl
         refine pure_ (i := 2) (N := some 25) (v := ?_) (a' := ?_) #[false, true, true, false, false, false, false, false, false, false, false, false] rfl rfl (any_of HT_.out (by kernel_rfl)) (fun _ _ _ h => h) (Or.inl ⟨by rfl, ?_⟩) ?_ ?_
         rotate_left
         ·intro w'
          go_simp
          with_reducible rfl
         rotate_left
         ·simp only [Act.put, List.setIfInBounds_toArray, List.set_cons_zero, List.set_cons_succ, i64_w, i32_w]
          rfl
         refine pure_ (i := 3) (N := some 26) (v := ?_) (a' := ?_) #[false, true, true, true, false, false, false, false, false, false, false, false] rfl rfl (any_of HT_.out (by kernel_rfl)) (fun _ _ _ h => h) (Or.inl ⟨by rfl, ?_⟩) ?_ ?_
         rotate_left
         ·intro w'
          go_simp
          with_reducible rfl
         rotate_left
         ·simp only [Act.put, List.setIfInBounds_toArray, List.set_cons_zero, List.set_cons_succ, i64_w, i32_w]
          rfl
         refine take_ (i := 0) (N := some 23) (v := ?_) (a' := ?_) #[true, true, true, true, false, false, false, false, false, false, false, false] rfl rfl (take_ofW HT_.out HW_.out (by kernel_rfl)) (fun _ _ _ h => h) (Or.inl ⟨by rfl, ?_⟩) hHeld ?_ ?_
         rotate_left
         ·rintro w' ⟨s0, s1, s2, s3, s4, s5, s6⟩
          go_simp
          with_reducible rfl
         rotate_left
         ·simp only [Act.put, List.setIfInBounds_toArray, List.set_cons_zero, List.set_cons_succ, i64_w, i32_w]
          rfl
         refine take_ (i := 4) (N := some 27) (v := ?_) (a' := ?_) #[true, true, true, true, true, false, false, false, false, false, false, false] rfl rfl (take_ofW HT_.out HW_.out (by kernel_rfl)) (fun _ _ _ h => h) (Or.inl ⟨by rfl, ?_⟩) hHeld ?_ ?_
         rotate_left
         ·rintro w' ⟨s0, s1, s2, s3, s4, s5, s6⟩
          go_simp
          with_reducible rfl
         rotate_left
         ·simp only [Act.put, List.setIfInBounds_toArray, List.set_cons_zero, List.set_cons_succ, i64_w, i32_w]
          rfl
         refine join_ (σ := Value × Nat) 2 #[true, true, true, true, true, true, true, true, true, true, false, false] (fun s_ => [(28, .tuple #[.float .f64 t237, .agg #[.int .i64 t238, s_.1]]), (12, .pointer (some ⟨s_.2, 0, none⟩)), (22, .tuple #[.float .f64 t237, .agg #[.int .i64 t238, s_.1]]), (29, .float .f64 t237), (30, .agg #[.int .i64 t238, s_.1])]) (fun s_ w' => (w'.cell? ⟨gb234, 0, none⟩ = some (.int .i64 x235000_1) ∧ w'.cell? ⟨gb234, 1, none⟩ = some (.slice Ao18 x235001_1.length co18) ∧ w'.cell? (ad236.add (((rd l2 x18_1)).toNat * 5)) = some (.int .i64 ((rd_T77 l1 (rd l2 x18_1)).f0)) ∧ w'.cell? ⟨(ad236.add (((rd l2 x18_1)).toNat * 5)).block, (ad236.add (((rd l2 x18_1)).toNat * 5)).off + 1, none⟩ = some (.int .i64 ((rd_T77 l1 (rd l2 x18_1)).f1)) ∧ w'.cell? ⟨(ad236.add (((rd l2 x18_1)).toNat * 5)).block, (ad236.add (((rd l2 x18_1)).toNat * 5)).off + 2, none⟩ = some (.int .i64 ((rd_T77 l1 (rd l2 x18_1)).f2)) ∧ w'.cell? ⟨(ad236.add (((rd l2 x18_1)).toNat * 5)).block, (ad236.add (((rd l2 x18_1)).toNat * 5)).off + 3, none⟩ = some (.bool ((rd_T77 l1 (rd l2 x18_1)).f3)) ∧ w'.cell? ⟨(ad236.add (((rd l2 x18_1)).toNat * 5)).block, (ad236.add (((rd l2 x18_1)).toNat * 5)).off + 4, none⟩ = some (.float .f64 ((rd_T77 l1 (rd l2 x18_1)).f4))) ∧ (Kd.V Kd.float 55 w' w.heap.size (fun k_ => some k_ ≠ (u7 : Value).ownBlock ∧ k_ ≠ gb234 ∧ k_ ≠ s_.2) s_.1 t239) ∧ (Kd.V Kd.float 55 w' w.heap.size (fun k_ => some k_ ≠ (u7 : Value).ownBlock ∧ k_ ≠ gb234 ∧ k_ ≠ s_.2) (.slice Ao18 x235001_1.length co18) x235001_1) ∧ (Kd.R Kd.float 55 w' w.heap.size (fun _ => True) u7 x7_1) ∧ (w'.heap[gb234]? = some (.cells #[.int .i64 x235000_1, .slice Ao18 x235001_1.length co18] 88 (0, 0))) ∧ (w'.heap[s_.2]? = some (.cells #[.int .i64 0, .slice none 0 0] 88 (0, 0))) ∧ (w.heap.size ≤ s_.2) ∧ (w.heap.size ≤ s_.2) ∧ (gb234 ≠ s_.2) ∧ (s_.2 ≠ gb234) ∧ (Below w.heap.size w w')) ?_ ?_
         rotate_left
         ·intro hCont
          refine two_ (i := 5) (j := 9) (Ni := some 28) (Nj := some 12) #[true, true, true, true, true, true, false, false, false, false, false, false] #[true, true, true, true, true, false, false, false, false, true, false, false] rfl rfl rfl rfl (two_of HT_.out (by kernel_rfl)) (by decide) (by decide) (fun K hK => ?_) (fun K hK => ?_)
          ·skip
           first | refine goes_ Try.func107 (by kernel_rfl) rfl #[.agg #[.int .i64 x235000_1, .slice Ao18 x235001_1.length co18], .agg #[.int .i64 ((rd_T77 l1 (rd l2 x18_1)).f0), .int .i64 ((rd_T77 l1 (rd l2 x18_1)).f1), .int .i64 ((rd_T77 l1 (rd l2 x18_1)).f2), .bool ((rd_T77 l1 (rd l2 x18_1)).f3), .float .f64 ((rd_T77 l1 (rd l2 x18_1)).f4)]] (by rfl) rfl rfl la_ ?_ | refine goesV_ Try.func107 (by kernel_rfl) rfl #[.agg #[.int .i64 x235000_1, .slice Ao18 x235001_1.length co18], .agg #[.int .i64 ((rd_T77 l1 (rd l2 x18_1)).f0), .int .i64 ((rd_T77 l1 (rd l2 x18_1)).f1), .int .i64 ((rd_T77 l1 (rd l2 x18_1)).f2), .bool ((rd_T77 l1 (rd l2 x18_1)).f3), .float .f64 ((rd_T77 l1 (rd l2 x18_1)).f4)]] (by rfl) rfl rfl (by rfl) (by first | rfl | (simp only [List.map_toArray, List.map_cons, List.map_nil]; rfl)) ?_
           with_reducible refine (impl_object_play.calls k1 x235000_1 (fun k_ => (some k_ ≠ (u7 : Value).ownBlock ∧ k_ ≠ gb234)) _ _ x235001_1 ((rd_T77 l1 (rd l2 x18_1)).f0) ((rd_T77 l1 (rd l2 x18_1)).f1) ((rd_T77 l1 (rd l2 x18_1)).f2) ((rd_T77 l1 (rd l2 x18_1)).f3) ((rd_T77 l1 (rd l2 x18_1)).f4) t237 t238 t239 _ ?side1 A16.out).mono ?_
           (case side1 => exact HO_235001.out)
           rintro e w20 ⟨v240, rfl, ho0, hb⟩
           refine ⟨_, rfl, ?_⟩
           have n0_ := a_ (Kd.R_below (r_ HO_7.out) hb)
           have n1_ := a_ (Kd.V_below (by (with_reducible repeat (first | apply Kd.V_alloc | apply Kd.V_drewN | apply Kd.V_drew)); exact HO_235001.out) hb)
           have n2_ := a_ (Kd.V_lower (Kd.V_mono (ok' := fun k_ => some k_ ≠ (u7 : Value).ownBlock ∧ k_ ≠ gb234) ho0 (fun k_ hk_ => ⟨Or.elim hk_ (fun hs_ => hs_.1) (fun hn_ => (Kd.fresh' (Kd.R_lt (r_ HO_7.out)) k_ hn_)), Or.elim hk_ (fun hs_ => hs_.2) (fun hn_ => (Kd.freshB (g := gb234) (o := .cells #[.int .i64 x235000_1, .slice Ao18 x235001_1.length co18] 88 (0, 0)) (q_ BK234.out) k_ hn_))⟩)) (below_size b_))
           have n3_ := a_ (blk_below (g := gb234) (o := .cells #[.int .i64 x235000_1, .slice Ao18 x235001_1.length co18] 88 (0, 0)) (q_ BK234.out) hb)
           have n4_ := a_ (below_step b_ hb)
           clear HO_7; clear HO_235001; clear BK234; clear HB; have HO_7 := n0_; have HO_235001 := n1_; have HO241 := n2_; have BK234 := n3_; have HB := n4_; clear n0_ n1_ n2_ n3_ n4_; (try clear hb); (try clear hb2); (try clear hk); (try clear hi); (try clear ho0)
           refine hK.out _ _ ⟨(blk_cell BK234.out 0).trans rfl, (blk_cell BK234.out 1).trans rfl, ((HB.out.cell (World.block_lt_of_cell? w _ hw236_0)).trans hw236_0), ((HB.out.cell (World.block_lt_of_cell? w _ hw236_1)).trans hw236_1), ((HB.out.cell (World.block_lt_of_cell? w _ hw236_2)).trans hw236_2), ((HB.out.cell (World.block_lt_of_cell? w _ hw236_3)).trans hw236_3), ((HB.out.cell (World.block_lt_of_cell? w _ hw236_4)).trans hw236_4)⟩ (fun hHeld => ?_)
           clear hK K
           refine norm_ (a' := ?_) ?_ ?_
           rotate_left
           ·show Act.put _ (some 28) _ = _
            simp only [Act.put, List.setIfInBounds_toArray, List.set_cons_zero, List.set_cons_succ, i64_w, i32_w]
            rfl
           refine pure_ (i := 6) (N := some 22) (v := ?_) (a' := ?_) #[true, true, true, true, true, true, true, false, false, false, false, false] rfl rfl (any_of HT_.out (by kernel_rfl)) (fun _ _ _ h => h) (Or.inl ⟨by rfl, ?_⟩) ?_ ?_
           rotate_left
           ·intro w'
            go_simp
            with_reducible rfl
           rotate_left
           ·simp only [Act.put, List.setIfInBounds_toArray, List.set_cons_zero, List.set_cons_succ, i64_w, i32_w]
            rfl
           refine pure_ (i := 7) (N := some 29) (v := ?_) (a' := ?_) #[true, true, true, true, true, true, true, true, false, false, false, false] rfl rfl (any_of HT_.out (by kernel_rfl)) (fun _ _ _ h => h) (Or.inl ⟨by rfl, ?_⟩) ?_ ?_
           rotate_left
           ·intro w'
            go_simp
            with_reducible rfl
           rotate_left
           ·simp only [Act.put, List.setIfInBounds_toArray, List.set_cons_zero, List.set_cons_succ, i64_w, i32_w]
            rfl
           refine pure_ (i := 8) (N := some 30) (v := ?_) (a' := ?_) #[true, true, true, true, true, true, true, true, true, false, false, false] rfl rfl (any_of HT_.out (by kernel_rfl)) (fun _ _ _ h => h) (Or.inl ⟨by rfl, ?_⟩) ?_ ?_
           rotate_left
           ·intro w'
            go_simp
            with_reducible rfl
           rotate_left
           ·simp only [Act.put, List.setIfInBounds_toArray, List.set_cons_zero, List.set_cons_succ, i64_w, i32_w]
            rfl
           refine one_ (i := 9) (N := some 12) #[true, true, true, true, true, true, true, true, true, true, false, false] rfl rfl (one_of HT_.out (by kernel_rfl)) (by decide) (fun K hK => ?_)
           refine box_step ?hg (N := 12) ?hd (cs := #[.int .i64 0, .slice none 0 0]) (t := 88) ?hr ?_; (case hd => rfl); (case hg => rfl); (case hr => first | (go_simp; done) | (go_simp; rfl))
           intro gb242 hg w21 hbox hb
           have n0_ := a_ (Kd.R_below (r_ HO_7.out) hb)
           have n1_ := a_ (Kd.V_below (Kd.V_elderB (by (with_reducible repeat (first | apply Kd.V_alloc | apply Kd.V_drewN | apply Kd.V_drew)); exact HO_235001.out) gb242 (Nat.le_of_eq hg.symm)) hb)
           have n2_ := a_ (Kd.V_below (Kd.V_elderB (by (with_reducible repeat (first | apply Kd.V_alloc | apply Kd.V_drewN | apply Kd.V_drew)); exact HO241.out) gb242 (Nat.le_of_eq hg.symm)) hb)
           have n3_ := a_ (blk_below (g := gb234) (o := .cells #[.int .i64 x235000_1, .slice Ao18 x235001_1.length co18] 88 (0, 0)) (q_ BK234.out) hb)
           have n4_ := a_ (below_step b_ hb)
           have n5_ := a_ (hbox)
           have n6_ := a_ ((by rw [hg]; exact (below_size b_) : w.heap.size ≤ gb242))
           have n7_ := a_ ((by rw [hg]; exact (below_size b_) : w.heap.size ≤ gb242))
           have n8_ := a_ ((by rw [hg]; exact Nat.ne_of_lt (blk_lt (g := gb234) (o := .cells #[.int .i64 x235000_1, .slice Ao18 x235001_1.length co18] 88 (0, 0)) (q_ BK234.out)) : gb234 ≠ gb242))
           have n9_ := a_ ((by rw [hg]; exact Nat.ne_of_gt (blk_lt (g := gb234) (o := .cells #[.int .i64 x235000_1, .slice Ao18 x235001_1.length co18] 88 (0, 0)) (q_ BK234.out)) : gb242 ≠ gb234))
           clear HO_7; clear HO_235001; clear HO241; clear BK234; clear HB; have HO_7 := n0_; have HO_235001 := n1_; have HO241 := n2_; have BK234 := n3_; have HB := n4_; have BK242 := n5_; have GW242 := n6_; have GE242 := n7_; have NB234_242 := n8_; have NB242_234 := n9_; clear n0_ n1_ n2_ n3_ n4_ n5_ n6_ n7_ n8_ n9_; clear hb hbox hg
           refine hK.out _ _ ⟨(blk_cell BK234.out 0).trans rfl, (blk_cell BK234.out 1).trans rfl, ((HB.out.cell (World.block_lt_of_cell? w _ hw236_0)).trans hw236_0), ((HB.out.cell (World.block_lt_of_cell? w _ hw236_1)).trans hw236_1), ((HB.out.cell (World.block_lt_of_cell? w _ hw236_2)).trans hw236_2), ((HB.out.cell (World.block_lt_of_cell? w _ hw236_3)).trans hw236_3), ((HB.out.cell (World.block_lt_of_cell? w _ hw236_4)).trans hw236_4)⟩ (fun hHeld => ?_)
           clear hK K
           refine norm_ (a' := ?_) ?_ ?_
           rotate_left
           ·show Act.put _ (some 12) _ = _
            simp only [Act.put, List.setIfInBounds_toArray, List.set_cons_zero, List.set_cons_succ, i64_w, i32_w]
            rfl
           exact norm_ (by simp only [putAll, Act.put, List.setIfInBounds_toArray, List.set_cons_zero, List.set_cons_succ]) (hCont (v240, gb242) _ ⟨hHeld, (by (with_reducible repeat (first | apply Kd.V_alloc | apply Kd.V_drewN | apply Kd.V_drew)); exact Kd.V_mono HO241.out (fun _ hk => ⟨hk.1.1, ⟨hk.1.2, hk.2⟩⟩)), (by (with_reducible repeat (first | apply Kd.V_alloc | apply Kd.V_drewN | apply Kd.V_drew)); exact Kd.V_mono HO_235001.out (fun _ hk => ⟨hk.1.1, ⟨hk.1.2, hk.2⟩⟩)), (r_ HO_7.out), (q_ BK234.out), (q_ BK242.out), GW242.out, GE242.out, NB234_242.out, NB242_234.out, b_⟩)
          ·skip
           refine box_step ?hg (N := 12) ?hd (cs := #[.int .i64 0, .slice none 0 0]) (t := 88) ?hr ?_; (case hd => rfl); (case hg => rfl); (case hr => first | (go_simp; done) | (go_simp; rfl))
           intro gb242 hg w20 hbox hb
           have n0_ := a_ (Kd.R_below (r_ HO_7.out) hb)
           have n1_ := a_ (Kd.V_below (Kd.V_elderB (by (with_reducible repeat (first | apply Kd.V_alloc | apply Kd.V_drewN | apply Kd.V_drew)); exact HO_235001.out) gb242 (Nat.le_of_eq hg.symm)) hb)
           have n2_ := a_ (blk_below (g := gb234) (o := .cells #[.int .i64 x235000_1, .slice Ao18 x235001_1.length co18] 88 (0, 0)) (q_ BK234.out) hb)
           have n3_ := a_ (below_step b_ hb)
           have n4_ := a_ (hbox)
           have n5_ := a_ ((by rw [hg]; exact (below_size b_) : w.heap.size ≤ gb242))
           have n6_ := a_ ((by rw [hg]; exact (below_size b_) : w.heap.size ≤ gb242))
           have n7_ := a_ ((by rw [hg]; exact Nat.ne_of_lt (blk_lt (g := gb234) (o := .cells #[.int .i64 x235000_1, .slice Ao18 x235001_1.length co18] 88 (0, 0)) (q_ BK234.out)) : gb234 ≠ gb242))
           have n8_ := a_ ((by rw [hg]; exact Nat.ne_of_gt (blk_lt (g := gb234) (o := .cells #[.int .i64 x235000_1, .slice Ao18 x235001_1.length co18] 88 (0, 0)) (q_ BK234.out)) : gb242 ≠ gb234))
           clear HO_7; clear HO_235001; clear BK234; clear HB; have HO_7 := n0_; have HO_235001 := n1_; have BK234 := n2_; have HB := n3_; have BK242 := n4_; have GW242 := n5_; have GE242 := n6_; have NB234_242 := n7_; have NB242_234 := n8_; clear n0_ n1_ n2_ n3_ n4_ n5_ n6_ n7_ n8_; clear hb hbox hg
           refine hK.out _ _ ⟨(blk_cell BK234.out 0).trans rfl, (blk_cell BK234.out 1).trans rfl, ((HB.out.cell (World.block_lt_of_cell? w _ hw236_0)).trans hw236_0), ((HB.out.cell (World.block_lt_of_cell? w _ hw236_1)).trans hw236_1), ((HB.out.cell (World.block_lt_of_cell? w _ hw236_2)).trans hw236_2), ((HB.out.cell (World.block_lt_of_cell? w _ hw236_3)).trans hw236_3), ((HB.out.cell (World.block_lt_of_cell? w _ hw236_4)).trans hw236_4)⟩ (fun hHeld => ?_)
           clear hK K
           refine norm_ (a' := ?_) ?_ ?_
           rotate_left
           ·show Act.put _ (some 12) _ = _
            simp only [Act.put, List.setIfInBounds_toArray, List.set_cons_zero, List.set_cons_succ, i64_w, i32_w]
            rfl
           refine one_ (i := 5) (N := some 28) #[true, true, true, true, true, true, false, false, false, true, false, false] rfl rfl (one_of HT_.out (by kernel_rfl)) (by decide) (fun K hK => ?_)
           first | refine goes_ Try.func107 (by kernel_rfl) rfl #[.agg #[.int .i64 x235000_1, .slice Ao18 x235001_1.length co18], .agg #[.int .i64 ((rd_T77 l1 (rd l2 x18_1)).f0), .int .i64 ((rd_T77 l1 (rd l2 x18_1)).f1), .int .i64 ((rd_T77 l1 (rd l2 x18_1)).f2), .bool ((rd_T77 l1 (rd l2 x18_1)).f3), .float .f64 ((rd_T77 l1 (rd l2 x18_1)).f4)]] (by rfl) rfl rfl la_ ?_ | refine goesV_ Try.func107 (by kernel_rfl) rfl #[.agg #[.int .i64 x235000_1, .slice Ao18 x235001_1.length co18], .agg #[.int .i64 ((rd_T77 l1 (rd l2 x18_1)).f0), .int .i64 ((rd_T77 l1 (rd l2 x18_1)).f1), .int .i64 ((rd_T77 l1 (rd l2 x18_1)).f2), .bool ((rd_T77 l1 (rd l2 x18_1)).f3), .float .f64 ((rd_T77 l1 (rd l2 x18_1)).f4)]] (by rfl) rfl rfl (by rfl) (by first | rfl | (simp only [List.map_toArray, List.map_cons, List.map_nil]; rfl)) ?_
           with_reducible refine (impl_object_play.calls k1 x235000_1 (fun k_ => ((some k_ ≠ (u7 : Value).ownBlock ∧ k_ ≠ gb234) ∧ k_ ≠ gb242)) _ _ x235001_1 ((rd_T77 l1 (rd l2 x18_1)).f0) ((rd_T77 l1 (rd l2 x18_1)).f1) ((rd_T77 l1 (rd l2 x18_1)).f2) ((rd_T77 l1 (rd l2 x18_1)).f3) ((rd_T77 l1 (rd l2 x18_1)).f4) t237 t238 t239 _ ?side1 A16.out).mono ?_
           (case side1 => exact HO_235001.out)
           rintro e w21 ⟨v240, rfl, ho0, hb⟩
           refine ⟨_, rfl, ?_⟩
           have n0_ := a_ (Kd.R_below (r_ HO_7.out) hb)
           have n1_ := a_ (Kd.V_below (by (with_reducible repeat (first | apply Kd.V_alloc | apply Kd.V_drewN | apply Kd.V_drew)); exact HO_235001.out) hb)
           have n2_ := a_ (Kd.V_lower (Kd.V_mono (ok' := fun k_ => some k_ ≠ (u7 : Value).ownBlock ∧ k_ ≠ gb234 ∧ k_ ≠ gb242) ho0 (fun k_ hk_ => ⟨Or.elim hk_ (fun hs_ => hs_.1.1) (fun hn_ => (Kd.fresh' (Kd.R_lt (r_ HO_7.out)) k_ hn_)), Or.elim hk_ (fun hs_ => hs_.1.2) (fun hn_ => (Kd.freshB (g := gb234) (o := .cells #[.int .i64 x235000_1, .slice Ao18 x235001_1.length co18] 88 (0, 0)) (q_ BK234.out) k_ hn_)), Or.elim hk_ (fun hs_ => hs_.2) (fun hn_ => (Kd.freshB (g := gb242) (o := .cells #[.int .i64 0, .slice none 0 0] 88 (0, 0)) (q_ BK242.out) k_ hn_))⟩)) (below_size b_))
           have n3_ := a_ (blk_below (g := gb234) (o := .cells #[.int .i64 x235000_1, .slice Ao18 x235001_1.length co18] 88 (0, 0)) (q_ BK234.out) hb)
           have n4_ := a_ (blk_below (g := gb242) (o := .cells #[.int .i64 0, .slice none 0 0] 88 (0, 0)) (q_ BK242.out) hb)
           have n5_ := a_ (below_step b_ hb)
           clear HO_7; clear HO_235001; clear BK234; clear BK242; clear HB; have HO_7 := n0_; have HO_235001 := n1_; have HO241 := n2_; have BK234 := n3_; have BK242 := n4_; have HB := n5_; clear n0_ n1_ n2_ n3_ n4_ n5_; (try clear hb); (try clear hb2); (try clear hk); (try clear hi); (try clear ho0)
           refine hK.out _ _ ⟨(blk_cell BK234.out 0).trans rfl, (blk_cell BK234.out 1).trans rfl, ((HB.out.cell (World.block_lt_of_cell? w _ hw236_0)).trans hw236_0), ((HB.out.cell (World.block_lt_of_cell? w _ hw236_1)).trans hw236_1), ((HB.out.cell (World.block_lt_of_cell? w _ hw236_2)).trans hw236_2), ((HB.out.cell (World.block_lt_of_cell? w _ hw236_3)).trans hw236_3), ((HB.out.cell (World.block_lt_of_cell? w _ hw236_4)).trans hw236_4)⟩ (fun hHeld => ?_)
           clear hK K
           refine norm_ (a' := ?_) ?_ ?_
           rotate_left
           ·show Act.put _ (some 28) _ = _
            simp only [Act.put, List.setIfInBounds_toArray, List.set_cons_zero, List.set_cons_succ, i64_w, i32_w]
            rfl
           refine pure_ (i := 6) (N := some 22) (v := ?_) (a' := ?_) #[true, true, true, true, true, true, true, false, false, true, false, false] rfl rfl (any_of HT_.out (by kernel_rfl)) (fun _ _ _ h => h) (Or.inl ⟨by rfl, ?_⟩) ?_ ?_
           rotate_left
           ·intro w'
            go_simp
            with_reducible rfl
           rotate_left
           ·simp only [Act.put, List.setIfInBounds_toArray, List.set_cons_zero, List.set_cons_succ, i64_w, i32_w]
            rfl
           refine pure_ (i := 7) (N := some 29) (v := ?_) (a' := ?_) #[true, true, true, true, true, true, true, true, false, true, false, false] rfl rfl (any_of HT_.out (by kernel_rfl)) (fun _ _ _ h => h) (Or.inl ⟨by rfl, ?_⟩) ?_ ?_
           rotate_left
           ·intro w'
            go_simp
            with_reducible rfl
           rotate_left
           ·simp only [Act.put, List.setIfInBounds_toArray, List.set_cons_zero, List.set_cons_succ, i64_w, i32_w]
            rfl
           refine pure_ (i := 8) (N := some 30) (v := ?_) (a' := ?_) #[true, true, true, true, true, true, true, true, true, true, false, false] rfl rfl (any_of HT_.out (by kernel_rfl)) (fun _ _ _ h => h) (Or.inl ⟨by rfl, ?_⟩) ?_ ?_
           rotate_left
           ·intro w'
            go_simp
            with_reducible rfl
           rotate_left
           ·simp only [Act.put, List.setIfInBounds_toArray, List.set_cons_zero, List.set_cons_succ, i64_w, i32_w]
            rfl
           exact norm_ (by simp only [putAll, Act.put, List.setIfInBounds_toArray, List.set_cons_zero, List.set_cons_succ]) (hCont (v240, gb242) _ ⟨hHeld, (by (with_reducible repeat (first | apply Kd.V_alloc | apply Kd.V_drewN | apply Kd.V_drew)); exact HO241.out), (by (with_reducible repeat (first | apply Kd.V_alloc | apply Kd.V_drewN | apply Kd.V_drew)); exact Kd.V_mono HO_235001.out (fun _ hk => ⟨hk.1.1, ⟨hk.1.2, hk.2⟩⟩)), (r_ HO_7.out), (q_ BK234.out), (q_ BK242.out), GW242.out, GE242.out, NB234_242.out, NB242_234.out, b_⟩)
         rintro ⟨v240, gb242⟩ w22 ⟨hS_, h0_, h1_, h2_, h3_, h4_, h5_, h6_, h7_, h8_, h9_⟩
         have n0_ : Aside0 (Kd.V Kd.float 55 w22 w.heap.size (fun k_ => some k_ ≠ (u7 : Value).ownBlock ∧ k_ ≠ gb234 ∧ k_ ≠ gb242) v240 t239) := ⟨h0_⟩
         have n1_ : Aside0 (Kd.V Kd.float 55 w22 w.heap.size (fun k_ => some k_ ≠ (u7 : Value).ownBlock ∧ k_ ≠ gb234 ∧ k_ ≠ gb242) (.slice Ao18 x235001_1.length co18) x235001_1) := ⟨h1_⟩
         have n2_ : Aside0 (Kd.R Kd.float 55 w22 w.heap.size (fun _ => True) u7 x7_1) := ⟨h2_⟩
         have n3_ : Aside0 (w22.heap[gb234]? = some (.cells #[.int .i64 x235000_1, .slice Ao18 x235001_1.length co18] 88 (0, 0))) := ⟨h3_⟩
         have n4_ : Aside0 (w22.heap[gb242]? = some (.cells #[.int .i64 0, .slice none 0 0] 88 (0, 0))) := ⟨h4_⟩
         have n5_ : Aside0 (w.heap.size ≤ gb242) := ⟨h5_⟩
         have n6_ : Aside0 (w.heap.size ≤ gb242) := ⟨h6_⟩
         have n7_ : Aside0 (gb234 ≠ gb242) := ⟨h7_⟩
         have n8_ : Aside0 (gb242 ≠ gb234) := ⟨h8_⟩
         have n9_ : Aside0 (Below w.heap.size w w22) := ⟨h9_⟩
         clear HO_7; clear HO_235001; clear BK234; clear HB; clear h0_ h1_ h2_ h3_ h4_ h5_ h6_ h7_ h8_ h9_; have HO241 := n0_; have HO_235001 := n1_; have HO_7 := n2_; have BK234 := n3_; have BK242 := n4_; have GW242 := n5_; have GE242 := n6_; have NB234_242 := n7_; have NB242_234 := n8_; have HB := n9_; clear n0_ n1_ n2_ n3_ n4_ n5_ n6_ n7_ n8_ n9_
         have hHeld : w22.cell? ⟨gb234, 0, none⟩ = some (.int .i64 x235000_1) ∧ w22.cell? ⟨gb234, 1, none⟩ = some (.slice Ao18 x235001_1.length co18) ∧ w22.cell? (ad236.add (((rd l2 x18_1)).toNat * 5)) = some (.int .i64 ((rd_T77 l1 (rd l2 x18_1)).f0)) ∧ w22.cell? ⟨(ad236.add (((rd l2 x18_1)).toNat * 5)).block, (ad236.add (((rd l2 x18_1)).toNat * 5)).off + 1, none⟩ = some (.int .i64 ((rd_T77 l1 (rd l2 x18_1)).f1)) ∧ w22.cell? ⟨(ad236.add (((rd l2 x18_1)).toNat * 5)).block, (ad236.add (((rd l2 x18_1)).toNat * 5)).off + 2, none⟩ = some (.int .i64 ((rd_T77 l1 (rd l2 x18_1)).f2)) ∧ w22.cell? ⟨(ad236.add (((rd l2 x18_1)).toNat * 5)).block, (ad236.add (((rd l2 x18_1)).toNat * 5)).off + 3, none⟩ = some (.bool ((rd_T77 l1 (rd l2 x18_1)).f3)) ∧ w22.cell? ⟨(ad236.add (((rd l2 x18_1)).toNat * 5)).block, (ad236.add (((rd l2 x18_1)).toNat * 5)).off + 4, none⟩ = some (.float .f64 ((rd_T77 l1 (rd l2 x18_1)).f4)) := hS_
         obtain ⟨Ao24, co24, eo24⟩ := Kd.V_slice HO241.out
         (first | subst eo24 | (injection eo24 with f1_ f2_ f3_; have f4_ := f1_.symm; have f5_ := f3_.symm; clear f1_ f2_ f3_; subst f4_; subst f5_))
         refine norm_ (a' := ?_) ?_ ?_
         rotate_left
         ·simp only [putAll, Act.put, List.setIfInBounds_toArray, List.set_cons_zero, List.set_cons_succ]
          rfl
         refine pure_ (i := 10) (N := some 11) (v := ?_) (a' := ?_) #[true, true, true, true, true, true, true, true, true, true, true, false] rfl rfl (any_of HT_.out (by kernel_rfl)) (fun _ _ _ h => h) (Or.inl ⟨by rfl, ?_⟩) ?_ ?_
         rotate_left
         ·intro w'
          go_simp
          with_reducible rfl
         rotate_left
         ·simp only [Act.put, List.setIfInBounds_toArray, List.set_cons_zero, List.set_cons_succ, i64_w, i32_w]
          rfl
         refine one_ (i := 11) (N := none) #[true, true, true, true, true, true, true, true, true, true, true, true] rfl rfl (one_of HT_.out (by kernel_rfl)) (by decide) (fun K hK => ?_)
         have hs23 : w22.cell? ⟨gb242, 0, none⟩ = some (.int .i64 0) := (blk_cell BK242.out 0).trans rfl
         have hfs23 := blk_frozen BK242.out 0
         have hns23_0 := NB234_242.out; have hms23_0 := NB242_234.out
         have hs25 : w22.cell? ⟨gb242, 1, none⟩ = some (.slice none 0 0) := (blk_cell BK242.out 1).trans rfl
         have hfs25 := blk_frozen BK242.out 1
         have hns25_0 := NB234_242.out; have hms25_0 := NB242_234.out
         refine skip_ (w1 := ?_) (by rfl) rfl ?_ ?_
         rotate_left
         ·go_simp
          rfl
         refine hK.out _ _ ⟨((cell_far (p := ⟨gb242, _, none⟩) NB234_242.out _).trans (((cell_far (p := ⟨gb242, _, none⟩) NB234_242.out _).trans (hHeld.1)))), ((cell_far (p := ⟨gb242, _, none⟩) NB234_242.out _).trans (((cell_far (p := ⟨gb242, _, none⟩) NB234_242.out _).trans (hHeld.2.1)))), ((cell_far (p := ⟨gb242, _, none⟩) (by first | exact Nat.ne_of_lt (Nat.lt_of_lt_of_le (by have := World.block_lt_of_cell? _ _ hw236_0; first | rwa [add_block] at this | exact this) GW242.out) | (rw [add_block]; exact Nat.ne_of_lt (Nat.lt_of_lt_of_le (by have := World.block_lt_of_cell? _ _ hw236_0; first | rwa [add_block] at this | exact this) GW242.out)) | (show (Addr.add _ _).block ≠ _; rw [add_block]; exact Nat.ne_of_lt (Nat.lt_of_lt_of_le (by have := World.block_lt_of_cell? _ _ hw236_0; first | rwa [add_block] at this | exact this) GW242.out)) | (dsimp only; exact Nat.ne_of_lt (Nat.lt_of_lt_of_le (by have := World.block_lt_of_cell? _ _ hw236_0; first | rwa [add_block] at this | exact this) GW242.out))) _).trans (((cell_far (p := ⟨gb242, _, none⟩) (by first | exact Nat.ne_of_lt (Nat.lt_of_lt_of_le (by have := World.block_lt_of_cell? _ _ hw236_0; first | rwa [add_block] at this | exact this) GW242.out) | (rw [add_block]; exact Nat.ne_of_lt (Nat.lt_of_lt_of_le (by have := World.block_lt_of_cell? _ _ hw236_0; first | rwa [add_block] at this | exact this) GW242.out)) | (show (Addr.add _ _).block ≠ _; rw [add_block]; exact Nat.ne_of_lt (Nat.lt_of_lt_of_le (by have := World.block_lt_of_cell? _ _ hw236_0; first | rwa [add_block] at this | exact this) GW242.out)) | (dsimp only; exact Nat.ne_of_lt (Nat.lt_of_lt_of_le (by have := World.block_lt_of_cell? _ _ hw236_0; first | rwa [add_block] at this | exact this) GW242.out))) _).trans (hHeld.2.2.1)))), ((cell_far (p := ⟨gb242, _, none⟩) (by first | exact Nat.ne_of_lt (Nat.lt_of_lt_of_le (by have := World.block_lt_of_cell? _ _ hw236_1; first | rwa [add_block] at this | exact this) GW242.out) | (rw [add_block]; exact Nat.ne_of_lt (Nat.lt_of_lt_of_le (by have := World.block_lt_of_cell? _ _ hw236_1; first | rwa [add_block] at this | exact this) GW242.out)) | (show (Addr.add _ _).block ≠ _; rw [add_block]; exact Nat.ne_of_lt (Nat.lt_of_lt_of_le (by have := World.block_lt_of_cell? _ _ hw236_1; first | rwa [add_block] at this | exact this) GW242.out)) | (dsimp only; exact Nat.ne_of_lt (Nat.lt_of_lt_of_le (by have := World.block_lt_of_cell? _ _ hw236_1; first | rwa [add_block] at this | exact this) GW242.out))) _).trans (((cell_far (p := ⟨gb242, _, none⟩) (by first | exact Nat.ne_of_lt (Nat.lt_of_lt_of_le (by have := World.block_lt_of_cell? _ _ hw236_1; first | rwa [add_block] at this | exact this) GW242.out) | (rw [add_block]; exact Nat.ne_of_lt (Nat.lt_of_lt_of_le (by have := World.block_lt_of_cell? _ _ hw236_1; first | rwa [add_block] at this | exact this) GW242.out)) | (show (Addr.add _ _).block ≠ _; rw [add_block]; exact Nat.ne_of_lt (Nat.lt_of_lt_of_le (by have := World.block_lt_of_cell? _ _ hw236_1; first | rwa [add_block] at this | exact this) GW242.out)) | (dsimp only; exact Nat.ne_of_lt (Nat.lt_of_lt_of_le (by have := World.block_lt_of_cell? _ _ hw236_1; first | rwa [add_block] at this | exact this) GW242.out))) _).trans (hHeld.2.2.2.1)))), ((cell_far (p := ⟨gb242, _, none⟩) (by first | exact Nat.ne_of_lt (Nat.lt_of_lt_of_le (by have := World.block_lt_of_cell? _ _ hw236_2; first | rwa [add_block] at this | exact this) GW242.out) | (rw [add_block]; exact Nat.ne_of_lt (Nat.lt_of_lt_of_le (by have := World.block_lt_of_cell? _ _ hw236_2; first | rwa [add_block] at this | exact this) GW242.out)) | (show (Addr.add _ _).block ≠ _; rw [add_block]; exact Nat.ne_of_lt (Nat.lt_of_lt_of_le (by have := World.block_lt_of_cell? _ _ hw236_2; first | rwa [add_block] at this | exact this) GW242.out)) | (dsimp only; exact Nat.ne_of_lt (Nat.lt_of_lt_of_le (by have := World.block_lt_of_cell? _ _ hw236_2; first | rwa [add_block] at this | exact this) GW242.out))) _).trans (((cell_far (p := ⟨gb242, _, none⟩) (by first | exact Nat.ne_of_lt (Nat.lt_of_lt_of_le (by have := World.block_lt_of_cell? _ _ hw236_2; first | rwa [add_block] at this | exact this) GW242.out) | (rw [add_block]; exact Nat.ne_of_lt (Nat.lt_of_lt_of_le (by have := World.block_lt_of_cell? _ _ hw236_2; first | rwa [add_block] at this | exact this) GW242.out)) | (show (Addr.add _ _).block ≠ _; rw [add_block]; exact Nat.ne_of_lt (Nat.lt_of_lt_of_le (by have := World.block_lt_of_cell? _ _ hw236_2; first | rwa [add_block] at this | exact this) GW242.out)) | (dsimp only; exact Nat.ne_of_lt (Nat.lt_of_lt_of_le (by have := World.block_lt_of_cell? _ _ hw236_2; first | rwa [add_block] at this | exact this) GW242.out))) _).trans (hHeld.2.2.2.2.1)))), ((cell_far (p := ⟨gb242, _, none⟩) (by first | exact Nat.ne_of_lt (Nat.lt_of_lt_of_le (by have := World.block_lt_of_cell? _ _ hw236_3; first | rwa [add_block] at this | exact this) GW242.out) | (rw [add_block]; exact Nat.ne_of_lt (Nat.lt_of_lt_of_le (by have := World.block_lt_of_cell? _ _ hw236_3; first | rwa [add_block] at this | exact this) GW242.out)) | (show (Addr.add _ _).block ≠ _; rw [add_block]; exact Nat.ne_of_lt (Nat.lt_of_lt_of_le (by have := World.block_lt_of_cell? _ _ hw236_3; first | rwa [add_block] at this | exact this) GW242.out)) | (dsimp only; exact Nat.ne_of_lt (Nat.lt_of_lt_of_le (by have := World.block_lt_of_cell? _ _ hw236_3; first | rwa [add_block] at this | exact this) GW242.out))) _).trans (((cell_far (p := ⟨gb242, _, none⟩) (by first | exact Nat.ne_of_lt (Nat.lt_of_lt_of_le (by have := World.block_lt_of_cell? _ _ hw236_3; first | rwa [add_block] at this | exact this) GW242.out) | (rw [add_block]; exact Nat.ne_of_lt (Nat.lt_of_lt_of_le (by have := World.block_lt_of_cell? _ _ hw236_3; first | rwa [add_block] at this | exact this) GW242.out)) | (show (Addr.add _ _).block ≠ _; rw [add_block]; exact Nat.ne_of_lt (Nat.lt_of_lt_of_le (by have := World.block_lt_of_cell? _ _ hw236_3; first | rwa [add_block] at this | exact this) GW242.out)) | (dsimp only; exact Nat.ne_of_lt (Nat.lt_of_lt_of_le (by have := World.block_lt_of_cell? _ _ hw236_3; first | rwa [add_block] at this | exact this) GW242.out))) _).trans (hHeld.2.2.2.2.2.1)))), ((cell_far (p := ⟨gb242, _, none⟩) (by first | exact Nat.ne_of_lt (Nat.lt_of_lt_of_le (by have := World.block_lt_of_cell? _ _ hw236_4; first | rwa [add_block] at this | exact this) GW242.out) | (rw [add_block]; exact Nat.ne_of_lt (Nat.lt_of_lt_of_le (by have := World.block_lt_of_cell? _ _ hw236_4; first | rwa [add_block] at this | exact this) GW242.out)) | (show (Addr.add _ _).block ≠ _; rw [add_block]; exact Nat.ne_of_lt (Nat.lt_of_lt_of_le (by have := World.block_lt_of_cell? _ _ hw236_4; first | rwa [add_block] at this | exact this) GW242.out)) | (dsimp only; exact Nat.ne_of_lt (Nat.lt_of_lt_of_le (by have := World.block_lt_of_cell? _ _ hw236_4; first | rwa [add_block] at this | exact this) GW242.out))) _).trans (((cell_far (p := ⟨gb242, _, none⟩) (by first | exact Nat.ne_of_lt (Nat.lt_of_lt_of_le (by have := World.block_lt_of_cell? _ _ hw236_4; first | rwa [add_block] at this | exact this) GW242.out) | (rw [add_block]; exact Nat.ne_of_lt (Nat.lt_of_lt_of_le (by have := World.block_lt_of_cell? _ _ hw236_4; first | rwa [add_block] at this | exact this) GW242.out)) | (show (Addr.add _ _).block ≠ _; rw [add_block]; exact Nat.ne_of_lt (Nat.lt_of_lt_of_le (by have := World.block_lt_of_cell? _ _ hw236_4; first | rwa [add_block] at this | exact this) GW242.out)) | (dsimp only; exact Nat.ne_of_lt (Nat.lt_of_lt_of_le (by have := World.block_lt_of_cell? _ _ hw236_4; first | rwa [add_block] at this | exact this) GW242.out))) _).trans (hHeld.2.2.2.2.2.2))))⟩ (fun hHeld => ?_)
         clear hK K
         refine done_ (done_of HT_.out (by kernel_rfl)) ?_
         try go_wp2
         have n0_ : Aside0 (Kd.R Kd.float 55 ((w22.setCell ⟨gb242, 0, none⟩ (.int .i64 t238)).setCell ⟨gb242, 1, none⟩ (.slice Ao24 t239.length co24)) w.heap.size (fun _ => True) u7 x7_1) := ⟨by refine r_ ?_; exact Kd.R_mono (Kd.R_far (p := ⟨gb242, 1, none⟩) (Kd.R_far (p := ⟨gb242, 0, none⟩) (Kd.R_types HO_7.out BK242.out (by decide)) (fun _ hk => hk.2) (.int .i64 t238)) (fun _ hk => hk.2) (.slice Ao24 t239.length co24)) (fun _ hk => trivial)⟩
         have n1_ : Aside0 (Kd.V Kd.float 55 ((w22.setCell ⟨gb242, 0, none⟩ (.int .i64 t238)).setCell ⟨gb242, 1, none⟩ (.slice Ao24 t239.length co24)) w.heap.size (fun k_ => some k_ ≠ (u7 : Value).ownBlock ∧ k_ ≠ gb234 ∧ k_ ≠ gb242) (.slice Ao18 x235001_1.length co18) x235001_1) := ⟨by (with_reducible repeat (first | apply Kd.V_alloc | apply Kd.V_drewN | apply Kd.V_drew)); exact Kd.V_mono (Kd.V_far (p := ⟨gb242, 1, none⟩) (Kd.V_far (p := ⟨gb242, 0, none⟩) (Kd.V_mono HO_235001.out (fun k_ hk => (⟨hk, hk.2.2⟩ : _ ∧ k_ ≠ gb242))) (fun _ hk => hk.2) (.int .i64 t238)) (fun _ hk => hk.2) (.slice Ao24 t239.length co24)) (fun _ hk => ⟨hk.1.1, ⟨hk.1.2.1, hk.1.2.2⟩⟩)⟩
         have n2_ : Aside0 (Kd.V Kd.float 55 ((w22.setCell ⟨gb242, 0, none⟩ (.int .i64 t238)).setCell ⟨gb242, 1, none⟩ (.slice Ao24 t239.length co24)) w.heap.size (fun k_ => some k_ ≠ (u7 : Value).ownBlock ∧ k_ ≠ gb234 ∧ k_ ≠ gb242) (.slice Ao24 t239.length co24) t239) := ⟨by (with_reducible repeat (first | apply Kd.V_alloc | apply Kd.V_drewN | apply Kd.V_drew)); exact Kd.V_mono (Kd.V_far (p := ⟨gb242, 1, none⟩) (Kd.V_far (p := ⟨gb242, 0, none⟩) (Kd.V_mono HO241.out (fun k_ hk => (⟨hk, hk.2.2⟩ : _ ∧ k_ ≠ gb242))) (fun _ hk => hk.2) (.int .i64 t238)) (fun _ hk => hk.2) (.slice Ao24 t239.length co24)) (fun _ hk => ⟨hk.1.1, ⟨hk.1.2.1, hk.1.2.2⟩⟩)⟩
         have n3_ : Aside0 (((w22.setCell ⟨gb242, 0, none⟩ (.int .i64 t238)).setCell ⟨gb242, 1, none⟩ (.slice Ao24 t239.length co24)).heap[gb234]? = some (.cells #[.int .i64 x235000_1, .slice Ao18 x235001_1.length co18] 88 (0, 0))) := ⟨by refine q_ ?_; refine blk_far ?_ NB234_242.out _; refine q_ ?_; refine blk_far ?_ NB234_242.out _; exact q_ BK234.out⟩
         have n4_ : Aside0 (((w22.setCell ⟨gb242, 0, none⟩ (.int .i64 t238)).setCell ⟨gb242, 1, none⟩ (.slice Ao24 t239.length co24)).heap[gb242]? = some (.cells #[.int .i64 t238, .slice Ao24 t239.length co24] 88 (0, 0))) := ⟨by refine q_ ?_; refine blk_put (cs := #[.int .i64 t238, .slice none 0 0]) ?_ 1 _ rfl; refine q_ ?_; refine blk_put (cs := #[.int .i64 0, .slice none 0 0]) ?_ 0 _ rfl; exact q_ BK242.out⟩
         have n5_ : Aside0 (Below w.heap.size w ((w22.setCell ⟨gb242, 0, none⟩ (.int .i64 t238)).setCell ⟨gb242, 1, none⟩ (.slice Ao24 t239.length co24))) := ⟨b_⟩
         (try clear HO_7); (try clear HO_235001); (try clear HO241); (try clear BK234); (try clear BK242); (try clear HB)
         generalize ((w22.setCell ⟨gb242, 0, none⟩ (.int .i64 t238)).setCell ⟨gb242, 1, none⟩ (.slice Ao24 t239.length co24)) = w26 at n0_ n1_ n2_ n3_ n4_ n5_ ⊢
         have HO_7 := n0_; have HO_235001 := n1_; have HO241 := n2_; have BK234 := n3_; have BK242 := n4_; have HB := n5_; clear n0_ n1_ n2_ n3_ n4_ n5_
         have n0_ := a_ (Kd.R_drew HO_7.out)
         have n1_ := a_ (Kd.V_drew HO_235001.out)
         have n2_ := a_ (Kd.V_drew HO241.out)
         have n3_ := a_ (blk_drew BK234.out)
         have n4_ := a_ (blk_drew BK242.out)
         have n5_ := a_ (below_drew1 HB.out)
         clear HO_7; clear HO_235001; clear HO241; clear BK234; clear BK242; clear HB; have HO_7 := n0_; have HO_235001 := n1_; have HO241 := n2_; have BK234 := n3_; have BK242 := n4_; have HB := n5_; clear n0_ n1_ n2_ n3_ n4_ n5_
         refine start_ (n := 7) (S := fun w' => w'.cell? ⟨gb242, 0, none⟩ = some (.int .i64 t238) ∧ w'.cell? ⟨gb242, 1, none⟩ = some (.slice Ao24 t239.length co24)) (ds := []) #[false, false, false, false, false, false, false] (by kernel_rfl) rfl rfl ⟨(blk_cell BK242.out 0).trans rfl, (blk_cell BK242.out 1).trans rfl⟩ (fun hHeld => ?_)
         generalize w26.drew = w27 at HO_7 HO_235001 HO241 BK234 BK242 HB hHeld ⊢
         refine pure_ (i := 0) (N := some 31) (v := ?_) (a' := ?_) #[true, false, false, false, false, false, false] rfl rfl (by kernel_rfl) (fun _ _ _ h => h) (Or.inl ⟨by rfl, ?_⟩) ?_ ?_
         rotate_left
         ·intro w'
          go_simp
          with_reducible rfl
         rotate_left
         ·simp only [Act.put, List.setIfInBounds_toArray, List.set_cons_zero, List.set_cons_succ, i64_w, i32_w]
          rfl
         refine pure_ (i := 1) (N := some 32) (v := ?_) (a' := ?_) #[true, true, false, false, false, false, false] rfl rfl (by kernel_rfl) (fun _ _ _ h => h) (Or.inl ⟨by rfl, ?_⟩) ?_ ?_
         rotate_left
         ·intro w'
          go_simp
          with_reducible rfl
         rotate_left
         ·simp only [Act.put, List.setIfInBounds_toArray, List.set_cons_zero, List.set_cons_succ, i64_w, i32_w]
          rfl
         refine take_ (i := 4) (N := some 35) (v := ?_) (a' := ?_) #[true, true, false, false, true, false, false] rfl rfl (by kernel_rfl) (fun _ _ _ h => h) (Or.inl ⟨by rfl, ?_⟩) hHeld ?_ ?_
         rotate_left
         ·rintro w' ⟨s0, s1⟩
          go_simp
          with_reducible rfl
         rotate_left
         ·simp only [Act.put, List.setIfInBounds_toArray, List.set_cons_zero, List.set_cons_succ, i64_w, i32_w]
          rfl
         refine one_ (i := 2) (N := some 33) #[true, true, true, false, true, false, false] rfl rfl (by kernel_rfl) (by decide) (fun K hK => ?_)
         refine value_ (w1 := ?_) (v := ?_) (by rfl) rfl ?_ ?_
         rotate_left 2
         ·go_simp
          constructor
          ·rfl
          ·rfl
         refine hK.out _ _ ⟨(blk_cell (blk_alloc BK242.out _) 0).trans rfl, (blk_cell (blk_alloc BK242.out _) 1).trans rfl⟩ (fun hHeld => ?_)
         clear hK K
         refine norm_ (a' := ?_) ?_ ?_
         rotate_left
         ·show Act.put _ (some 33) _ = _
          simp only [Act.put, List.setIfInBounds_toArray, List.set_cons_zero, List.set_cons_succ, i64_w, i32_w]
          rfl
         refine one_ (i := 3) (N := some 34) #[true, true, true, true, true, false, false] rfl rfl (by kernel_rfl) (by decide) (fun K hK => ?_)
         refine Kd.R_append_step Kd.float (w0 := w) w.heap.size (by rfl) (.tmp 31) (.tmp 33) 25 55 (.float .f64 0) 8 rfl Try.underlying25 info55 rfl (by decide) (by omega) u7 x7_1 t237 [.float .f64 t237] (fun _ => True) (fun _ => False) rfl rfl ?aP (fun _ hk => hk.elim) ?aF ?aO ?aB ?aS ?aL ?_
         (case aP => exact rfl)
         (case aB => exact b_)
         (case aF => exact (fun _ _ => trivial))
         (case aO => exact (r_ HO_7.out))
         (case aS => exact (below_size b_))
         (case aL => have := LMc17.out; omega)
         intro v244 w28 ho hb hg hat
         rw [← Ny243.out] at ho
         have n0_ := a_ (Kd.V_afterv (ok := (fun k_ => k_ ≠ gb234 ∧ k_ ≠ gb242)) (by (with_reducible repeat (first | apply Kd.V_alloc | apply Kd.V_drewN | apply Kd.V_drew)); exact Kd.V_mono HO_235001.out (fun _ hk => ⟨⟨hk.2.1, hk.2.2⟩, hk.1⟩)) hg hat)
         have n1_ := a_ (blk_grown (g := gb234) (o := .cells #[.int .i64 x235000_1, .slice Ao18 x235001_1.length co18] 88 (0, 0)) (q_ BK234.out) hg (Kd.R_ne HO_7.out BK234.out (by decide)))
         have n2_ := a_ (Kd.V_afterv (ok := (fun k_ => k_ ≠ gb234 ∧ k_ ≠ gb242)) (by (with_reducible repeat (first | apply Kd.V_alloc | apply Kd.V_drewN | apply Kd.V_drew)); exact Kd.V_mono HO241.out (fun _ hk => ⟨⟨hk.2.1, hk.2.2⟩, hk.1⟩)) hg hat)
         have n3_ := a_ (blk_grown (g := gb242) (o := .cells #[.int .i64 t238, .slice Ao24 t239.length co24] 88 (0, 0)) (q_ BK242.out) hg (Kd.R_ne HO_7.out BK242.out (by decide)))
         have n4_ := a_ (hb)
         have n5_ := a_ (ho)
         clear HO_235001; clear BK234; clear HO241; clear BK242; clear HB; clear HO_7; have HO_235001 := n0_; have BK234 := n1_; have HO241 := n2_; have BK242 := n3_; have HB := n4_; have HO245 := n5_; clear n0_ n1_ n2_ n3_ n4_ n5_; clear ho hb hg hat
         refine hK.out _ _ ⟨(blk_cell BK242.out 0).trans rfl, (blk_cell BK242.out 1).trans rfl⟩ (fun hHeld => ?_)
         clear hK K
         refine norm_ (a' := ?_) ?_ ?_
         rotate_left
         ·show Act.put _ (some 34) _ = _
          simp only [Act.put, List.setIfInBounds_toArray, List.set_cons_zero, List.set_cons_succ, i64_w, i32_w]
          rfl
         refine pure_ (i := 5) (N := some 7) (v := ?_) (a' := ?_) #[true, true, true, true, true, true, false] rfl rfl (by kernel_rfl) (fun _ _ _ h => h) (Or.inl ⟨by rfl, ?_⟩) ?_ ?_
         rotate_left
         ·intro w'
          go_simp
          with_reducible rfl
         rotate_left
         ·simp only [Act.put, List.setIfInBounds_toArray, List.set_cons_zero, List.set_cons_succ, i64_w, i32_w]
          rfl
         refine one_ (i := 6) (N := none) #[true, true, true, true, true, true, true] rfl rfl (by kernel_rfl) (by decide) (fun K hK => ?_)
         have hs29 : w28.cell? ⟨gb234, 0, none⟩ = some (.int .i64 x235000_1) := (blk_cell BK234.out 0).trans rfl
         have hfs29 := blk_frozen BK234.out 0
         have hns29_1 := NB242_234.out; have hms29_1 := NB234_242.out
         have hs30 : w28.cell? ⟨gb234, 1, none⟩ = some (.slice Ao18 x235001_1.length co18) := (blk_cell BK234.out 1).trans rfl
         have hfs30 := blk_frozen BK234.out 1
         have hns30_1 := NB242_234.out; have hms30_1 := NB234_242.out
         refine skip_ (w1 := ?_) (by rfl) rfl ?_ ?_
         rotate_left
         ·go_simp
          rfl
         refine hK.out _ _ ⟨((cell_far (p := ⟨gb234, _, none⟩) NB242_234.out _).trans (((cell_far (p := ⟨gb234, _, none⟩) NB242_234.out _).trans (hHeld.1)))), ((cell_far (p := ⟨gb234, _, none⟩) NB242_234.out _).trans (((cell_far (p := ⟨gb234, _, none⟩) NB242_234.out _).trans (hHeld.2))))⟩ (fun hHeld => ?_)
         clear hK K
         refine done_ (by kernel_rfl) ?_
         try go_wp2
         go_roundg k1
         case measure => have := HK1.out; omega
         case rel => exact ⟨(y243), (wrap64 (x18_1 + 1)), (t238), (t239), (.slice Ao24 t239.length co24), (by first | rfl | (simp; done) | (simp [*]; done)), H', ⟨by have := HK1.out; omega⟩, ⟨by refine r_ ?_; exact Kd.R_mono (Kd.R_far (p := ⟨gb234, 1, none⟩) (Kd.R_far (p := ⟨gb234, 0, none⟩) (Kd.R_types HO245.out BK234.out (by decide)) (fun _ hk => hk.2) (.int .i64 t238)) (fun _ hk => hk.2) (.slice Ao24 t239.length co24)) (fun _ hk => trivial)⟩, ⟨by (with_reducible repeat (first | apply Kd.V_alloc | apply Kd.V_drewN | apply Kd.V_drew)); exact Kd.V_mono (Kd.V_far (p := ⟨gb234, 1, none⟩) (Kd.V_far (p := ⟨gb234, 0, none⟩) (Kd.V_mono HO241.out (fun k_ hk => (⟨hk, hk.1.1⟩ : _ ∧ k_ ≠ gb234))) (fun _ hk => hk.2) (.int .i64 t238)) (fun _ hk => hk.2) (.slice Ao24 t239.length co24)) (fun _ hk => ⟨hk.1.2, hk.1.1.1⟩)⟩, ⟨by refine q_ ?_; refine blk_put (cs := #[.int .i64 t238, .slice Ao18 x235001_1.length co18]) ?_ 1 _ rfl; refine q_ ?_; refine blk_put (cs := #[.int .i64 x235000_1, .slice Ao18 x235001_1.length co18]) ?_ 0 _ rfl; exact q_ BK234.out⟩, ⟨b_⟩⟩
        ·rw [if_neg c17] at H
         exact absurd H (by simp)
       ·rw [if_neg c15] at H
        exact absurd H (by simp)
      ·rw [if_neg c14] at H
       exact absurd H (by simp)
     ·rw [if_neg c13] at H
      exact absurd H (by simp)
    ·rw [if_neg c12] at H
     exact absurd H (by simp)
   ·rw [if_neg c11] at H
    have c11b0 : decide (x18_1 < (l2.length : Int)) = false := decide_eq_false c11
    clear c11
    obtain rfl := Option.some.inj H
    go_wp2
    go_ret
    exact ⟨_, by first | rfl | (simp [errW_none, errW_some] <;> rfl) | (simp [*, errW_none, errW_some] <;> rfl), by exact r_ HO_7.out, b_⟩

/-! ### impl_PlayObject: function 13 -/
def impl_PlayObject.f (k : Nat) (a0 : Int) (l1 : List (S77)) (l2 : List Int) : Option (List Nat × Bool) := (impl_isKind.f a0).bind fun t246 => (if t246 = true then ((impl_GoodHistory.f k l1).bind fun t247 => (if t247 = true then ((impl_isOrder.f k l2 (l1.length : Int)).bind fun t248 => (if t248 = true then ((impl_toldBy.f k a0 l1 l2).bind fun t249 => (some (t249, true))) else (some (([] : List Nat), false)))) else (some (([] : List Nat), false)))) else (some (([] : List Nat), false)))
theorem impl_PlayObject.mono : ∀ a0 a1 a2 k, LeO (impl_PlayObject.f k a0 a1 a2) (impl_PlayObject.f (k + 1) a0 a1 a2) := by
 intro a0 a1 a2 k
 unfold impl_PlayObject.f
 repeat' first | (with_reducible exact impl_GoodHistory.mono _ _) | (with_reducible exact impl_isOrder.mono _ _ _) | (with_reducible exact impl_toldBy.mono _ _ _ _) | (with_reducible exact LeO.refl _) | (with_reducible exact LeO.none _) | (with_reducible refine LeO.ite ?_ ?_) | (with_reducible refine LeO.bind ?_ (fun _ => ?_)) | exact impl_GoodHistory.mono _ _ | exact impl_isOrder.mono _ _ _ | exact impl_toldBy.mono _ _ _ _ | exact LeO.none _ | refine LeO.ite ?_ ?_ | refine LeO.bind ?_ (fun _ => ?_)
set_option maxHeartbeats 8000000 in
set_option maxRecDepth 100000 in
theorem impl_PlayObject.calls (k : Nat) (a0 : Int) (A1 : Option Addr) (c1 : Nat) (l1 : List (S77)) (A2 : Option Addr) (c2 : Nat) (l2 : List Int) (r1 : List Nat) (r2 : Bool) (w : World) (hr1 : Kd.C k77 w A1 l1.length l1) (hc1 : l1.length ≤ c1) (hr2 : Kd.C (Kd.int .i64) w A2 l2.length l2) (hc2 : l2.length ≤ c2) (h : impl_PlayObject.f k a0 l1 l2 = some (r1, r2)) :
  Calls Try.prog 13 #[.int .i64 a0, .slice A1 l1.length c1, .slice A2 l2.length c2] w fun e w' => ∃ v0_ : Value, e = .returned (.tuple #[v0_, .bool r2]) ∧ Kd.R Kd.float 55 w' w.heap.size (fun _ => True) v0_ r1 ∧ Below w.heap.size w w' := by
 have HR1 := a_ hr1
 have HC1 := a_ hc1
 clear hr1 hc1
 have HR2 := a_ hr2
 have HC2 := a_ hc2
 clear hr2 hc2
 have HB := a_ (Below.refl w.heap.size w)
 have H : ((impl_isKind.f a0).bind fun t246 => (if t246 = true then ((impl_GoodHistory.f k l1).bind fun t247 => (if t247 = true then ((impl_isOrder.f k l2 (l1.length : Int)).bind fun t248 => (if t248 = true then ((impl_toldBy.f k a0 l1 l2).bind fun t249 => (some (t249, true))) else (some (([] : List Nat), false)))) else (some (([] : List Nat), false)))) else (some (([] : List Nat), false)))) = some (r1, r2) := h
 clear h
 replace H := Option.bind_eq_some_iff.mp H
 obtain ⟨t246, A40, H⟩ := H
 replace H : (if t246 = true then ((impl_GoodHistory.f k l1).bind fun t247 => (if t247 = true then ((impl_isOrder.f k l2 (l1.length : Int)).bind fun t248 => (if t248 = true then ((impl_toldBy.f k a0 l1 l2).bind fun t249 => (some (t249, true))) else (some (([] : List Nat), false)))) else (some (([] : List Nat), false)))) else (some (([] : List Nat), false))) = some (r1, r2) := H
 have A4 := a_ A40
 clear A40
 by_cases c5 : t246 = true
 ·subst c5
  have H1 : ((impl_GoodHistory.f k l1).bind fun t247 => (if t247 = true then ((impl_isOrder.f k l2 (l1.length : Int)).bind fun t248 => (if t248 = true then ((impl_toldBy.f k a0 l1 l2).bind fun t249 => (some (t249, true))) else (some (([] : List Nat), false)))) else (some (([] : List Nat), false)))) = some (r1, r2) := by rw [if_pos rfl] at H; exact H
  clear H; have H := H1; clear H1
  replace H := Option.bind_eq_some_iff.mp H
  obtain ⟨t247, A60, H⟩ := H
  replace H : (if t247 = true then ((impl_isOrder.f k l2 (l1.length : Int)).bind fun t248 => (if t248 = true then ((impl_toldBy.f k a0 l1 l2).bind fun t249 => (some (t249, true))) else (some (([] : List Nat), false)))) else (some (([] : List Nat), false))) = some (r1, r2) := H
  have A6 := a_ A60; clear A60
  by_cases c7 : t247 = true
  ·subst c7
   have H1 : ((impl_isOrder.f k l2 (l1.length : Int)).bind fun t248 => (if t248 = true then ((impl_toldBy.f k a0 l1 l2).bind fun t249 => (some (t249, true))) else (some (([] : List Nat), false)))) = some (r1, r2) := by rw [if_pos rfl] at H; exact H
   clear H; have H := H1; clear H1
   replace H := Option.bind_eq_some_iff.mp H
   obtain ⟨t248, A80, H⟩ := H
   replace H : (if t248 = true then ((impl_toldBy.f k a0 l1 l2).bind fun t249 => (some (t249, true))) else (some (([] : List Nat), false))) = some (r1, r2) := H
   have A8 := a_ A80; clear A80
   by_cases c9 : t248 = true
   ·subst c9
    have H1 : ((impl_toldBy.f k a0 l1 l2).bind fun t249 => (some (t249, true))) = some (r1, r2) := by rw [if_pos rfl] at H; exact H
    clear H; have H := H1; clear H1
    replace H := Option.bind_eq_some_iff.mp H
    obtain ⟨t249, A100, H⟩ := H
    replace H : (some (t249, true)) = some (r1, r2) := H
    have A10 := a_ A100; clear A100
    simp only [Option.some.injEq, Prod.mk.injEq] at H
    obtain ⟨rfl, rfl⟩ := H
    go_enter Try.func13, Try.ntmps13
    go_wp2_with (first | ((with_reducible refine gate_callee (f := 63) rfl ?_); refine goesL_ (some 9) rfl rfl Try.func63 (by kernel_rfl) rfl #[.int .i64 a0] rfl la_ ?_; (with_reducible refine (impl_isKind.calls a0 true _ A4.out).mono ?_); rintro e w' ⟨rfl, ⟨nd, rfl⟩⟩; refine ⟨_, rfl, ?_⟩) | (go_at_call 31; (with_reducible refine (impl_GoodHistory.calls k _ _ l1 true _ ?side1 ?side2 A6.out).mono ?_); (case side1 => repeat (first | exact HR1.out | (with_reducible refine Kd.C_alloc ?_ _) | (with_reducible refine Kd.C_drewN ?_ _) | (with_reducible refine Kd.C_drew ?_))); (case side2 => exact HC1.out); rintro e w11 ⟨rfl, hb⟩; have n0_ := a_ (below_step b_ hb); clear HB; have HB := n0_; clear n0_; (try clear hb); (try clear hb2); (try clear hk); (try clear hi)) | (go_at_call 64; (with_reducible refine (impl_isOrder.calls k _ _ l2 (l1.length : Int) true _ ?side1 ?side2 A8.out).mono ?_); (case side1 => repeat (first | exact (Kd.C_below HR2.out HB.out) | (with_reducible refine Kd.C_alloc ?_ _) | (with_reducible refine Kd.C_drewN ?_ _) | (with_reducible refine Kd.C_drew ?_))); (case side2 => exact HC2.out); rintro e w12 ⟨rfl, hb⟩; have n0_ := a_ (below_step b_ hb); clear HB; have HB := n0_; clear n0_; (try clear hb); (try clear hb2); (try clear hk); (try clear hi)) | ((with_reducible refine gate_callee (f := 65) rfl ?_); refine goesL_ (some 26) rfl rfl Try.func65 (by kernel_rfl) rfl #[.int .i64 a0, .slice A1 l1.length c1, .slice A2 l2.length c2] rfl la_ ?_; (with_reducible refine (impl_toldBy.calls k a0 _ _ l1 _ _ l2 t249 _ ?side1 ?side2 ?side3 ?side4 A10.out).mono ?_); (case side1 => repeat (first | exact (Kd.C_below HR1.out HB.out) | (with_reducible refine Kd.C_alloc ?_ _) | (with_reducible refine Kd.C_drewN ?_ _) | (with_reducible refine Kd.C_drew ?_))); (case side2 => exact HC1.out); (case side3 => repeat (first | exact (Kd.C_below HR2.out HB.out) | (with_reducible refine Kd.C_alloc ?_ _) | (with_reducible refine Kd.C_drewN ?_ _) | (with_reducible refine Kd.C_drew ?_))); (case side4 => exact HC2.out); rintro e w13 ⟨v250, rfl, ho0, hb⟩; refine ⟨_, rfl, ?_⟩; have n0_ := a_ (Kd.R_lower ho0 (below_size b_)); have n1_ := a_ (below_step b_ hb); clear HB; have HO251 := n0_; have HB := n1_; clear n0_ n1_; (try clear hb); (try clear hb2); (try clear hk); (try clear hi); (try clear ho0)))
    go_ret2
    exact ⟨_, by first | rfl | (simp [errW_none, errW_some] <;> rfl) | (simp [*, errW_none, errW_some] <;> rfl), by exact r_ HO251.out, b_⟩
   ·replace c9 := Bool.eq_false_iff.mpr c9
    subst c9
    have H1 : (some (([] : List Nat), false)) = some (r1, r2) := by rw [if_neg (show ¬ (false = true) by decide)] at H; exact H
    clear H; have H := H1; clear H1
    simp only [Option.some.injEq, Prod.mk.injEq] at H
    obtain ⟨rfl, rfl⟩ := H
    go_enter Try.func13, Try.ntmps13
    go_wp2_with (first | ((with_reducible refine gate_callee (f := 63) rfl ?_); refine goesL_ (some 9) rfl rfl Try.func63 (by kernel_rfl) rfl #[.int .i64 a0] rfl la_ ?_; (with_reducible refine (impl_isKind.calls a0 true _ A4.out).mono ?_); rintro e w' ⟨rfl, ⟨nd, rfl⟩⟩; refine ⟨_, rfl, ?_⟩) | (go_at_call 31; (with_reducible refine (impl_GoodHistory.calls k _ _ l1 true _ ?side1 ?side2 A6.out).mono ?_); (case side1 => repeat (first | exact HR1.out | (with_reducible refine Kd.C_alloc ?_ _) | (with_reducible refine Kd.C_drewN ?_ _) | (with_reducible refine Kd.C_drew ?_))); (case side2 => exact HC1.out); rintro e w14 ⟨rfl, hb⟩; have n0_ := a_ (below_step b_ hb); clear HB; have HB := n0_; clear n0_; (try clear hb); (try clear hb2); (try clear hk); (try clear hi)) | (go_at_call 64; (with_reducible refine (impl_isOrder.calls k _ _ l2 (l1.length : Int) false _ ?side1 ?side2 A8.out).mono ?_); (case side1 => repeat (first | exact (Kd.C_below HR2.out HB.out) | (with_reducible refine Kd.C_alloc ?_ _) | (with_reducible refine Kd.C_drewN ?_ _) | (with_reducible refine Kd.C_drew ?_))); (case side2 => exact HC2.out); rintro e w15 ⟨rfl, hb⟩; have n0_ := a_ (below_step b_ hb); clear HB; have HB := n0_; clear n0_; (try clear hb); (try clear hb2); (try clear hk); (try clear hi)))
    go_ret2
    exact ⟨_, by first | rfl | (simp [errW_none, errW_some] <;> rfl) | (simp [*, errW_none, errW_some] <;> rfl), by first | exact Kd.R_nil _ _ _ _ _ | exact Kd.N_nil _ _ _ _ _ | exact Kd.V_nil _ _ _ _ _ | exact Kd.Q_nil _ _ _ _ _ | exact Kd.S_nil _ _ _ _ _, b_⟩
  ·replace c7 := Bool.eq_false_iff.mpr c7
   subst c7
   have H1 : (some (([] : List Nat), false)) = some (r1, r2) := by rw [if_neg (show ¬ (false = true) by decide)] at H; exact H
   clear H; have H := H1; clear H1
   simp only [Option.some.injEq, Prod.mk.injEq] at H
   obtain ⟨rfl, rfl⟩ := H
   go_enter Try.func13, Try.ntmps13
   go_wp2_with (first | ((with_reducible refine gate_callee (f := 63) rfl ?_); refine goesL_ (some 9) rfl rfl Try.func63 (by kernel_rfl) rfl #[.int .i64 a0] rfl la_ ?_; (with_reducible refine (impl_isKind.calls a0 true _ A4.out).mono ?_); rintro e w' ⟨rfl, ⟨nd, rfl⟩⟩; refine ⟨_, rfl, ?_⟩) | (go_at_call 31; (with_reducible refine (impl_GoodHistory.calls k _ _ l1 false _ ?side1 ?side2 A6.out).mono ?_); (case side1 => repeat (first | exact HR1.out | (with_reducible refine Kd.C_alloc ?_ _) | (with_reducible refine Kd.C_drewN ?_ _) | (with_reducible refine Kd.C_drew ?_))); (case side2 => exact HC1.out); rintro e w16 ⟨rfl, hb⟩; have n0_ := a_ (below_step b_ hb); clear HB; have HB := n0_; clear n0_; (try clear hb); (try clear hb2); (try clear hk); (try clear hi)))
   go_ret2
   exact ⟨_, by first | rfl | (simp [errW_none, errW_some] <;> rfl) | (simp [*, errW_none, errW_some] <;> rfl), by first | exact Kd.R_nil _ _ _ _ _ | exact Kd.N_nil _ _ _ _ _ | exact Kd.V_nil _ _ _ _ _ | exact Kd.Q_nil _ _ _ _ _ | exact Kd.S_nil _ _ _ _ _, b_⟩
 ·replace c5 := Bool.eq_false_iff.mpr c5
  subst c5
  have H1 : (some (([] : List Nat), false)) = some (r1, r2) := by rw [if_neg (show ¬ (false = true) by decide)] at H; exact H
  clear H; have H := H1; clear H1
  simp only [Option.some.injEq, Prod.mk.injEq] at H
  obtain ⟨rfl, rfl⟩ := H
  go_enter Try.func13, Try.ntmps13
  go_wp2_with (first | ((with_reducible refine gate_callee (f := 63) rfl ?_); refine goesL_ (some 9) rfl rfl Try.func63 (by kernel_rfl) rfl #[.int .i64 a0] rfl la_ ?_; (with_reducible refine (impl_isKind.calls a0 false _ A4.out).mono ?_); rintro e w' ⟨rfl, ⟨nd, rfl⟩⟩; refine ⟨_, rfl, ?_⟩))
  go_ret2
  exact ⟨_, by first | rfl | (simp [errW_none, errW_some] <;> rfl) | (simp [*, errW_none, errW_some] <;> rfl), by first | exact Kd.R_nil _ _ _ _ _ | exact Kd.N_nil _ _ _ _ _ | exact Kd.V_nil _ _ _ _ _ | exact Kd.Q_nil _ _ _ _ _ | exact Kd.S_nil _ _ _ _ _, b_⟩

/-! ### laws_sameFloat: function 66 -/
def laws_sameFloat.j0 : Nat → Nat → Nat → Bool → Option (Bool)
 | 0, _, _, _ => none
 | k + 1, x0, x1, x12 => if x12 = true then (if feq x0 x0 = true then (some false) else (some (!(feq x1 x1)))) else (if feq x0 0 = true then (if feq x1 0 = true then (if fdivOk 4607182418800017408 x0 = true then (if fdivOk 4607182418800017408 x1 = true then (some ((fgt (fdiv 4607182418800017408 x0) 0) == (fgt (fdiv 4607182418800017408 x1) 0))) else (none)) else (none)) else (some (feq x0 x1))) else (some (feq x0 x1)))
def laws_sameFloat.f (k : Nat) (a0 : Nat) (a1 : Nat) : Option (Bool) := if feq a0 a0 = true then (laws_sameFloat.j0 k a0 a1 (!(feq a1 a1))) else (laws_sameFloat.j0 k a0 a1 true)
theorem laws_sameFloat.mono_l : ∀ k, (∀ y0 y1 y2, LeO (laws_sameFloat.j0 k y0 y1 y2) (laws_sameFloat.j0 (k + 1) y0 y1 y2))
 | 0 => fun _ _ _ r h => by simp [laws_sameFloat.j0] at h
 | k + 1 => by
  have ih0 := laws_sameFloat.mono_l k
  ·intro y0 y1 y2
   unfold laws_sameFloat.j0
   repeat' first | (with_reducible exact ih0 _ _ _) | (with_reducible exact LeO.refl _) | (with_reducible exact LeO.none _) | (with_reducible refine LeO.ite ?_ ?_) | (with_reducible refine LeO.bind ?_ (fun _ => ?_)) | exact ih0 _ _ _ | exact LeO.none _ | refine LeO.ite ?_ ?_ | refine LeO.bind ?_ (fun _ => ?_)
theorem laws_sameFloat.mono : ∀ a0 a1 k, LeO (laws_sameFloat.f k a0 a1) (laws_sameFloat.f (k + 1) a0 a1) := by
 intro a0 a1 k
 have ih0 := laws_sameFloat.mono_l k
 unfold laws_sameFloat.f
 repeat' first | (with_reducible exact ih0 _ _ _) | (with_reducible exact LeO.refl _) | (with_reducible exact LeO.none _) | (with_reducible refine LeO.ite ?_ ?_) | (with_reducible refine LeO.bind ?_ (fun _ => ?_)) | exact ih0 _ _ _ | exact LeO.none _ | refine LeO.ite ?_ ?_ | refine LeO.bind ?_ (fun _ => ?_)
set_option maxHeartbeats 8000000 in
set_option maxRecDepth 100000 in
theorem laws_sameFloat.calls (k : Nat) (a0 : Nat) (a1 : Nat) (r : Bool) (w : World) (h : laws_sameFloat.f k a0 a1 = some r) :
  Calls Try.prog 66 #[.float .f64 a0, .float .f64 a1] w fun e w' => e = .returned (.bool r) ∧ Drawn0 w w' := by
 have H : (if feq a0 a0 = true then (laws_sameFloat.j0 k a0 a1 (!(feq a1 a1))) else (laws_sameFloat.j0 k a0 a1 true)) = some r := h
 clear h
 have HC3 := a_ H
 clear H
 go_enter Try.func66, Try.ntmps66
 go_upto_region 1 with (fail)
 go_cut [12] (fun v12 wc => ∃ (kq : Nat) (x12_2 : Bool), v12 = .bool x12_2 ∧ Aside0 (laws_sameFloat.j0 kq a0 a1 x12_2 = some r) ∧ Aside0 (kq ≤ k) ∧ Drawn0 w wc)
 case first =>
  have H := HC3.out; clear HC3
  by_cases c4 : feq a0 a0 = true
  ·rw [if_pos c4] at H
   have c4b0 : feq a0 a0 = true := c4
   clear c4
   (first | rw [c4b0] | (simp only [i64_w, i32_w]; rw [c4b0]) | skip)
   have H' := a_ H
   clear H
   go_wp2
   go_meet
   case rel => exact ⟨_, (!(feq a1 a1)), (by first | rfl | (simp; done) | (simp [*]; done)), H', ⟨by first | omega | exact Nat.le_refl _⟩, by repeat (first | exact Drawn0.refl _ | apply Drawn0.step)⟩
  ·rw [if_neg c4] at H
   have c4b0 : feq a0 a0 = false := by simpa using c4
   clear c4
   (first | rw [c4b0] | (simp only [i64_w, i32_w]; rw [c4b0]) | skip)
   have H' := a_ H
   clear H
   go_wp2
   go_meet
   case rel => exact ⟨_, (true), (by first | rfl | (simp; done) | (simp [*]; done)), H', ⟨by first | omega | exact Nat.le_refl _⟩, by repeat (first | exact Drawn0.refl _ | apply Drawn0.step)⟩
 case rest =>
  clear HC3; (try clear p2); (try clear c4); (try clear c4b0)
  obtain ⟨kq, x12_2, rfl, HA, HJ2, ⟨mc2, rfl⟩⟩ := hcut
  cases kq with
  | zero => exact absurd HA.out (by simp [laws_sameFloat.j0])
  | succ kj2 =>
   have H := HA.out; clear HA
   simp only [laws_sameFloat.j0] at H
   by_cases c5 : x12_2 = true
   ·subst c5
    have H1 : (if feq a0 a0 = true then (some false) else (some (!(feq a1 a1)))) = some r := by rw [if_pos rfl] at H; exact H
    clear H; have H := H1; clear H1
    by_cases c6 : feq a0 a0 = true
    ·rw [if_pos c6] at H
     have c6b0 : feq a0 a0 = true := c6
     clear c6
     obtain rfl := Option.some.inj H
     go_wp2
     go_ret
     exact ⟨by first | rfl | (simp; done) | (simp [*]; done), by repeat (first | exact Drawn0.refl _ | apply Drawn0.step)⟩
    ·rw [if_neg c6] at H
     have c6b0 : feq a0 a0 = false := by simpa using c6
     clear c6
     obtain rfl := Option.some.inj H
     go_wp2
     go_ret
     exact ⟨by first | rfl | (simp; done) | (simp [*]; done), by repeat (first | exact Drawn0.refl _ | apply Drawn0.step)⟩
   ·replace c5 := Bool.eq_false_iff.mpr c5
    subst c5
    have H1 : (if feq a0 0 = true then (if feq a1 0 = true then (if fdivOk 4607182418800017408 a0 = true then (if fdivOk 4607182418800017408 a1 = true then (some ((fgt (fdiv 4607182418800017408 a0) 0) == (fgt (fdiv 4607182418800017408 a1) 0))) else (none)) else (none)) else (some (feq a0 a1))) else (some (feq a0 a1))) = some r := by rw [if_neg (show ¬ (false = true) by decide)] at H; exact H
    clear H; have H := H1; clear H1
    by_cases c7 : feq a0 0 = true
    ·rw [if_pos c7] at H
     have c7b0 : feq a0 0 = true := c7
     clear c7
     by_cases c8 : feq a1 0 = true
     ·rw [if_pos c8] at H
      have c8b0 : feq a1 0 = true := c8
      clear c8
      by_cases c9 : fdivOk 4607182418800017408 a0 = true
      ·rw [if_pos c9] at H
       have c9b0 := eq_true c9
       have c9b1 : decide (fdivOk 4607182418800017408 a0 = true) = true := decide_eq_true c9
       clear c9
       by_cases c10 : fdivOk 4607182418800017408 a1 = true
       ·rw [if_pos c10] at H
        have c10b0 := eq_true c10
        have c10b1 : decide (fdivOk 4607182418800017408 a1 = true) = true := decide_eq_true c10
        clear c10
        obtain rfl := Option.some.inj H
        go_wp2
        go_ret
        exact ⟨by first | rfl | (simp; done) | (simp [*]; done), by repeat (first | exact Drawn0.refl _ | apply Drawn0.step)⟩
       ·rw [if_neg c10] at H
        exact absurd H (by simp)
      ·rw [if_neg c9] at H
       exact absurd H (by simp)
     ·rw [if_neg c8] at H
      have c8b0 : feq a1 0 = false := by simpa using c8
      clear c8
      obtain rfl := Option.some.inj H
      go_wp2
      go_ret
      exact ⟨by first | rfl | (simp; done) | (simp [*]; done), by repeat (first | exact Drawn0.refl _ | apply Drawn0.step)⟩
    ·rw [if_neg c7] at H
     have c7b0 : feq a0 0 = false := by simpa using c7
     clear c7
     obtain rfl := Option.some.inj H
     go_wp2
     go_ret
     exact ⟨by first | rfl | (simp; done) | (simp [*]; done), by repeat (first | exact Drawn0.refl _ | apply Drawn0.step)⟩

end Go.Proofs.Ythdpiceiemkjlaa.GPlayObject

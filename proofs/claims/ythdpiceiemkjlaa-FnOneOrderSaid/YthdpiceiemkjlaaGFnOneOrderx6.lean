-- Printed by wip/tools/print2.py out of the translation: walks and plain functions; Lean checks them.
import Derived.Test.YthdpiceiemkjlaaGFnOneOrderx0
import Derived.Test.YthdpiceiemkjlaaGFnOneOrderx3
import Derived.Test.YthdpiceiemkjlaaGFnOneOrderx4
import Derived.Test.YthdpiceiemkjlaaGFnOneOrderx5
namespace Go.Proofs.Ythdpiceiemkjlaa.GFnOneOrder
open Go.RowKit Go.Proofs.YthdpiceiemkjlaaW.PrintWords Go.Proofs.YthdpiceiemkjlaaW.PrintLast Go.Proofs.YthdpiceiemkjlaaW.PrintMore
attribute [local go_sem] max2_int min2_int max_two min_two max_three min_three max_four min_four   -- for this text's walks alone
set_option linter.unusedVariables false
set_option linter.unusedSimpArgs false

/-! ### impl_toldBy: function 65 -/
def impl_toldBy.l0 : Nat → List (S77) → List Nat → List Int → Int → Int → Int → List Nat → Option (List Nat)
 | 0, _, _, _, _, _, _, _ => none
 | k + 1, x1, x7, x16, x17, x18, x217000, x217001 => if x18 < x17 then (if 0 ≤ x18 then (if x18 < (x16.length : Int) then (if 0 ≤ (rd x16 x18) then (if (rd x16 x18) < (x1.length : Int) then ((impl_object_play.f k x217000 x217001 ((rd_T77 x1 (rd x16 x18)).f0) ((rd_T77 x1 (rd x16 x18)).f1) ((rd_T77 x1 (rd x16 x18)).f2) ((rd_T77 x1 (rd x16 x18)).f3) ((rd_T77 x1 (rd x16 x18)).f4)).bind fun bt219 => (if x7.length < 17592186044416 then (impl_toldBy.l0 k x1 (x7 ++ [bt219.1]) x16 x17 (wrap64 (x18 + 1)) bt219.2.1 bt219.2.2) else (none))) else (none)) else (none)) else (none)) else (none)) else (some x7)
def impl_toldBy.f (k : Nat) (a0 : Int) (l1 : List (S77)) (l2 : List Int) : Option (List Nat) := (impl_newObject.f a0).bind fun bt212 => (impl_toldBy.l0 k l1 (([] : List Nat)) l2 (l2.length : Int) 0 bt212.1 bt212.2)
def impl_toldBy.T5 : Bool × List (List Nat × List Nat) := (true, [([], []), ([], []), ([], []), ([1, 2], [1, 2]), ([3], [3]), ([0, 4], [0, 4]), ([5], [5]), ([6], [6]), ([6], [6]), ([], []), ([7, 5, 0, 1, 2, 3, 4, 5, 6, 7, 9], [7]), ([9, 8, 10, 0, 1, 2, 3, 4, 5, 6, 7, 8, 9, 10], [8, 9])])
def impl_toldBy.B5 : List Nat := [0, 0, 0, 6, 14, 31, 63, 127, 127, 0, 767, 2047]
theorem impl_toldBy.tab5 : rtab .any (opsOf Try.f65 5) = impl_toldBy.T5 := by kernel_rfl
theorem impl_toldBy.bits5 : waitsOk impl_toldBy.T5.2 impl_toldBy.B5 = true := by kernel_rfl
set_option maxHeartbeats 8000000 in
set_option maxRecDepth 100000 in
theorem impl_toldBy.calls (k : Nat) (a0 : Int) (A1 : Option Addr) (c1 : Nat) (l1 : List (S77)) (A2 : Option Addr) (c2 : Nat) (l2 : List Int) (r : List Nat) (w : World) (hr1 : Kd.C k77 w A1 l1.length l1) (hc1 : l1.length ≤ c1) (hr2 : Kd.C (Kd.int .i64) w A2 l2.length l2) (hc2 : l2.length ≤ c2) (h : impl_toldBy.f k a0 l1 l2 = some r) :
  Calls Try.prog 65 #[.int .i64 a0, .slice A1 l1.length c1, .slice A2 l2.length c2] w fun e w' => ∃ v0_ : Value, e = .returned (v0_) ∧ Kd.R Kd.float 55 w' w.heap.size (fun _ => True) v0_ r ∧ Below w.heap.size w w' := by
 have hu88 := Try.underlying88
 have hu77 := Try.underlying77
 have HR1 := a_ hr1
 have HC1 := a_ hc1
 clear hr1 hc1
 have HR2 := a_ hr2
 have HC2 := a_ hc2
 clear hr2 hc2
 have HB := a_ (Below.refl w.heap.size w)
 have H : ((impl_newObject.f a0).bind fun bt212 => (impl_toldBy.l0 k l1 (([] : List Nat)) l2 (l2.length : Int) 0 bt212.1 bt212.2)) = some r := h
 clear h
 obtain ⟨y209, hy209⟩ : ∃ y_ : List Nat, y_ = (([] : List Nat)) := ⟨_, rfl⟩
 replace H : ((impl_newObject.f a0).bind fun bt212 => (impl_toldBy.l0 k l1 y209 l2 (l2.length : Int) 0 bt212.1 bt212.2)) = some r := by first|(rw [hy209]; with_reducible exact H)|(rw [hy209]; exact (Option.bind_some _ _).symm.trans H)|(rw [hy209]; exact H)|exact H
 have Ny209 := a_ hy209
 clear hy209
 replace H := Option.bind_eq_some_iff.mp H
 obtain ⟨⟨t212, t213⟩, A40, H⟩ := H
 try dsimp only at H
 have A4 := a_ A40
 clear A40
 have H' := a_ H
 clear H
 go_enter Try.func65, Try.ntmps65
 go_wp2_with (first | ((with_reducible refine gate_dst (N := 13) rfl ?_); refine Kd.R_lit Kd.float _ 55 ?hg (N := 13) ?hd (xs := ([] : List Nat)) (inner := []) (ok := fun _ => True) (okp := fun _ => True) ?hr ?hp (fun _ hk => hk) trivial (Below.refl _ _) (Nat.le_refl _) (by simp) ?_; (case hd => rfl); (case hg => rfl); (case hr => first | (go_simp; done) | (go_simp; rfl)); (case hp => exact (Reps.none _ _)); intro v210 w5 ho6 hb hg_ hnew_; clear hg_ hnew_; (first | rw [← Ny209.out] at ho6 | (simp only [Int.reduceToNat] at ho6; rw [← Ny209.out] at ho6)); have n0_ := a_ (Kd.R_lower ho6 (below_size b_)); have n1_ := a_ (below_step b_ hb); clear HB; have HO211 := n0_; have HB := n1_; clear n0_ n1_; clear hb ho6) | ((with_reducible refine gate_callee (f := 73) rfl ?_); refine goesL_ (some 15) rfl rfl Try.func73 (by kernel_rfl) rfl #[.int .i64 a0] rfl la_ ?_; (with_reducible refine (impl_newObject.calls a0 t212 t213 _ A4.out).mono ?_); rintro e w7 ⟨v214, rfl, ho0, hb⟩; refine ⟨_, rfl, ?_⟩; have n0_ := a_ (Kd.R_elder' (r_ HO211.out) (by first | exact Kd.R_base ho0 | exact Kd.S_base ho0 | exact Kd.R_base ho0) hb); have n1_ := a_ (Kd.R_lower (Kd.R_new' ho0 (Kd.R_lt (r_ HO211.out))) (below_size b_)); have n2_ := a_ (below_step b_ hb); clear HO211; clear HB; have HO211 := n0_; have HO215 := n1_; have HB := n2_; clear n0_ n1_ n2_; (try clear hb); (try clear hb2); (try clear hk); (try clear hi); (try clear ho0)) | ((with_reducible refine gate_dst (N := 8) rfl ?_); refine box_event ?hg (N := 8) ?hd (cs := #[.int .i64 0, .slice none 0 0]) (t := 88) ?hr ?_; (case hd => rfl); (case hg => rfl); (case hr => first | (go_simp; done) | (go_simp; rfl)); intro gb216 hg w8 hbox hb; have n0_ := a_ (Kd.R_below (r_ HO211.out) hb); have n1_ := a_ (Kd.R_below (r_ HO215.out) hb); have n2_ := a_ (below_step b_ hb); have n3_ := a_ (hbox); have n4_ := a_ ((by rw [hg]; exact (below_size b_) : w.heap.size ≤ gb216)); have n5_ := a_ ((by rw [hg]; exact (below_size b_) : w.heap.size ≤ gb216)); clear HO211; clear HO215; clear HB; have HO211 := n0_; have HO215 := n1_; have HB := n2_; have BK216 := n3_; have GW216 := n4_; have GE216 := n5_; clear n0_ n1_ n2_ n3_ n4_ n5_; clear hb hbox hg; obtain ⟨hcz9_0, hcz9_1, hfz9_0, hfz9_1⟩ := cz2_ BK216.out; obtain ⟨Ao10, co10, eo10⟩ := Kd.R_slice HO215.out; subst eo10))
 go_loopg [7, 18] k (fun kq v7 v18 w' => ∃ (x7_1 : List Nat) (x18_1 : Int) (x217000_1 : Int) (x217001_1 : List Nat) (u217001 : Value), v18 = .int .i64 x18_1 ∧ Aside0 (impl_toldBy.l0 kq l1 x7_1 l2 (l2.length : Int) x18_1 x217000_1 x217001_1 = some r) ∧ Aside0 (kq ≤ k) ∧ Aside0 (Kd.R Kd.float 55 w' w.heap.size (fun _ => True) v7 x7_1) ∧ Aside0 (Kd.V Kd.float 55 w' w.heap.size (fun k_ => some k_ ≠ (v7 : Value).ownBlock ∧ k_ ≠ gb216) u217001 x217001_1) ∧ Aside0 (w'.heap[gb216]? = some (.cells #[.int .i64 x217000_1, u217001] 88 (0, 0))) ∧ Aside0 (Below w.heap.size w w'))
 case atStart => exact ⟨(y209), (0), (t212), (t213), (.slice Ao10 t213.length co10), (by first | rfl | (simp; done) | (simp [*]; done)), H', ⟨Nat.le_refl _⟩, ⟨by refine r_ ?_; exact Kd.R_mono (Kd.R_far (p := ⟨gb216, 1, none⟩) (Kd.R_far (p := ⟨gb216, 0, none⟩) (Kd.R_types HO211.out BK216.out (by decide)) (fun _ hk => hk.2) (.int .i64 t212)) (fun _ hk => hk.2) (.slice Ao10 t213.length co10)) (fun _ hk => trivial)⟩, ⟨Kd.R_V (by refine r_ ?_; exact Kd.R_mono (Kd.R_far (p := ⟨gb216, 1, none⟩) (Kd.R_far (p := ⟨gb216, 0, none⟩) (Kd.R_types (Kd.R_types HO215.out BK216.out (by decide)) BK216.out (by decide)) (fun _ hk => hk.2) (.int .i64 t212)) (fun _ hk => hk.2) (.slice Ao10 t213.length co10)) (fun _ hk => ⟨hk.1.1.2, hk.1.2⟩))⟩, ⟨by refine q_ ?_; refine blk_put (cs := #[.int .i64 t212, .slice none 0 0]) ?_ 1 _ rfl; refine q_ ?_; refine blk_put (cs := #[.int .i64 0, .slice none 0 0]) ?_ 0 _ rfl; exact q_ BK216.out⟩, ⟨b_⟩⟩
 case round =>
  clear H'
  (try clear c1); (try clear c2); (try clear p2); (try clear c6); (try clear c7); (try clear hcz9_0); (try clear hcz9_1); (try clear hfz9_0); (try clear hfz9_1)
  obtain ⟨x7_1, x18_1, x217000_1, x217001_1, u217001, rfl, HA, HK1, HO_7, HO_217001, BK216, HB⟩ := hrel
  cases gk with
  | zero => exact absurd HA.out (by simp [impl_toldBy.l0])
  | succ k1 =>
   have H := HA.out; clear HA
   simp only [impl_toldBy.l0] at H
   by_cases c11 : x18_1 < (l2.length : Int)
   ·rw [if_pos c11] at H
    have c11b0 := decide_eq_true c11
    clear c11
    replace H := ig_ H
    obtain ⟨c12b0, H⟩ := H
    replace H := ig_ H
    obtain ⟨c13b0, H⟩ := H
    replace H := ig_ H
    obtain ⟨c14b0, H⟩ := H
    replace H := ig_ H
    obtain ⟨c15b0, H⟩ := H
    replace H := Option.bind_eq_some_iff.mp H
    obtain ⟨⟨t219, t220, t221⟩, A160, H⟩ := H
    try dsimp only at H
    have A16 := a_ A160; clear A160
    have c17 := it_ H
    rw [if_pos c17] at H; have LMc17 := a_ c17; clear c17
    obtain ⟨y225, hy225⟩ : ∃ y_ : List Nat, y_ = (x7_1 ++ [t219]) := ⟨_, rfl⟩
    replace H : (impl_toldBy.l0 k1 l1 y225 l2 (l2.length : Int) (wrap64 (x18_1 + 1)) t220 t221) = some r := by first|(rw [hy225]; with_reducible exact H)|(rw [hy225]; exact (Option.bind_some _ _).symm.trans H)|(rw [hy225]; exact H)|exact H
    have Ny225 := a_ hy225; clear hy225
    have H' := a_ H
    clear H
    have p217 : 0 ≤ (x18_1 : Int) := od_
    have q217 : x18_1 < (l2.length : Int) := od_
    obtain ⟨ad217, e217, hx217_0⟩ := Kd.at_int HR2.out x18_1 p217 q217
    cases e217
    try replace hx217_0 := cl_ HB.out hx217_0
    replace p217 := eq_true p217; replace q217 := eq_true q217
    obtain ⟨Ao18, co18, eo18⟩ := Kd.V_slice HO_217001.out
    subst eo18
    try go_wp2
    have n0_ := a_ (Kd.R_drew HO_7.out)
    have n1_ := a_ (Kd.V_drew HO_217001.out)
    have n2_ := a_ (blk_drew BK216.out)
    have n3_ := a_ (below_drew1 HB.out)
    clear HO_7; clear HO_217001; clear BK216; clear HB; have HO_7 := n0_; have HO_217001 := n1_; have BK216 := n2_; have HB := n3_; clear n0_ n1_ n2_ n3_
    have p218 : 0 ≤ ((rd l2 x18_1) : Int) := od_
    have q218 : (rd l2 x18_1) < (l1.length : Int) := od_
    obtain ⟨ad218, e218, hx218_0, hx218_1, hx218_2, hx218_3, hx218_4⟩ := at_T77 HR1.out (rd l2 x18_1) p218 q218
    have hw218_4 := hx218_4; have hw218_3 := hx218_3; have hw218_2 := hx218_2; have hw218_1 := hx218_1; have hw218_0 := hx218_0
    cases e218
    try replace hx218_0 := cl_ HB.out hx218_0
    try replace hx218_1 := cl_ HB.out hx218_1
    try replace hx218_2 := cl_ HB.out hx218_2
    try replace hx218_3 := cl_ HB.out hx218_3
    try replace hx218_4 := cl_ HB.out hx218_4
    replace p218 := eq_true p218; replace q218 := eq_true q218
    refine start_ (n := 12) (S := fun w' => w'.cell? ⟨gb216, 0, none⟩ = some (.int .i64 x217000_1) ∧ w'.cell? ⟨gb216, 1, none⟩ = some (.slice Ao18 x217001_1.length co18) ∧ w'.cell? (ad218.add (((rd l2 x18_1)).toNat * 5)) = some (.int .i64 ((rd_T77 l1 (rd l2 x18_1)).f0)) ∧ w'.cell? ⟨(ad218.add (((rd l2 x18_1)).toNat * 5)).block, (ad218.add (((rd l2 x18_1)).toNat * 5)).off + 1, none⟩ = some (.int .i64 ((rd_T77 l1 (rd l2 x18_1)).f1)) ∧ w'.cell? ⟨(ad218.add (((rd l2 x18_1)).toNat * 5)).block, (ad218.add (((rd l2 x18_1)).toNat * 5)).off + 2, none⟩ = some (.int .i64 ((rd_T77 l1 (rd l2 x18_1)).f2)) ∧ w'.cell? ⟨(ad218.add (((rd l2 x18_1)).toNat * 5)).block, (ad218.add (((rd l2 x18_1)).toNat * 5)).off + 3, none⟩ = some (.bool ((rd_T77 l1 (rd l2 x18_1)).f3)) ∧ w'.cell? ⟨(ad218.add (((rd l2 x18_1)).toNat * 5)).block, (ad218.add (((rd l2 x18_1)).toNat * 5)).off + 4, none⟩ = some (.float .f64 ((rd_T77 l1 (rd l2 x18_1)).f4))) (ds := []) #[false, false, false, false, false, false, false, false, false, false, false, false] (by kernel_rfl) rfl rfl ⟨(blk_cell BK216.out 0).trans rfl, (blk_cell BK216.out 1).trans rfl, ((HB.out.cell (World.block_lt_of_cell? w _ hw218_0)).trans hw218_0), ((HB.out.cell (World.block_lt_of_cell? w _ hw218_1)).trans hw218_1), ((HB.out.cell (World.block_lt_of_cell? w _ hw218_2)).trans hw218_2), ((HB.out.cell (World.block_lt_of_cell? w _ hw218_3)).trans hw218_3), ((HB.out.cell (World.block_lt_of_cell? w _ hw218_4)).trans hw218_4)⟩ (fun hHeld => ?_); refine with_tabW impl_toldBy.tab5 impl_toldBy.bits5 (fun HT_ HW_ => ?_)
    generalize wr.drew = w19 at HO_7 HO_217001 BK216 HB hx218_0 hx218_1 hx218_2 hx218_3 hx218_4 hHeld ⊢
    refine pure_ (i := 1) (N := some 24) (v := ?_) (a' := ?_) #[false, true, false, false, false, false, false, false, false, false, false, false] rfl rfl (any_of HT_.out (by kernel_rfl)) (fun _ _ _ h => h) (Or.inl ⟨by rfl, ?_⟩) ?_ ?_
    rotate_left
    ·intro w'
     go_simp
     with_reducible rfl
    rotate_left
    ·simp only [Act.put, List.setIfInBounds_toArray, List.set_cons_zero, List.set_cons_succ, i64_w, i32_w]
     rfl
    refine pure_ (i := 2) (N := some 25) (v := ?_) (a' := ?_) #[false, true, true, false, false, false, false, false, false, false, false, false] rfl rfl (any_of HT_.out (by kernel_rfl)) (fun _ _ _ h => h) (Or.inl ⟨by rfl, ?_⟩) ?_ ?_
    rotate_left
    ·intro w'
     go_simp
     with_reducible rfl
    rotate_left
    ·simp only [Act.put, List.setIfInBounds_toArray, List.set_cons_zero, List.set_cons_succ, i64_w, i32_w]
     rfl
    refine pure_ (i := 3) (N := some 26) (v := ?_) (a' := ?_) #[false, true, true, true, false, false, false, false, false, false, false, false] rfl rfl (any_of HT_.out (by kernel_rfl)) (fun _ _ _ h => h) (Or.inl ⟨by rfl, ?_⟩) ?_ ?_
    rotate_left
    ·intro w'
     go_simp
     with_reducible rfl
    rotate_left
    ·simp only [Act.put, List.setIfInBounds_toArray, List.set_cons_zero, List.set_cons_succ, i64_w, i32_w]
     rfl
    refine take_ (i := 0) (N := some 23) (v := ?_) (a' := ?_) #[true, true, true, true, false, false, false, false, false, false, false, false] rfl rfl (take_ofW HT_.out HW_.out (by kernel_rfl)) (fun _ _ _ h => h) (Or.inl ⟨by rfl, ?_⟩) hHeld ?_ ?_
    rotate_left
    ·rintro w' ⟨s0, s1, s2, s3, s4, s5, s6⟩
     go_simp
     with_reducible rfl
    rotate_left
    ·simp only [Act.put, List.setIfInBounds_toArray, List.set_cons_zero, List.set_cons_succ, i64_w, i32_w]
     rfl
    refine take_ (i := 4) (N := some 27) (v := ?_) (a' := ?_) #[true, true, true, true, true, false, false, false, false, false, false, false] rfl rfl (take_ofW HT_.out HW_.out (by kernel_rfl)) (fun _ _ _ h => h) (Or.inl ⟨by rfl, ?_⟩) hHeld ?_ ?_
    rotate_left
    ·rintro w' ⟨s0, s1, s2, s3, s4, s5, s6⟩
     go_simp
     with_reducible rfl
    rotate_left
    ·simp only [Act.put, List.setIfInBounds_toArray, List.set_cons_zero, List.set_cons_succ, i64_w, i32_w]
     rfl
    refine join_ (σ := Value × Nat) 2 #[true, true, true, true, true, true, true, true, true, true, false, false] (fun s_ => [(28, .tuple #[.float .f64 t219, .agg #[.int .i64 t220, s_.1]]), (12, .pointer (some ⟨s_.2, 0, none⟩)), (22, .tuple #[.float .f64 t219, .agg #[.int .i64 t220, s_.1]]), (29, .float .f64 t219), (30, .agg #[.int .i64 t220, s_.1])]) (fun s_ w' => (w'.cell? ⟨gb216, 0, none⟩ = some (.int .i64 x217000_1) ∧ w'.cell? ⟨gb216, 1, none⟩ = some (.slice Ao18 x217001_1.length co18) ∧ w'.cell? (ad218.add (((rd l2 x18_1)).toNat * 5)) = some (.int .i64 ((rd_T77 l1 (rd l2 x18_1)).f0)) ∧ w'.cell? ⟨(ad218.add (((rd l2 x18_1)).toNat * 5)).block, (ad218.add (((rd l2 x18_1)).toNat * 5)).off + 1, none⟩ = some (.int .i64 ((rd_T77 l1 (rd l2 x18_1)).f1)) ∧ w'.cell? ⟨(ad218.add (((rd l2 x18_1)).toNat * 5)).block, (ad218.add (((rd l2 x18_1)).toNat * 5)).off + 2, none⟩ = some (.int .i64 ((rd_T77 l1 (rd l2 x18_1)).f2)) ∧ w'.cell? ⟨(ad218.add (((rd l2 x18_1)).toNat * 5)).block, (ad218.add (((rd l2 x18_1)).toNat * 5)).off + 3, none⟩ = some (.bool ((rd_T77 l1 (rd l2 x18_1)).f3)) ∧ w'.cell? ⟨(ad218.add (((rd l2 x18_1)).toNat * 5)).block, (ad218.add (((rd l2 x18_1)).toNat * 5)).off + 4, none⟩ = some (.float .f64 ((rd_T77 l1 (rd l2 x18_1)).f4))) ∧ (Kd.V Kd.float 55 w' w.heap.size (fun k_ => some k_ ≠ (u7 : Value).ownBlock ∧ k_ ≠ gb216 ∧ k_ ≠ s_.2) s_.1 t221) ∧ (Kd.V Kd.float 55 w' w.heap.size (fun k_ => some k_ ≠ (u7 : Value).ownBlock ∧ k_ ≠ gb216 ∧ k_ ≠ s_.2) (.slice Ao18 x217001_1.length co18) x217001_1) ∧ (Kd.R Kd.float 55 w' w.heap.size (fun _ => True) u7 x7_1) ∧ (w'.heap[gb216]? = some (.cells #[.int .i64 x217000_1, .slice Ao18 x217001_1.length co18] 88 (0, 0))) ∧ (w'.heap[s_.2]? = some (.cells #[.int .i64 0, .slice none 0 0] 88 (0, 0))) ∧ (w.heap.size ≤ s_.2) ∧ (w.heap.size ≤ s_.2) ∧ (gb216 ≠ s_.2) ∧ (s_.2 ≠ gb216) ∧ (Below w.heap.size w w')) ?_ ?_
    rotate_left
    ·intro hCont
     refine two_ (i := 5) (j := 9) (Ni := some 28) (Nj := some 12) #[true, true, true, true, true, true, false, false, false, false, false, false] #[true, true, true, true, true, false, false, false, false, true, false, false] rfl rfl rfl rfl (two_of HT_.out (by kernel_rfl)) (by decide) (by decide) (fun K hK => ?_) (fun K hK => ?_)
     ·skip
      first | refine goes_ Try.func107 (by kernel_rfl) rfl #[.agg #[.int .i64 x217000_1, .slice Ao18 x217001_1.length co18], .agg #[.int .i64 ((rd_T77 l1 (rd l2 x18_1)).f0), .int .i64 ((rd_T77 l1 (rd l2 x18_1)).f1), .int .i64 ((rd_T77 l1 (rd l2 x18_1)).f2), .bool ((rd_T77 l1 (rd l2 x18_1)).f3), .float .f64 ((rd_T77 l1 (rd l2 x18_1)).f4)]] (by rfl) rfl rfl la_ ?_ | refine goesV_ Try.func107 (by kernel_rfl) rfl #[.agg #[.int .i64 x217000_1, .slice Ao18 x217001_1.length co18], .agg #[.int .i64 ((rd_T77 l1 (rd l2 x18_1)).f0), .int .i64 ((rd_T77 l1 (rd l2 x18_1)).f1), .int .i64 ((rd_T77 l1 (rd l2 x18_1)).f2), .bool ((rd_T77 l1 (rd l2 x18_1)).f3), .float .f64 ((rd_T77 l1 (rd l2 x18_1)).f4)]] (by rfl) rfl rfl (by rfl) (by first | rfl | (simp only [List.map_toArray, List.map_cons, List.map_nil]; rfl)) ?_
      with_reducible refine (impl_object_play.calls k1 x217000_1 (fun k_ => (some k_ ≠ (u7 : Value).ownBlock ∧ k_ ≠ gb216)) _ _ x217001_1 ((rd_T77 l1 (rd l2 x18_1)).f0) ((rd_T77 l1 (rd l2 x18_1)).f1) ((rd_T77 l1 (rd l2 x18_1)).f2) ((rd_T77 l1 (rd l2 x18_1)).f3) ((rd_T77 l1 (rd l2 x18_1)).f4) t219 t220 t221 _ ?side1 A16.out).mono ?_
      (case side1 => exact HO_217001.out)
      rintro e w20 ⟨v222, rfl, ho0, hb⟩
      refine ⟨_, rfl, ?_⟩
      have n0_ := a_ (Kd.R_below (r_ HO_7.out) hb)
      have n1_ := a_ (Kd.V_below (by (with_reducible repeat (first | apply Kd.V_alloc | apply Kd.V_drewN | apply Kd.V_drew)); exact HO_217001.out) hb)
      have n2_ := a_ (Kd.V_lower (Kd.V_mono (ok' := fun k_ => some k_ ≠ (u7 : Value).ownBlock ∧ k_ ≠ gb216) ho0 (fun k_ hk_ => ⟨Or.elim hk_ (fun hs_ => hs_.1) (fun hn_ => (Kd.fresh' (Kd.R_lt (r_ HO_7.out)) k_ hn_)), Or.elim hk_ (fun hs_ => hs_.2) (fun hn_ => (Kd.freshB (g := gb216) (o := .cells #[.int .i64 x217000_1, .slice Ao18 x217001_1.length co18] 88 (0, 0)) (q_ BK216.out) k_ hn_))⟩)) (below_size b_))
      have n3_ := a_ (blk_below (g := gb216) (o := .cells #[.int .i64 x217000_1, .slice Ao18 x217001_1.length co18] 88 (0, 0)) (q_ BK216.out) hb)
      have n4_ := a_ (below_step b_ hb)
      clear HO_7; clear HO_217001; clear BK216; clear HB; have HO_7 := n0_; have HO_217001 := n1_; have HO223 := n2_; have BK216 := n3_; have HB := n4_; clear n0_ n1_ n2_ n3_ n4_; (try clear hb); (try clear hb2); (try clear hk); (try clear hi); (try clear ho0)
      refine hK.out _ _ ⟨(blk_cell BK216.out 0).trans rfl, (blk_cell BK216.out 1).trans rfl, ((HB.out.cell (World.block_lt_of_cell? w _ hw218_0)).trans hw218_0), ((HB.out.cell (World.block_lt_of_cell? w _ hw218_1)).trans hw218_1), ((HB.out.cell (World.block_lt_of_cell? w _ hw218_2)).trans hw218_2), ((HB.out.cell (World.block_lt_of_cell? w _ hw218_3)).trans hw218_3), ((HB.out.cell (World.block_lt_of_cell? w _ hw218_4)).trans hw218_4)⟩ (fun hHeld => ?_)
      clear hK K
      refine norm_ (a' := ?_) ?_ ?_
      rotate_left
      ·show Act.put _ (some 28) _ = _
       simp only [Act.put, List.setIfInBounds_toArray, List.set_cons_zero, List.set_cons_succ, i64_w, i32_w]
       rfl
      refine pure_ (i := 6) (N := some 22) (v := ?_) (a' := ?_) #[true, true, true, true, true, true, true, false, false, false, false, false] rfl rfl (any_of HT_.out (by kernel_rfl)) (fun _ _ _ h => h) (Or.inl ⟨by rfl, ?_⟩) ?_ ?_
      rotate_left
      ·intro w'
       go_simp
       with_reducible rfl
      rotate_left
      ·simp only [Act.put, List.setIfInBounds_toArray, List.set_cons_zero, List.set_cons_succ, i64_w, i32_w]
       rfl
      refine pure_ (i := 7) (N := some 29) (v := ?_) (a' := ?_) #[true, true, true, true, true, true, true, true, false, false, false, false] rfl rfl (any_of HT_.out (by kernel_rfl)) (fun _ _ _ h => h) (Or.inl ⟨by rfl, ?_⟩) ?_ ?_
      rotate_left
      ·intro w'
       go_simp
       with_reducible rfl
      rotate_left
      ·simp only [Act.put, List.setIfInBounds_toArray, List.set_cons_zero, List.set_cons_succ, i64_w, i32_w]
       rfl
      refine pure_ (i := 8) (N := some 30) (v := ?_) (a' := ?_) #[true, true, true, true, true, true, true, true, true, false, false, false] rfl rfl (any_of HT_.out (by kernel_rfl)) (fun _ _ _ h => h) (Or.inl ⟨by rfl, ?_⟩) ?_ ?_
      rotate_left
      ·intro w'
       go_simp
       with_reducible rfl
      rotate_left
      ·simp only [Act.put, List.setIfInBounds_toArray, List.set_cons_zero, List.set_cons_succ, i64_w, i32_w]
       rfl
      refine one_ (i := 9) (N := some 12) #[true, true, true, true, true, true, true, true, true, true, false, false] rfl rfl (one_of HT_.out (by kernel_rfl)) (by decide) (fun K hK => ?_)
      refine box_step ?hg (N := 12) ?hd (cs := #[.int .i64 0, .slice none 0 0]) (t := 88) ?hr ?_; (case hd => rfl); (case hg => rfl); (case hr => first | (go_simp; done) | (go_simp; rfl))
      intro gb224 hg w21 hbox hb
      have n0_ := a_ (Kd.R_below (r_ HO_7.out) hb)
      have n1_ := a_ (Kd.V_below (Kd.V_elderB (by (with_reducible repeat (first | apply Kd.V_alloc | apply Kd.V_drewN | apply Kd.V_drew)); exact HO_217001.out) gb224 (Nat.le_of_eq hg.symm)) hb)
      have n2_ := a_ (Kd.V_below (Kd.V_elderB (by (with_reducible repeat (first | apply Kd.V_alloc | apply Kd.V_drewN | apply Kd.V_drew)); exact HO223.out) gb224 (Nat.le_of_eq hg.symm)) hb)
      have n3_ := a_ (blk_below (g := gb216) (o := .cells #[.int .i64 x217000_1, .slice Ao18 x217001_1.length co18] 88 (0, 0)) (q_ BK216.out) hb)
      have n4_ := a_ (below_step b_ hb)
      have n5_ := a_ (hbox)
      have n6_ := a_ ((by rw [hg]; exact (below_size b_) : w.heap.size ≤ gb224))
      have n7_ := a_ ((by rw [hg]; exact (below_size b_) : w.heap.size ≤ gb224))
      have n8_ := a_ ((by rw [hg]; exact Nat.ne_of_lt (blk_lt (g := gb216) (o := .cells #[.int .i64 x217000_1, .slice Ao18 x217001_1.length co18] 88 (0, 0)) (q_ BK216.out)) : gb216 ≠ gb224))
      have n9_ := a_ ((by rw [hg]; exact Nat.ne_of_gt (blk_lt (g := gb216) (o := .cells #[.int .i64 x217000_1, .slice Ao18 x217001_1.length co18] 88 (0, 0)) (q_ BK216.out)) : gb224 ≠ gb216))
      clear HO_7; clear HO_217001; clear HO223; clear BK216; clear HB; have HO_7 := n0_; have HO_217001 := n1_; have HO223 := n2_; have BK216 := n3_; have HB := n4_; have BK224 := n5_; have GW224 := n6_; have GE224 := n7_; have NB216_224 := n8_; have NB224_216 := n9_; clear n0_ n1_ n2_ n3_ n4_ n5_ n6_ n7_ n8_ n9_; clear hb hbox hg
      refine hK.out _ _ ⟨(blk_cell BK216.out 0).trans rfl, (blk_cell BK216.out 1).trans rfl, ((HB.out.cell (World.block_lt_of_cell? w _ hw218_0)).trans hw218_0), ((HB.out.cell (World.block_lt_of_cell? w _ hw218_1)).trans hw218_1), ((HB.out.cell (World.block_lt_of_cell? w _ hw218_2)).trans hw218_2), ((HB.out.cell (World.block_lt_of_cell? w _ hw218_3)).trans hw218_3), ((HB.out.cell (World.block_lt_of_cell? w _ hw218_4)).trans hw218_4)⟩ (fun hHeld => ?_)
      clear hK K
      refine norm_ (a' := ?_) ?_ ?_
      rotate_left
      ·show Act.put _ (some 12) _ = _
       simp only [Act.put, List.setIfInBounds_toArray, List.set_cons_zero, List.set_cons_succ, i64_w, i32_w]
       rfl
      exact norm_ (by simp only [putAll, Act.put, List.setIfInBounds_toArray, List.set_cons_zero, List.set_cons_succ]) (hCont (v222, gb224) _ ⟨hHeld, (by (with_reducible repeat (first | apply Kd.V_alloc | apply Kd.V_drewN | apply Kd.V_drew)); exact Kd.V_mono HO223.out (fun _ hk => ⟨hk.1.1, ⟨hk.1.2, hk.2⟩⟩)), (by (with_reducible repeat (first | apply Kd.V_alloc | apply Kd.V_drewN | apply Kd.V_drew)); exact Kd.V_mono HO_217001.out (fun _ hk => ⟨hk.1.1, ⟨hk.1.2, hk.2⟩⟩)), (r_ HO_7.out), (q_ BK216.out), (q_ BK224.out), GW224.out, GE224.out, NB216_224.out, NB224_216.out, b_⟩)
     ·skip
      refine box_step ?hg (N := 12) ?hd (cs := #[.int .i64 0, .slice none 0 0]) (t := 88) ?hr ?_; (case hd => rfl); (case hg => rfl); (case hr => first | (go_simp; done) | (go_simp; rfl))
      intro gb224 hg w20 hbox hb
      have n0_ := a_ (Kd.R_below (r_ HO_7.out) hb)
      have n1_ := a_ (Kd.V_below (Kd.V_elderB (by (with_reducible repeat (first | apply Kd.V_alloc | apply Kd.V_drewN | apply Kd.V_drew)); exact HO_217001.out) gb224 (Nat.le_of_eq hg.symm)) hb)
      have n2_ := a_ (blk_below (g := gb216) (o := .cells #[.int .i64 x217000_1, .slice Ao18 x217001_1.length co18] 88 (0, 0)) (q_ BK216.out) hb)
      have n3_ := a_ (below_step b_ hb)
      have n4_ := a_ (hbox)
      have n5_ := a_ ((by rw [hg]; exact (below_size b_) : w.heap.size ≤ gb224))
      have n6_ := a_ ((by rw [hg]; exact (below_size b_) : w.heap.size ≤ gb224))
      have n7_ := a_ ((by rw [hg]; exact Nat.ne_of_lt (blk_lt (g := gb216) (o := .cells #[.int .i64 x217000_1, .slice Ao18 x217001_1.length co18] 88 (0, 0)) (q_ BK216.out)) : gb216 ≠ gb224))
      have n8_ := a_ ((by rw [hg]; exact Nat.ne_of_gt (blk_lt (g := gb216) (o := .cells #[.int .i64 x217000_1, .slice Ao18 x217001_1.length co18] 88 (0, 0)) (q_ BK216.out)) : gb224 ≠ gb216))
      clear HO_7; clear HO_217001; clear BK216; clear HB; have HO_7 := n0_; have HO_217001 := n1_; have BK216 := n2_; have HB := n3_; have BK224 := n4_; have GW224 := n5_; have GE224 := n6_; have NB216_224 := n7_; have NB224_216 := n8_; clear n0_ n1_ n2_ n3_ n4_ n5_ n6_ n7_ n8_; clear hb hbox hg
      refine hK.out _ _ ⟨(blk_cell BK216.out 0).trans rfl, (blk_cell BK216.out 1).trans rfl, ((HB.out.cell (World.block_lt_of_cell? w _ hw218_0)).trans hw218_0), ((HB.out.cell (World.block_lt_of_cell? w _ hw218_1)).trans hw218_1), ((HB.out.cell (World.block_lt_of_cell? w _ hw218_2)).trans hw218_2), ((HB.out.cell (World.block_lt_of_cell? w _ hw218_3)).trans hw218_3), ((HB.out.cell (World.block_lt_of_cell? w _ hw218_4)).trans hw218_4)⟩ (fun hHeld => ?_)
      clear hK K
      refine norm_ (a' := ?_) ?_ ?_
      rotate_left
      ·show Act.put _ (some 12) _ = _
       simp only [Act.put, List.setIfInBounds_toArray, List.set_cons_zero, List.set_cons_succ, i64_w, i32_w]
       rfl
      refine one_ (i := 5) (N := some 28) #[true, true, true, true, true, true, false, false, false, true, false, false] rfl rfl (one_of HT_.out (by kernel_rfl)) (by decide) (fun K hK => ?_)
      first | refine goes_ Try.func107 (by kernel_rfl) rfl #[.agg #[.int .i64 x217000_1, .slice Ao18 x217001_1.length co18], .agg #[.int .i64 ((rd_T77 l1 (rd l2 x18_1)).f0), .int .i64 ((rd_T77 l1 (rd l2 x18_1)).f1), .int .i64 ((rd_T77 l1 (rd l2 x18_1)).f2), .bool ((rd_T77 l1 (rd l2 x18_1)).f3), .float .f64 ((rd_T77 l1 (rd l2 x18_1)).f4)]] (by rfl) rfl rfl la_ ?_ | refine goesV_ Try.func107 (by kernel_rfl) rfl #[.agg #[.int .i64 x217000_1, .slice Ao18 x217001_1.length co18], .agg #[.int .i64 ((rd_T77 l1 (rd l2 x18_1)).f0), .int .i64 ((rd_T77 l1 (rd l2 x18_1)).f1), .int .i64 ((rd_T77 l1 (rd l2 x18_1)).f2), .bool ((rd_T77 l1 (rd l2 x18_1)).f3), .float .f64 ((rd_T77 l1 (rd l2 x18_1)).f4)]] (by rfl) rfl rfl (by rfl) (by first | rfl | (simp only [List.map_toArray, List.map_cons, List.map_nil]; rfl)) ?_
      with_reducible refine (impl_object_play.calls k1 x217000_1 (fun k_ => ((some k_ ≠ (u7 : Value).ownBlock ∧ k_ ≠ gb216) ∧ k_ ≠ gb224)) _ _ x217001_1 ((rd_T77 l1 (rd l2 x18_1)).f0) ((rd_T77 l1 (rd l2 x18_1)).f1) ((rd_T77 l1 (rd l2 x18_1)).f2) ((rd_T77 l1 (rd l2 x18_1)).f3) ((rd_T77 l1 (rd l2 x18_1)).f4) t219 t220 t221 _ ?side1 A16.out).mono ?_
      (case side1 => exact HO_217001.out)
      rintro e w21 ⟨v222, rfl, ho0, hb⟩
      refine ⟨_, rfl, ?_⟩
      have n0_ := a_ (Kd.R_below (r_ HO_7.out) hb)
      have n1_ := a_ (Kd.V_below (by (with_reducible repeat (first | apply Kd.V_alloc | apply Kd.V_drewN | apply Kd.V_drew)); exact HO_217001.out) hb)
      have n2_ := a_ (Kd.V_lower (Kd.V_mono (ok' := fun k_ => some k_ ≠ (u7 : Value).ownBlock ∧ k_ ≠ gb216 ∧ k_ ≠ gb224) ho0 (fun k_ hk_ => ⟨Or.elim hk_ (fun hs_ => hs_.1.1) (fun hn_ => (Kd.fresh' (Kd.R_lt (r_ HO_7.out)) k_ hn_)), Or.elim hk_ (fun hs_ => hs_.1.2) (fun hn_ => (Kd.freshB (g := gb216) (o := .cells #[.int .i64 x217000_1, .slice Ao18 x217001_1.length co18] 88 (0, 0)) (q_ BK216.out) k_ hn_)), Or.elim hk_ (fun hs_ => hs_.2) (fun hn_ => (Kd.freshB (g := gb224) (o := .cells #[.int .i64 0, .slice none 0 0] 88 (0, 0)) (q_ BK224.out) k_ hn_))⟩)) (below_size b_))
      have n3_ := a_ (blk_below (g := gb216) (o := .cells #[.int .i64 x217000_1, .slice Ao18 x217001_1.length co18] 88 (0, 0)) (q_ BK216.out) hb)
      have n4_ := a_ (blk_below (g := gb224) (o := .cells #[.int .i64 0, .slice none 0 0] 88 (0, 0)) (q_ BK224.out) hb)
      have n5_ := a_ (below_step b_ hb)
      clear HO_7; clear HO_217001; clear BK216; clear BK224; clear HB; have HO_7 := n0_; have HO_217001 := n1_; have HO223 := n2_; have BK216 := n3_; have BK224 := n4_; have HB := n5_; clear n0_ n1_ n2_ n3_ n4_ n5_; (try clear hb); (try clear hb2); (try clear hk); (try clear hi); (try clear ho0)
      refine hK.out _ _ ⟨(blk_cell BK216.out 0).trans rfl, (blk_cell BK216.out 1).trans rfl, ((HB.out.cell (World.block_lt_of_cell? w _ hw218_0)).trans hw218_0), ((HB.out.cell (World.block_lt_of_cell? w _ hw218_1)).trans hw218_1), ((HB.out.cell (World.block_lt_of_cell? w _ hw218_2)).trans hw218_2), ((HB.out.cell (World.block_lt_of_cell? w _ hw218_3)).trans hw218_3), ((HB.out.cell (World.block_lt_of_cell? w _ hw218_4)).trans hw218_4)⟩ (fun hHeld => ?_)
      clear hK K
      refine norm_ (a' := ?_) ?_ ?_
      rotate_left
      ·show Act.put _ (some 28) _ = _
       simp only [Act.put, List.setIfInBounds_toArray, List.set_cons_zero, List.set_cons_succ, i64_w, i32_w]
       rfl
      refine pure_ (i := 6) (N := some 22) (v := ?_) (a' := ?_) #[true, true, true, true, true, true, true, false, false, true, false, false] rfl rfl (any_of HT_.out (by kernel_rfl)) (fun _ _ _ h => h) (Or.inl ⟨by rfl, ?_⟩) ?_ ?_
      rotate_left
      ·intro w'
       go_simp
       with_reducible rfl
      rotate_left
      ·simp only [Act.put, List.setIfInBounds_toArray, List.set_cons_zero, List.set_cons_succ, i64_w, i32_w]
       rfl
      refine pure_ (i := 7) (N := some 29) (v := ?_) (a' := ?_) #[true, true, true, true, true, true, true, true, false, true, false, false] rfl rfl (any_of HT_.out (by kernel_rfl)) (fun _ _ _ h => h) (Or.inl ⟨by rfl, ?_⟩) ?_ ?_
      rotate_left
      ·intro w'
       go_simp
       with_reducible rfl
      rotate_left
      ·simp only [Act.put, List.setIfInBounds_toArray, List.set_cons_zero, List.set_cons_succ, i64_w, i32_w]
       rfl
      refine pure_ (i := 8) (N := some 30) (v := ?_) (a' := ?_) #[true, true, true, true, true, true, true, true, true, true, false, false] rfl rfl (any_of HT_.out (by kernel_rfl)) (fun _ _ _ h => h) (Or.inl ⟨by rfl, ?_⟩) ?_ ?_
      rotate_left
      ·intro w'
       go_simp
       with_reducible rfl
      rotate_left
      ·simp only [Act.put, List.setIfInBounds_toArray, List.set_cons_zero, List.set_cons_succ, i64_w, i32_w]
       rfl
      exact norm_ (by simp only [putAll, Act.put, List.setIfInBounds_toArray, List.set_cons_zero, List.set_cons_succ]) (hCont (v222, gb224) _ ⟨hHeld, (by (with_reducible repeat (first | apply Kd.V_alloc | apply Kd.V_drewN | apply Kd.V_drew)); exact HO223.out), (by (with_reducible repeat (first | apply Kd.V_alloc | apply Kd.V_drewN | apply Kd.V_drew)); exact Kd.V_mono HO_217001.out (fun _ hk => ⟨hk.1.1, ⟨hk.1.2, hk.2⟩⟩)), (r_ HO_7.out), (q_ BK216.out), (q_ BK224.out), GW224.out, GE224.out, NB216_224.out, NB224_216.out, b_⟩)
    rintro ⟨v222, gb224⟩ w22 ⟨hS_, h0_, h1_, h2_, h3_, h4_, h5_, h6_, h7_, h8_, h9_⟩
    have n0_ : Aside0 (Kd.V Kd.float 55 w22 w.heap.size (fun k_ => some k_ ≠ (u7 : Value).ownBlock ∧ k_ ≠ gb216 ∧ k_ ≠ gb224) v222 t221) := ⟨h0_⟩
    have n1_ : Aside0 (Kd.V Kd.float 55 w22 w.heap.size (fun k_ => some k_ ≠ (u7 : Value).ownBlock ∧ k_ ≠ gb216 ∧ k_ ≠ gb224) (.slice Ao18 x217001_1.length co18) x217001_1) := ⟨h1_⟩
    have n2_ : Aside0 (Kd.R Kd.float 55 w22 w.heap.size (fun _ => True) u7 x7_1) := ⟨h2_⟩
    have n3_ : Aside0 (w22.heap[gb216]? = some (.cells #[.int .i64 x217000_1, .slice Ao18 x217001_1.length co18] 88 (0, 0))) := ⟨h3_⟩
    have n4_ : Aside0 (w22.heap[gb224]? = some (.cells #[.int .i64 0, .slice none 0 0] 88 (0, 0))) := ⟨h4_⟩
    have n5_ : Aside0 (w.heap.size ≤ gb224) := ⟨h5_⟩
    have n6_ : Aside0 (w.heap.size ≤ gb224) := ⟨h6_⟩
    have n7_ : Aside0 (gb216 ≠ gb224) := ⟨h7_⟩
    have n8_ : Aside0 (gb224 ≠ gb216) := ⟨h8_⟩
    have n9_ : Aside0 (Below w.heap.size w w22) := ⟨h9_⟩
    clear HO_7; clear HO_217001; clear BK216; clear HB; clear h0_ h1_ h2_ h3_ h4_ h5_ h6_ h7_ h8_ h9_; have HO223 := n0_; have HO_217001 := n1_; have HO_7 := n2_; have BK216 := n3_; have BK224 := n4_; have GW224 := n5_; have GE224 := n6_; have NB216_224 := n7_; have NB224_216 := n8_; have HB := n9_; clear n0_ n1_ n2_ n3_ n4_ n5_ n6_ n7_ n8_ n9_
    have hHeld : w22.cell? ⟨gb216, 0, none⟩ = some (.int .i64 x217000_1) ∧ w22.cell? ⟨gb216, 1, none⟩ = some (.slice Ao18 x217001_1.length co18) ∧ w22.cell? (ad218.add (((rd l2 x18_1)).toNat * 5)) = some (.int .i64 ((rd_T77 l1 (rd l2 x18_1)).f0)) ∧ w22.cell? ⟨(ad218.add (((rd l2 x18_1)).toNat * 5)).block, (ad218.add (((rd l2 x18_1)).toNat * 5)).off + 1, none⟩ = some (.int .i64 ((rd_T77 l1 (rd l2 x18_1)).f1)) ∧ w22.cell? ⟨(ad218.add (((rd l2 x18_1)).toNat * 5)).block, (ad218.add (((rd l2 x18_1)).toNat * 5)).off + 2, none⟩ = some (.int .i64 ((rd_T77 l1 (rd l2 x18_1)).f2)) ∧ w22.cell? ⟨(ad218.add (((rd l2 x18_1)).toNat * 5)).block, (ad218.add (((rd l2 x18_1)).toNat * 5)).off + 3, none⟩ = some (.bool ((rd_T77 l1 (rd l2 x18_1)).f3)) ∧ w22.cell? ⟨(ad218.add (((rd l2 x18_1)).toNat * 5)).block, (ad218.add (((rd l2 x18_1)).toNat * 5)).off + 4, none⟩ = some (.float .f64 ((rd_T77 l1 (rd l2 x18_1)).f4)) := hS_
    obtain ⟨Ao24, co24, eo24⟩ := Kd.V_slice HO223.out
    (first | subst eo24 | (injection eo24 with f1_ f2_ f3_; have f4_ := f1_.symm; have f5_ := f3_.symm; clear f1_ f2_ f3_; subst f4_; subst f5_))
    refine norm_ (a' := ?_) ?_ ?_
    rotate_left
    ·simp only [putAll, Act.put, List.setIfInBounds_toArray, List.set_cons_zero, List.set_cons_succ]
     rfl
    refine pure_ (i := 10) (N := some 11) (v := ?_) (a' := ?_) #[true, true, true, true, true, true, true, true, true, true, true, false] rfl rfl (any_of HT_.out (by kernel_rfl)) (fun _ _ _ h => h) (Or.inl ⟨by rfl, ?_⟩) ?_ ?_
    rotate_left
    ·intro w'
     go_simp
     with_reducible rfl
    rotate_left
    ·simp only [Act.put, List.setIfInBounds_toArray, List.set_cons_zero, List.set_cons_succ, i64_w, i32_w]
     rfl
    refine one_ (i := 11) (N := none) #[true, true, true, true, true, true, true, true, true, true, true, true] rfl rfl (one_of HT_.out (by kernel_rfl)) (by decide) (fun K hK => ?_)
    have hs23 : w22.cell? ⟨gb224, 0, none⟩ = some (.int .i64 0) := (blk_cell BK224.out 0).trans rfl
    have hfs23 := blk_frozen BK224.out 0
    have hns23_0 := NB216_224.out; have hms23_0 := NB224_216.out
    have hs25 : w22.cell? ⟨gb224, 1, none⟩ = some (.slice none 0 0) := (blk_cell BK224.out 1).trans rfl
    have hfs25 := blk_frozen BK224.out 1
    have hns25_0 := NB216_224.out; have hms25_0 := NB224_216.out
    refine skip_ (w1 := ?_) (by rfl) rfl ?_ ?_
    rotate_left
    ·go_simp
     rfl
    refine hK.out _ _ ⟨((cell_far (p := ⟨gb224, _, none⟩) NB216_224.out _).trans (((cell_far (p := ⟨gb224, _, none⟩) NB216_224.out _).trans (hHeld.1)))), ((cell_far (p := ⟨gb224, _, none⟩) NB216_224.out _).trans (((cell_far (p := ⟨gb224, _, none⟩) NB216_224.out _).trans (hHeld.2.1)))), ((cell_far (p := ⟨gb224, _, none⟩) (by first | exact Nat.ne_of_lt (Nat.lt_of_lt_of_le (by have := World.block_lt_of_cell? _ _ hw218_0; first | rwa [add_block] at this | exact this) GW224.out) | (rw [add_block]; exact Nat.ne_of_lt (Nat.lt_of_lt_of_le (by have := World.block_lt_of_cell? _ _ hw218_0; first | rwa [add_block] at this | exact this) GW224.out)) | (show (Addr.add _ _).block ≠ _; rw [add_block]; exact Nat.ne_of_lt (Nat.lt_of_lt_of_le (by have := World.block_lt_of_cell? _ _ hw218_0; first | rwa [add_block] at this | exact this) GW224.out)) | (dsimp only; exact Nat.ne_of_lt (Nat.lt_of_lt_of_le (by have := World.block_lt_of_cell? _ _ hw218_0; first | rwa [add_block] at this | exact this) GW224.out))) _).trans (((cell_far (p := ⟨gb224, _, none⟩) (by first | exact Nat.ne_of_lt (Nat.lt_of_lt_of_le (by have := World.block_lt_of_cell? _ _ hw218_0; first | rwa [add_block] at this | exact this) GW224.out) | (rw [add_block]; exact Nat.ne_of_lt (Nat.lt_of_lt_of_le (by have := World.block_lt_of_cell? _ _ hw218_0; first | rwa [add_block] at this | exact this) GW224.out)) | (show (Addr.add _ _).block ≠ _; rw [add_block]; exact Nat.ne_of_lt (Nat.lt_of_lt_of_le (by have := World.block_lt_of_cell? _ _ hw218_0; first | rwa [add_block] at this | exact this) GW224.out)) | (dsimp only; exact Nat.ne_of_lt (Nat.lt_of_lt_of_le (by have := World.block_lt_of_cell? _ _ hw218_0; first | rwa [add_block] at this | exact this) GW224.out))) _).trans (hHeld.2.2.1)))), ((cell_far (p := ⟨gb224, _, none⟩) (by first | exact Nat.ne_of_lt (Nat.lt_of_lt_of_le (by have := World.block_lt_of_cell? _ _ hw218_1; first | rwa [add_block] at this | exact this) GW224.out) | (rw [add_block]; exact Nat.ne_of_lt (Nat.lt_of_lt_of_le (by have := World.block_lt_of_cell? _ _ hw218_1; first | rwa [add_block] at this | exact this) GW224.out)) | (show (Addr.add _ _).block ≠ _; rw [add_block]; exact Nat.ne_of_lt (Nat.lt_of_lt_of_le (by have := World.block_lt_of_cell? _ _ hw218_1; first | rwa [add_block] at this | exact this) GW224.out)) | (dsimp only; exact Nat.ne_of_lt (Nat.lt_of_lt_of_le (by have := World.block_lt_of_cell? _ _ hw218_1; first | rwa [add_block] at this | exact this) GW224.out))) _).trans (((cell_far (p := ⟨gb224, _, none⟩) (by first | exact Nat.ne_of_lt (Nat.lt_of_lt_of_le (by have := World.block_lt_of_cell? _ _ hw218_1; first | rwa [add_block] at this | exact this) GW224.out) | (rw [add_block]; exact Nat.ne_of_lt (Nat.lt_of_lt_of_le (by have := World.block_lt_of_cell? _ _ hw218_1; first | rwa [add_block] at this | exact this) GW224.out)) | (show (Addr.add _ _).block ≠ _; rw [add_block]; exact Nat.ne_of_lt (Nat.lt_of_lt_of_le (by have := World.block_lt_of_cell? _ _ hw218_1; first | rwa [add_block] at this | exact this) GW224.out)) | (dsimp only; exact Nat.ne_of_lt (Nat.lt_of_lt_of_le (by have := World.block_lt_of_cell? _ _ hw218_1; first | rwa [add_block] at this | exact this) GW224.out))) _).trans (hHeld.2.2.2.1)))), ((cell_far (p := ⟨gb224, _, none⟩) (by first | exact Nat.ne_of_lt (Nat.lt_of_lt_of_le (by have := World.block_lt_of_cell? _ _ hw218_2; first | rwa [add_block] at this | exact this) GW224.out) | (rw [add_block]; exact Nat.ne_of_lt (Nat.lt_of_lt_of_le (by have := World.block_lt_of_cell? _ _ hw218_2; first | rwa [add_block] at this | exact this) GW224.out)) | (show (Addr.add _ _).block ≠ _; rw [add_block]; exact Nat.ne_of_lt (Nat.lt_of_lt_of_le (by have := World.block_lt_of_cell? _ _ hw218_2; first | rwa [add_block] at this | exact this) GW224.out)) | (dsimp only; exact Nat.ne_of_lt (Nat.lt_of_lt_of_le (by have := World.block_lt_of_cell? _ _ hw218_2; first | rwa [add_block] at this | exact this) GW224.out))) _).trans (((cell_far (p := ⟨gb224, _, none⟩) (by first | exact Nat.ne_of_lt (Nat.lt_of_lt_of_le (by have := World.block_lt_of_cell? _ _ hw218_2; first | rwa [add_block] at this | exact this) GW224.out) | (rw [add_block]; exact Nat.ne_of_lt (Nat.lt_of_lt_of_le (by have := World.block_lt_of_cell? _ _ hw218_2; first | rwa [add_block] at this | exact this) GW224.out)) | (show (Addr.add _ _).block ≠ _; rw [add_block]; exact Nat.ne_of_lt (Nat.lt_of_lt_of_le (by have := World.block_lt_of_cell? _ _ hw218_2; first | rwa [add_block] at this | exact this) GW224.out)) | (dsimp only; exact Nat.ne_of_lt (Nat.lt_of_lt_of_le (by have := World.block_lt_of_cell? _ _ hw218_2; first | rwa [add_block] at this | exact this) GW224.out))) _).trans (hHeld.2.2.2.2.1)))), ((cell_far (p := ⟨gb224, _, none⟩) (by first | exact Nat.ne_of_lt (Nat.lt_of_lt_of_le (by have := World.block_lt_of_cell? _ _ hw218_3; first | rwa [add_block] at this | exact this) GW224.out) | (rw [add_block]; exact Nat.ne_of_lt (Nat.lt_of_lt_of_le (by have := World.block_lt_of_cell? _ _ hw218_3; first | rwa [add_block] at this | exact this) GW224.out)) | (show (Addr.add _ _).block ≠ _; rw [add_block]; exact Nat.ne_of_lt (Nat.lt_of_lt_of_le (by have := World.block_lt_of_cell? _ _ hw218_3; first | rwa [add_block] at this | exact this) GW224.out)) | (dsimp only; exact Nat.ne_of_lt (Nat.lt_of_lt_of_le (by have := World.block_lt_of_cell? _ _ hw218_3; first | rwa [add_block] at this | exact this) GW224.out))) _).trans (((cell_far (p := ⟨gb224, _, none⟩) (by first | exact Nat.ne_of_lt (Nat.lt_of_lt_of_le (by have := World.block_lt_of_cell? _ _ hw218_3; first | rwa [add_block] at this | exact this) GW224.out) | (rw [add_block]; exact Nat.ne_of_lt (Nat.lt_of_lt_of_le (by have := World.block_lt_of_cell? _ _ hw218_3; first | rwa [add_block] at this | exact this) GW224.out)) | (show (Addr.add _ _).block ≠ _; rw [add_block]; exact Nat.ne_of_lt (Nat.lt_of_lt_of_le (by have := World.block_lt_of_cell? _ _ hw218_3; first | rwa [add_block] at this | exact this) GW224.out)) | (dsimp only; exact Nat.ne_of_lt (Nat.lt_of_lt_of_le (by have := World.block_lt_of_cell? _ _ hw218_3; first | rwa [add_block] at this | exact this) GW224.out))) _).trans (hHeld.2.2.2.2.2.1)))), ((cell_far (p := ⟨gb224, _, none⟩) (by first | exact Nat.ne_of_lt (Nat.lt_of_lt_of_le (by have := World.block_lt_of_cell? _ _ hw218_4; first | rwa [add_block] at this | exact this) GW224.out) | (rw [add_block]; exact Nat.ne_of_lt (Nat.lt_of_lt_of_le (by have := World.block_lt_of_cell? _ _ hw218_4; first | rwa [add_block] at this | exact this) GW224.out)) | (show (Addr.add _ _).block ≠ _; rw [add_block]; exact Nat.ne_of_lt (Nat.lt_of_lt_of_le (by have := World.block_lt_of_cell? _ _ hw218_4; first | rwa [add_block] at this | exact this) GW224.out)) | (dsimp only; exact Nat.ne_of_lt (Nat.lt_of_lt_of_le (by have := World.block_lt_of_cell? _ _ hw218_4; first | rwa [add_block] at this | exact this) GW224.out))) _).trans (((cell_far (p := ⟨gb224, _, none⟩) (by first | exact Nat.ne_of_lt (Nat.lt_of_lt_of_le (by have := World.block_lt_of_cell? _ _ hw218_4; first | rwa [add_block] at this | exact this) GW224.out) | (rw [add_block]; exact Nat.ne_of_lt (Nat.lt_of_lt_of_le (by have := World.block_lt_of_cell? _ _ hw218_4; first | rwa [add_block] at this | exact this) GW224.out)) | (show (Addr.add _ _).block ≠ _; rw [add_block]; exact Nat.ne_of_lt (Nat.lt_of_lt_of_le (by have := World.block_lt_of_cell? _ _ hw218_4; first | rwa [add_block] at this | exact this) GW224.out)) | (dsimp only; exact Nat.ne_of_lt (Nat.lt_of_lt_of_le (by have := World.block_lt_of_cell? _ _ hw218_4; first | rwa [add_block] at this | exact this) GW224.out))) _).trans (hHeld.2.2.2.2.2.2))))⟩ (fun hHeld => ?_)
    clear hK K
    refine done_ (done_of HT_.out (by kernel_rfl)) ?_
    try go_wp2
    have n0_ : Aside0 (Kd.R Kd.float 55 ((w22.setCell ⟨gb224, 0, none⟩ (.int .i64 t220)).setCell ⟨gb224, 1, none⟩ (.slice Ao24 t221.length co24)) w.heap.size (fun _ => True) u7 x7_1) := ⟨by refine r_ ?_; exact Kd.R_mono (Kd.R_far (p := ⟨gb224, 1, none⟩) (Kd.R_far (p := ⟨gb224, 0, none⟩) (Kd.R_types HO_7.out BK224.out (by decide)) (fun _ hk => hk.2) (.int .i64 t220)) (fun _ hk => hk.2) (.slice Ao24 t221.length co24)) (fun _ hk => trivial)⟩
    have n1_ : Aside0 (Kd.V Kd.float 55 ((w22.setCell ⟨gb224, 0, none⟩ (.int .i64 t220)).setCell ⟨gb224, 1, none⟩ (.slice Ao24 t221.length co24)) w.heap.size (fun k_ => some k_ ≠ (u7 : Value).ownBlock ∧ k_ ≠ gb216 ∧ k_ ≠ gb224) (.slice Ao18 x217001_1.length co18) x217001_1) := ⟨by (with_reducible repeat (first | apply Kd.V_alloc | apply Kd.V_drewN | apply Kd.V_drew)); exact Kd.V_mono (Kd.V_far (p := ⟨gb224, 1, none⟩) (Kd.V_far (p := ⟨gb224, 0, none⟩) (Kd.V_mono HO_217001.out (fun k_ hk => (⟨hk, hk.2.2⟩ : _ ∧ k_ ≠ gb224))) (fun _ hk => hk.2) (.int .i64 t220)) (fun _ hk => hk.2) (.slice Ao24 t221.length co24)) (fun _ hk => ⟨hk.1.1, ⟨hk.1.2.1, hk.1.2.2⟩⟩)⟩
    have n2_ : Aside0 (Kd.V Kd.float 55 ((w22.setCell ⟨gb224, 0, none⟩ (.int .i64 t220)).setCell ⟨gb224, 1, none⟩ (.slice Ao24 t221.length co24)) w.heap.size (fun k_ => some k_ ≠ (u7 : Value).ownBlock ∧ k_ ≠ gb216 ∧ k_ ≠ gb224) (.slice Ao24 t221.length co24) t221) := ⟨by (with_reducible repeat (first | apply Kd.V_alloc | apply Kd.V_drewN | apply Kd.V_drew)); exact Kd.V_mono (Kd.V_far (p := ⟨gb224, 1, none⟩) (Kd.V_far (p := ⟨gb224, 0, none⟩) (Kd.V_mono HO223.out (fun k_ hk => (⟨hk, hk.2.2⟩ : _ ∧ k_ ≠ gb224))) (fun _ hk => hk.2) (.int .i64 t220)) (fun _ hk => hk.2) (.slice Ao24 t221.length co24)) (fun _ hk => ⟨hk.1.1, ⟨hk.1.2.1, hk.1.2.2⟩⟩)⟩
    have n3_ : Aside0 (((w22.setCell ⟨gb224, 0, none⟩ (.int .i64 t220)).setCell ⟨gb224, 1, none⟩ (.slice Ao24 t221.length co24)).heap[gb216]? = some (.cells #[.int .i64 x217000_1, .slice Ao18 x217001_1.length co18] 88 (0, 0))) := ⟨by refine q_ ?_; refine blk_far ?_ NB216_224.out _; refine q_ ?_; refine blk_far ?_ NB216_224.out _; exact q_ BK216.out⟩
    have n4_ : Aside0 (((w22.setCell ⟨gb224, 0, none⟩ (.int .i64 t220)).setCell ⟨gb224, 1, none⟩ (.slice Ao24 t221.length co24)).heap[gb224]? = some (.cells #[.int .i64 t220, .slice Ao24 t221.length co24] 88 (0, 0))) := ⟨by refine q_ ?_; refine blk_put (cs := #[.int .i64 t220, .slice none 0 0]) ?_ 1 _ rfl; refine q_ ?_; refine blk_put (cs := #[.int .i64 0, .slice none 0 0]) ?_ 0 _ rfl; exact q_ BK224.out⟩
    have n5_ : Aside0 (Below w.heap.size w ((w22.setCell ⟨gb224, 0, none⟩ (.int .i64 t220)).setCell ⟨gb224, 1, none⟩ (.slice Ao24 t221.length co24))) := ⟨b_⟩
    (try clear HO_7); (try clear HO_217001); (try clear HO223); (try clear BK216); (try clear BK224); (try clear HB)
    generalize ((w22.setCell ⟨gb224, 0, none⟩ (.int .i64 t220)).setCell ⟨gb224, 1, none⟩ (.slice Ao24 t221.length co24)) = w26 at n0_ n1_ n2_ n3_ n4_ n5_ ⊢
    have HO_7 := n0_; have HO_217001 := n1_; have HO223 := n2_; have BK216 := n3_; have BK224 := n4_; have HB := n5_; clear n0_ n1_ n2_ n3_ n4_ n5_
    have n0_ := a_ (Kd.R_drew HO_7.out)
    have n1_ := a_ (Kd.V_drew HO_217001.out)
    have n2_ := a_ (Kd.V_drew HO223.out)
    have n3_ := a_ (blk_drew BK216.out)
    have n4_ := a_ (blk_drew BK224.out)
    have n5_ := a_ (below_drew1 HB.out)
    clear HO_7; clear HO_217001; clear HO223; clear BK216; clear BK224; clear HB; have HO_7 := n0_; have HO_217001 := n1_; have HO223 := n2_; have BK216 := n3_; have BK224 := n4_; have HB := n5_; clear n0_ n1_ n2_ n3_ n4_ n5_
    refine start_ (n := 7) (S := fun w' => w'.cell? ⟨gb224, 0, none⟩ = some (.int .i64 t220) ∧ w'.cell? ⟨gb224, 1, none⟩ = some (.slice Ao24 t221.length co24)) (ds := []) #[false, false, false, false, false, false, false] (by kernel_rfl) rfl rfl ⟨(blk_cell BK224.out 0).trans rfl, (blk_cell BK224.out 1).trans rfl⟩ (fun hHeld => ?_)
    generalize w26.drew = w27 at HO_7 HO_217001 HO223 BK216 BK224 HB hHeld ⊢
    refine pure_ (i := 0) (N := some 31) (v := ?_) (a' := ?_) #[true, false, false, false, false, false, false] rfl rfl (by kernel_rfl) (fun _ _ _ h => h) (Or.inl ⟨by rfl, ?_⟩) ?_ ?_
    rotate_left
    ·intro w'
     go_simp
     with_reducible rfl
    rotate_left
    ·simp only [Act.put, List.setIfInBounds_toArray, List.set_cons_zero, List.set_cons_succ, i64_w, i32_w]
     rfl
    refine pure_ (i := 1) (N := some 32) (v := ?_) (a' := ?_) #[true, true, false, false, false, false, false] rfl rfl (by kernel_rfl) (fun _ _ _ h => h) (Or.inl ⟨by rfl, ?_⟩) ?_ ?_
    rotate_left
    ·intro w'
     go_simp
     with_reducible rfl
    rotate_left
    ·simp only [Act.put, List.setIfInBounds_toArray, List.set_cons_zero, List.set_cons_succ, i64_w, i32_w]
     rfl
    refine take_ (i := 4) (N := some 35) (v := ?_) (a' := ?_) #[true, true, false, false, true, false, false] rfl rfl (by kernel_rfl) (fun _ _ _ h => h) (Or.inl ⟨by rfl, ?_⟩) hHeld ?_ ?_
    rotate_left
    ·rintro w' ⟨s0, s1⟩
     go_simp
     with_reducible rfl
    rotate_left
    ·simp only [Act.put, List.setIfInBounds_toArray, List.set_cons_zero, List.set_cons_succ, i64_w, i32_w]
     rfl
    refine one_ (i := 2) (N := some 33) #[true, true, true, false, true, false, false] rfl rfl (by kernel_rfl) (by decide) (fun K hK => ?_)
    refine value_ (w1 := ?_) (v := ?_) (by rfl) rfl ?_ ?_
    rotate_left 2
    ·go_simp
     constructor
     ·rfl
     ·rfl
    refine hK.out _ _ ⟨(blk_cell (blk_alloc BK224.out _) 0).trans rfl, (blk_cell (blk_alloc BK224.out _) 1).trans rfl⟩ (fun hHeld => ?_)
    clear hK K
    refine norm_ (a' := ?_) ?_ ?_
    rotate_left
    ·show Act.put _ (some 33) _ = _
     simp only [Act.put, List.setIfInBounds_toArray, List.set_cons_zero, List.set_cons_succ, i64_w, i32_w]
     rfl
    refine one_ (i := 3) (N := some 34) #[true, true, true, true, true, false, false] rfl rfl (by kernel_rfl) (by decide) (fun K hK => ?_)
    refine Kd.R_append_step Kd.float (w0 := w) w.heap.size (by rfl) (.tmp 31) (.tmp 33) 25 55 (.float .f64 0) 8 rfl Try.underlying25 info55 rfl (by decide) (by omega) u7 x7_1 t219 [.float .f64 t219] (fun _ => True) (fun _ => False) rfl rfl ?aP (fun _ hk => hk.elim) ?aF ?aO ?aB ?aS ?aL ?_
    (case aP => exact rfl)
    (case aB => exact b_)
    (case aF => exact (fun _ _ => trivial))
    (case aO => exact (r_ HO_7.out))
    (case aS => exact (below_size b_))
    (case aL => have := LMc17.out; omega)
    intro v226 w28 ho hb hg hat
    rw [← Ny225.out] at ho
    have n0_ := a_ (Kd.V_afterv (ok := (fun k_ => k_ ≠ gb216 ∧ k_ ≠ gb224)) (by (with_reducible repeat (first | apply Kd.V_alloc | apply Kd.V_drewN | apply Kd.V_drew)); exact Kd.V_mono HO_217001.out (fun _ hk => ⟨⟨hk.2.1, hk.2.2⟩, hk.1⟩)) hg hat)
    have n1_ := a_ (blk_grown (g := gb216) (o := .cells #[.int .i64 x217000_1, .slice Ao18 x217001_1.length co18] 88 (0, 0)) (q_ BK216.out) hg (Kd.R_ne HO_7.out BK216.out (by decide)))
    have n2_ := a_ (Kd.V_afterv (ok := (fun k_ => k_ ≠ gb216 ∧ k_ ≠ gb224)) (by (with_reducible repeat (first | apply Kd.V_alloc | apply Kd.V_drewN | apply Kd.V_drew)); exact Kd.V_mono HO223.out (fun _ hk => ⟨⟨hk.2.1, hk.2.2⟩, hk.1⟩)) hg hat)
    have n3_ := a_ (blk_grown (g := gb224) (o := .cells #[.int .i64 t220, .slice Ao24 t221.length co24] 88 (0, 0)) (q_ BK224.out) hg (Kd.R_ne HO_7.out BK224.out (by decide)))
    have n4_ := a_ (hb)
    have n5_ := a_ (ho)
    clear HO_217001; clear BK216; clear HO223; clear BK224; clear HB; clear HO_7; have HO_217001 := n0_; have BK216 := n1_; have HO223 := n2_; have BK224 := n3_; have HB := n4_; have HO227 := n5_; clear n0_ n1_ n2_ n3_ n4_ n5_; clear ho hb hg hat
    refine hK.out _ _ ⟨(blk_cell BK224.out 0).trans rfl, (blk_cell BK224.out 1).trans rfl⟩ (fun hHeld => ?_)
    clear hK K
    refine norm_ (a' := ?_) ?_ ?_
    rotate_left
    ·show Act.put _ (some 34) _ = _
     simp only [Act.put, List.setIfInBounds_toArray, List.set_cons_zero, List.set_cons_succ, i64_w, i32_w]
     rfl
    refine pure_ (i := 5) (N := some 7) (v := ?_) (a' := ?_) #[true, true, true, true, true, true, false] rfl rfl (by kernel_rfl) (fun _ _ _ h => h) (Or.inl ⟨by rfl, ?_⟩) ?_ ?_
    rotate_left
    ·intro w'
     go_simp
     with_reducible rfl
    rotate_left
    ·simp only [Act.put, List.setIfInBounds_toArray, List.set_cons_zero, List.set_cons_succ, i64_w, i32_w]
     rfl
    refine one_ (i := 6) (N := none) #[true, true, true, true, true, true, true] rfl rfl (by kernel_rfl) (by decide) (fun K hK => ?_)
    have hs29 : w28.cell? ⟨gb216, 0, none⟩ = some (.int .i64 x217000_1) := (blk_cell BK216.out 0).trans rfl
    have hfs29 := blk_frozen BK216.out 0
    have hns29_1 := NB224_216.out; have hms29_1 := NB216_224.out
    have hs30 : w28.cell? ⟨gb216, 1, none⟩ = some (.slice Ao18 x217001_1.length co18) := (blk_cell BK216.out 1).trans rfl
    have hfs30 := blk_frozen BK216.out 1
    have hns30_1 := NB224_216.out; have hms30_1 := NB216_224.out
    refine skip_ (w1 := ?_) (by rfl) rfl ?_ ?_
    rotate_left
    ·go_simp
     rfl
    refine hK.out _ _ ⟨((cell_far (p := ⟨gb216, _, none⟩) NB224_216.out _).trans (((cell_far (p := ⟨gb216, _, none⟩) NB224_216.out _).trans (hHeld.1)))), ((cell_far (p := ⟨gb216, _, none⟩) NB224_216.out _).trans (((cell_far (p := ⟨gb216, _, none⟩) NB224_216.out _).trans (hHeld.2))))⟩ (fun hHeld => ?_)
    clear hK K
    refine done_ (by kernel_rfl) ?_
    try go_wp2
    go_roundg k1
    case measure => have := HK1.out; omega
    case rel => exact ⟨(y225), (wrap64 (x18_1 + 1)), (t220), (t221), (.slice Ao24 t221.length co24), (by first | rfl | (simp; done) | (simp [*]; done)), H', ⟨by have := HK1.out; omega⟩, ⟨by refine r_ ?_; exact Kd.R_mono (Kd.R_far (p := ⟨gb216, 1, none⟩) (Kd.R_far (p := ⟨gb216, 0, none⟩) (Kd.R_types HO227.out BK216.out (by decide)) (fun _ hk => hk.2) (.int .i64 t220)) (fun _ hk => hk.2) (.slice Ao24 t221.length co24)) (fun _ hk => trivial)⟩, ⟨by (with_reducible repeat (first | apply Kd.V_alloc | apply Kd.V_drewN | apply Kd.V_drew)); exact Kd.V_mono (Kd.V_far (p := ⟨gb216, 1, none⟩) (Kd.V_far (p := ⟨gb216, 0, none⟩) (Kd.V_mono HO223.out (fun k_ hk => (⟨hk, hk.1.1⟩ : _ ∧ k_ ≠ gb216))) (fun _ hk => hk.2) (.int .i64 t220)) (fun _ hk => hk.2) (.slice Ao24 t221.length co24)) (fun _ hk => ⟨hk.1.2, hk.1.1.1⟩)⟩, ⟨by refine q_ ?_; refine blk_put (cs := #[.int .i64 t220, .slice Ao18 x217001_1.length co18]) ?_ 1 _ rfl; refine q_ ?_; refine blk_put (cs := #[.int .i64 x217000_1, .slice Ao18 x217001_1.length co18]) ?_ 0 _ rfl; exact q_ BK216.out⟩, ⟨b_⟩⟩
   ·rw [if_neg c11] at H
    have c11b0 := decide_eq_false c11
    clear c11
    obtain rfl := Option.some.inj H
    go_wp2
    go_ret
    exact ⟨_, by first | rfl | (simp [errW_none, errW_some] <;> rfl) | (simp [*, errW_none, errW_some] <;> rfl), by exact r_ HO_7.out, b_⟩

/-! ### impl_PlayObject: function 13 -/
def impl_PlayObject.f (k : Nat) (a0 : Int) (l1 : List (S77)) (l2 : List Int) : Option (List Nat × Bool) := (impl_isKind.f a0).bind fun t228 => (if t228 = true then ((impl_GoodHistory.f k l1).bind fun t229 => (if t229 = true then ((impl_isOrder.f k l2 (l1.length : Int)).bind fun t230 => (if t230 = true then ((impl_toldBy.f k a0 l1 l2).bind fun t231 => (some (t231, true))) else (some (([] : List Nat), false)))) else (some (([] : List Nat), false)))) else (some (([] : List Nat), false)))
set_option maxHeartbeats 8000000 in
set_option maxRecDepth 100000 in
theorem impl_PlayObject.calls (k : Nat) (a0 : Int) (A1 : Option Addr) (c1 : Nat) (l1 : List (S77)) (A2 : Option Addr) (c2 : Nat) (l2 : List Int) (r1 : List Nat) (r2 : Bool) (w : World) (hr1 : Kd.C k77 w A1 l1.length l1) (hc1 : l1.length ≤ c1) (hr2 : Kd.C (Kd.int .i64) w A2 l2.length l2) (hc2 : l2.length ≤ c2) (h : impl_PlayObject.f k a0 l1 l2 = some (r1, r2)) :
  Calls Try.prog 13 #[.int .i64 a0, .slice A1 l1.length c1, .slice A2 l2.length c2] w fun e w' => ∃ v0_ : Value, e = .returned (.tuple #[v0_, .bool r2]) ∧ Kd.R Kd.float 55 w' w.heap.size (fun _ => True) v0_ r1 ∧ Below w.heap.size w w' := by
 have HR1 := a_ hr1
 have HC1 := a_ hc1
 clear hr1 hc1
 have HR2 := a_ hr2
 have HC2 := a_ hc2
 clear hr2 hc2
 have HB := a_ (Below.refl w.heap.size w)
 have H : ((impl_isKind.f a0).bind fun t228 => (if t228 = true then ((impl_GoodHistory.f k l1).bind fun t229 => (if t229 = true then ((impl_isOrder.f k l2 (l1.length : Int)).bind fun t230 => (if t230 = true then ((impl_toldBy.f k a0 l1 l2).bind fun t231 => (some (t231, true))) else (some (([] : List Nat), false)))) else (some (([] : List Nat), false)))) else (some (([] : List Nat), false)))) = some (r1, r2) := h
 clear h
 replace H := Option.bind_eq_some_iff.mp H
 obtain ⟨t228, A40, H⟩ := H
 try dsimp only at H
 have A4 := a_ A40
 clear A40
 by_cases c5 : t228 = true
 ·subst c5
  rw [if_pos rfl] at H
  replace H := Option.bind_eq_some_iff.mp H
  obtain ⟨t229, A60, H⟩ := H
  try dsimp only at H
  have A6 := a_ A60; clear A60
  by_cases c7 : t229 = true
  ·subst c7
   rw [if_pos rfl] at H
   replace H := Option.bind_eq_some_iff.mp H
   obtain ⟨t230, A80, H⟩ := H
   try dsimp only at H
   have A8 := a_ A80; clear A80
   by_cases c9 : t230 = true
   ·subst c9
    rw [if_pos rfl] at H
    replace H := Option.bind_eq_some_iff.mp H
    obtain ⟨t231, A100, H⟩ := H
    try dsimp only at H
    have A10 := a_ A100; clear A100
    simp only [Option.some.injEq, Prod.mk.injEq] at H
    obtain ⟨rfl, rfl⟩ := H
    go_enter Try.func13, Try.ntmps13
    go_wp2_with (first | ((with_reducible refine gate_callee (f := 63) rfl ?_); refine goesL_ (some 9) rfl rfl Try.func63 (by kernel_rfl) rfl #[.int .i64 a0] rfl la_ ?_; (with_reducible refine (impl_isKind.calls a0 true _ A4.out).mono ?_); rintro e w' ⟨rfl, ⟨nd, rfl⟩⟩; refine ⟨_, rfl, ?_⟩) | (go_at_call 31; (with_reducible refine (impl_GoodHistory.calls k _ _ l1 true _ ?side1 ?side2 A6.out).mono ?_); (case side1 => repeat (first | exact HR1.out | (with_reducible refine Kd.C_alloc ?_ _) | (with_reducible refine Kd.C_drewN ?_ _) | (with_reducible refine Kd.C_drew ?_))); (case side2 => exact HC1.out); rintro e w11 ⟨rfl, hb⟩; have n0_ := a_ (below_step b_ hb); clear HB; have HB := n0_; clear n0_; (try clear hb); (try clear hb2); (try clear hk); (try clear hi)) | (go_at_call 64; (with_reducible refine (impl_isOrder.calls k _ _ l2 (l1.length : Int) true _ ?side1 ?side2 A8.out).mono ?_); (case side1 => repeat (first | exact (Kd.C_below HR2.out HB.out) | (with_reducible refine Kd.C_alloc ?_ _) | (with_reducible refine Kd.C_drewN ?_ _) | (with_reducible refine Kd.C_drew ?_))); (case side2 => exact HC2.out); rintro e w12 ⟨rfl, hb⟩; have n0_ := a_ (below_step b_ hb); clear HB; have HB := n0_; clear n0_; (try clear hb); (try clear hb2); (try clear hk); (try clear hi)) | ((with_reducible refine gate_callee (f := 65) rfl ?_); refine goesL_ (some 26) rfl rfl Try.func65 (by kernel_rfl) rfl #[.int .i64 a0, .slice A1 l1.length c1, .slice A2 l2.length c2] rfl la_ ?_; (with_reducible refine (impl_toldBy.calls k a0 _ _ l1 _ _ l2 t231 _ ?side1 ?side2 ?side3 ?side4 A10.out).mono ?_); (case side1 => repeat (first | exact (Kd.C_below HR1.out HB.out) | (with_reducible refine Kd.C_alloc ?_ _) | (with_reducible refine Kd.C_drewN ?_ _) | (with_reducible refine Kd.C_drew ?_))); (case side2 => exact HC1.out); (case side3 => repeat (first | exact (Kd.C_below HR2.out HB.out) | (with_reducible refine Kd.C_alloc ?_ _) | (with_reducible refine Kd.C_drewN ?_ _) | (with_reducible refine Kd.C_drew ?_))); (case side4 => exact HC2.out); rintro e w13 ⟨v232, rfl, ho0, hb⟩; refine ⟨_, rfl, ?_⟩; have n0_ := a_ (Kd.R_lower ho0 (below_size b_)); have n1_ := a_ (below_step b_ hb); clear HB; have HO233 := n0_; have HB := n1_; clear n0_ n1_; (try clear hb); (try clear hb2); (try clear hk); (try clear hi); (try clear ho0)))
    go_ret2
    exact ⟨_, by first | rfl | (simp [errW_none, errW_some] <;> rfl) | (simp [*, errW_none, errW_some] <;> rfl), by exact r_ HO233.out, b_⟩
   ·replace c9 := Bool.eq_false_iff.mpr c9
    subst c9
    rw [if_neg (show ¬ (false = true) by decide)] at H
    simp only [Option.some.injEq, Prod.mk.injEq] at H
    obtain ⟨rfl, rfl⟩ := H
    go_enter Try.func13, Try.ntmps13
    go_wp2_with (first | ((with_reducible refine gate_callee (f := 63) rfl ?_); refine goesL_ (some 9) rfl rfl Try.func63 (by kernel_rfl) rfl #[.int .i64 a0] rfl la_ ?_; (with_reducible refine (impl_isKind.calls a0 true _ A4.out).mono ?_); rintro e w' ⟨rfl, ⟨nd, rfl⟩⟩; refine ⟨_, rfl, ?_⟩) | (go_at_call 31; (with_reducible refine (impl_GoodHistory.calls k _ _ l1 true _ ?side1 ?side2 A6.out).mono ?_); (case side1 => repeat (first | exact HR1.out | (with_reducible refine Kd.C_alloc ?_ _) | (with_reducible refine Kd.C_drewN ?_ _) | (with_reducible refine Kd.C_drew ?_))); (case side2 => exact HC1.out); rintro e w14 ⟨rfl, hb⟩; have n0_ := a_ (below_step b_ hb); clear HB; have HB := n0_; clear n0_; (try clear hb); (try clear hb2); (try clear hk); (try clear hi)) | (go_at_call 64; (with_reducible refine (impl_isOrder.calls k _ _ l2 (l1.length : Int) false _ ?side1 ?side2 A8.out).mono ?_); (case side1 => repeat (first | exact (Kd.C_below HR2.out HB.out) | (with_reducible refine Kd.C_alloc ?_ _) | (with_reducible refine Kd.C_drewN ?_ _) | (with_reducible refine Kd.C_drew ?_))); (case side2 => exact HC2.out); rintro e w15 ⟨rfl, hb⟩; have n0_ := a_ (below_step b_ hb); clear HB; have HB := n0_; clear n0_; (try clear hb); (try clear hb2); (try clear hk); (try clear hi)))
    go_ret2
    exact ⟨_, by first | rfl | (simp [errW_none, errW_some] <;> rfl) | (simp [*, errW_none, errW_some] <;> rfl), by first | exact Kd.R_nil _ _ _ _ _ | exact Kd.N_nil _ _ _ _ _ | exact Kd.V_nil _ _ _ _ _ | exact Kd.Q_nil _ _ _ _ _ | exact Kd.S_nil _ _ _ _ _, b_⟩
  ·replace c7 := Bool.eq_false_iff.mpr c7
   subst c7
   rw [if_neg (show ¬ (false = true) by decide)] at H
   simp only [Option.some.injEq, Prod.mk.injEq] at H
   obtain ⟨rfl, rfl⟩ := H
   go_enter Try.func13, Try.ntmps13
   go_wp2_with (first | ((with_reducible refine gate_callee (f := 63) rfl ?_); refine goesL_ (some 9) rfl rfl Try.func63 (by kernel_rfl) rfl #[.int .i64 a0] rfl la_ ?_; (with_reducible refine (impl_isKind.calls a0 true _ A4.out).mono ?_); rintro e w' ⟨rfl, ⟨nd, rfl⟩⟩; refine ⟨_, rfl, ?_⟩) | (go_at_call 31; (with_reducible refine (impl_GoodHistory.calls k _ _ l1 false _ ?side1 ?side2 A6.out).mono ?_); (case side1 => repeat (first | exact HR1.out | (with_reducible refine Kd.C_alloc ?_ _) | (with_reducible refine Kd.C_drewN ?_ _) | (with_reducible refine Kd.C_drew ?_))); (case side2 => exact HC1.out); rintro e w16 ⟨rfl, hb⟩; have n0_ := a_ (below_step b_ hb); clear HB; have HB := n0_; clear n0_; (try clear hb); (try clear hb2); (try clear hk); (try clear hi)))
   go_ret2
   exact ⟨_, by first | rfl | (simp [errW_none, errW_some] <;> rfl) | (simp [*, errW_none, errW_some] <;> rfl), by first | exact Kd.R_nil _ _ _ _ _ | exact Kd.N_nil _ _ _ _ _ | exact Kd.V_nil _ _ _ _ _ | exact Kd.Q_nil _ _ _ _ _ | exact Kd.S_nil _ _ _ _ _, b_⟩
 ·replace c5 := Bool.eq_false_iff.mpr c5
  subst c5
  rw [if_neg (show ¬ (false = true) by decide)] at H
  simp only [Option.some.injEq, Prod.mk.injEq] at H
  obtain ⟨rfl, rfl⟩ := H
  go_enter Try.func13, Try.ntmps13
  go_wp2_with (first | ((with_reducible refine gate_callee (f := 63) rfl ?_); refine goesL_ (some 9) rfl rfl Try.func63 (by kernel_rfl) rfl #[.int .i64 a0] rfl la_ ?_; (with_reducible refine (impl_isKind.calls a0 false _ A4.out).mono ?_); rintro e w' ⟨rfl, ⟨nd, rfl⟩⟩; refine ⟨_, rfl, ?_⟩))
  go_ret2
  exact ⟨_, by first | rfl | (simp [errW_none, errW_some] <;> rfl) | (simp [*, errW_none, errW_some] <;> rfl), by first | exact Kd.R_nil _ _ _ _ _ | exact Kd.N_nil _ _ _ _ _ | exact Kd.V_nil _ _ _ _ _ | exact Kd.Q_nil _ _ _ _ _ | exact Kd.S_nil _ _ _ _ _, b_⟩

/-! ### spec_l16Ahead: function 83 -/
def spec_l16Ahead.f (a0_0 : Int) (a0_1 : Int) (a0_2 : Int) (a0_3 : Bool) (a0_4 : Nat) (a1_0 : Int) (a1_1 : Int) (a1_2 : Int) (a1_3 : Bool) (a1_4 : Nat) : Option (Bool) := some (decide (a0_2 < a1_1))
set_option maxHeartbeats 8000000 in
set_option maxRecDepth 100000 in
theorem spec_l16Ahead.calls (a0_0 : Int) (a0_1 : Int) (a0_2 : Int) (a0_3 : Bool) (a0_4 : Nat) (a1_0 : Int) (a1_1 : Int) (a1_2 : Int) (a1_3 : Bool) (a1_4 : Nat) (r : Bool) (w : World) (h : spec_l16Ahead.f a0_0 a0_1 a0_2 a0_3 a0_4 a1_0 a1_1 a1_2 a1_3 a1_4 = some r) :
  Calls Try.prog 83 #[.agg #[.int .i64 a0_0, .int .i64 a0_1, .int .i64 a0_2, .bool a0_3, .float .f64 a0_4], .agg #[.int .i64 a1_0, .int .i64 a1_1, .int .i64 a1_2, .bool a1_3, .float .f64 a1_4]] w fun e w' => e = .returned (.bool r) ∧ Below w.heap.size w w' := by
 have hu77 := Try.underlying77
 have HB := a_ (Below.refl w.heap.size w)
 have H : (some (decide (a0_2 < a1_1))) = some r := h
 clear h
 obtain rfl := Option.some.inj H
 go_enter Try.func83, Try.ntmps83
 go_wp2_with (first | ((with_reducible refine gate_dst (N := 2) rfl ?_); refine box_event ?hg (N := 2) ?hd (cs := #[.int .i64 a0_0, .int .i64 a0_1, .int .i64 a0_2, .bool a0_3, .float .f64 a0_4]) (t := 77) ?hr ?_; (case hd => rfl); (case hg => rfl); (case hr => first | (go_simp; done) | (go_simp; rfl)); intro gb234 hg w3 hbox hb; have n0_ := a_ (below_step b_ hb); have n1_ := a_ (hbox); have n2_ := a_ ((by rw [hg]; exact (below_size b_) : w.heap.size ≤ gb234)); have n3_ := a_ ((by rw [hg]; exact (below_size b_) : w.heap.size ≤ gb234)); clear HB; have HB := n0_; have BK234 := n1_; have GW234 := n2_; have GE234 := n3_; clear n0_ n1_ n2_ n3_; clear hb hbox hg) | ((with_reducible refine gate_dst (N := 3) rfl ?_); refine box_event ?hg (N := 3) ?hd (cs := #[.int .i64 a1_0, .int .i64 a1_1, .int .i64 a1_2, .bool a1_3, .float .f64 a1_4]) (t := 77) ?hr ?_; (case hd => rfl); (case hg => rfl); (case hr => first | (go_simp; done) | (go_simp; rfl)); intro gb235 hg w4 hbox hb; have n0_ := a_ (blk_below (g := gb234) (o := .cells #[.int .i64 a0_0, .int .i64 a0_1, .int .i64 a0_2, .bool a0_3, .float .f64 a0_4] 77 (0, 0)) (q_ BK234.out) hb); have n1_ := a_ (below_step b_ hb); have n2_ := a_ (hbox); have n3_ := a_ ((by rw [hg]; exact (below_size b_) : w.heap.size ≤ gb235)); have n4_ := a_ ((by rw [hg]; exact (below_size b_) : w.heap.size ≤ gb235)); have n5_ := a_ ((by rw [hg]; exact Nat.ne_of_lt (blk_lt (g := gb234) (o := .cells #[.int .i64 a0_0, .int .i64 a0_1, .int .i64 a0_2, .bool a0_3, .float .f64 a0_4] 77 (0, 0)) (q_ BK234.out)) : gb234 ≠ gb235)); have n6_ := a_ ((by rw [hg]; exact Nat.ne_of_gt (blk_lt (g := gb234) (o := .cells #[.int .i64 a0_0, .int .i64 a0_1, .int .i64 a0_2, .bool a0_3, .float .f64 a0_4] 77 (0, 0)) (q_ BK234.out)) : gb235 ≠ gb234)); clear BK234; clear HB; have BK234 := n0_; have HB := n1_; have BK235 := n2_; have GW235 := n3_; have GE235 := n4_; have NB234_235 := n5_; have NB235_234 := n6_; clear n0_ n1_ n2_ n3_ n4_ n5_ n6_; clear hb hbox hg; have hnb5 := NB234_235.out; have hnc5 := NB235_234.out; obtain ⟨hcz6_0, hcz6_1, hcz6_2, hcz6_3, hcz6_4, hfz6_0, hfz6_1, hfz6_2, hfz6_3, hfz6_4⟩ := cz5_ BK234.out; obtain ⟨hcz7_0, hcz7_1, hcz7_2, hcz7_3, hcz7_4, hfz7_0, hfz7_1, hfz7_2, hfz7_3, hfz7_4⟩ := cz5_ BK235.out))
 go_ret
 exact ⟨by first | rfl | (simp [errW_none, errW_some] <;> rfl) | (simp [*, errW_none, errW_some] <;> rfl), b_⟩

/-! ### spec_IsMinus: function 51 -/
def spec_IsMinus.f (a0 : Nat) : Option (Bool) := if flt a0 0 = true then (some true) else (if feq a0 0 = true then (if fdivOk 4607182418800017408 a0 = true then (some (flt (fdiv 4607182418800017408 a0) 0)) else (none)) else (some false))
set_option maxHeartbeats 8000000 in
set_option maxRecDepth 100000 in
theorem spec_IsMinus.calls (a0 : Nat) (r : Bool) (w : World) (h : spec_IsMinus.f a0 = some r) :
  Calls Try.prog 51 #[.float .f64 a0] w fun e w' => e = .returned (.bool r) ∧ Drawn0 w w' := by
 have H : (if flt a0 0 = true then (some true) else (if feq a0 0 = true then (if fdivOk 4607182418800017408 a0 = true then (some (flt (fdiv 4607182418800017408 a0) 0)) else (none)) else (some false))) = some r := h
 clear h
 by_cases c2 : flt a0 0 = true
 ·rw [if_pos c2] at H
  have c2b0 : flt a0 0 = true := c2
  clear c2
  obtain rfl := Option.some.inj H
  go_enter Try.func51, Try.ntmps51
  go_wp2
  go_ret
  exact ⟨by first | rfl | (simp; done) | (simp [*]; done), by repeat (first | exact Drawn0.refl _ | apply Drawn0.step)⟩
 ·rw [if_neg c2] at H
  have c2b0 : flt a0 0 = false := by simpa using c2
  clear c2
  by_cases c3 : feq a0 0 = true
  ·rw [if_pos c3] at H
   have c3b0 : feq a0 0 = true := c3
   clear c3
   have c4 := it_ H
   rw [if_pos c4] at H
   have c4b0 := eq_true c4
   have c4b1 := decide_eq_true c4
   clear c4
   obtain rfl := Option.some.inj H
   go_enter Try.func51, Try.ntmps51
   go_wp2
   go_ret
   exact ⟨by first | rfl | (simp; done) | (simp [*]; done), by repeat (first | exact Drawn0.refl _ | apply Drawn0.step)⟩
  ·rw [if_neg c3] at H
   have c3b0 : feq a0 0 = false := by simpa using c3
   clear c3
   obtain rfl := Option.some.inj H
   go_enter Try.func51, Try.ntmps51
   go_wp2
   go_ret
   exact ⟨by first | rfl | (simp; done) | (simp [*]; done), by repeat (first | exact Drawn0.refl _ | apply Drawn0.step)⟩

/-! ### spec_l1Nan: function 88 -/
def spec_l1Nan.f (a0 : Nat) : Option (Bool) := some (!(feq a0 a0))
set_option maxHeartbeats 8000000 in
set_option maxRecDepth 100000 in
theorem spec_l1Nan.calls (a0 : Nat) (r : Bool) (w : World) (h : spec_l1Nan.f a0 = some r) :
  Calls Try.prog 88 #[.float .f64 a0] w fun e w' => e = .returned (.bool r) ∧ Drawn0 w w' := by
 have H : (some (!(feq a0 a0))) = some r := h
 clear h
 obtain rfl := Option.some.inj H
 go_enter Try.func88, Try.ntmps88
 go_wp2
 go_ret
 exact ⟨by first | rfl | (simp; done) | (simp [*]; done), by repeat (first | exact Drawn0.refl _ | apply Drawn0.step)⟩

end Go.Proofs.Ythdpiceiemkjlaa.GFnOneOrder

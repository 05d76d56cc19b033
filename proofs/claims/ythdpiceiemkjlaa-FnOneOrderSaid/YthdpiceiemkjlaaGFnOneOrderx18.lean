-- Printed by wip/tools/print2.py out of the translation: walks and plain functions; Lean checks them.
import Derived.Test.YthdpiceiemkjlaaGFnOneOrderx0
import Derived.Test.YthdpiceiemkjlaaGFnOneOrderx1
import Derived.Test.YthdpiceiemkjlaaGFnOneOrderx6
namespace Go.Proofs.Ythdpiceiemkjlaa.GFnOneOrder
open Go.RowKit Go.Proofs.YthdpiceiemkjlaaW.PrintWords Go.Proofs.YthdpiceiemkjlaaW.PrintLast Go.Proofs.YthdpiceiemkjlaaW.PrintMore
attribute [local go_sem] max2_int min2_int max_two min_two max_three min_three max_four min_four   -- for this text's walks alone
set_option linter.unusedVariables false
set_option linter.unusedSimpArgs false

/-! ### spec_CallAhead: function 37 -/
def spec_CallAhead.f (k : Nat) (l0 : List (S77)) (a1 : Int) (a2 : Int) : Option (Bool × Bool) := (spec_l16Good.f k l0).bind fun t532 => (if t532 = true then ((spec_l1In.f a1 0 (wrap64 ((l0.length : Int) - 1))).bind fun t533 => (if t533 = true then ((spec_l1In.f a2 0 (wrap64 ((l0.length : Int) - 1))).bind fun t534 => (if t534 = true then (if 0 ≤ a1 then (if a1 < (l0.length : Int) then (if 0 ≤ a2 then (if a2 < (l0.length : Int) then ((spec_l16Ahead.f ((rd_T77 l0 a1).f0) ((rd_T77 l0 a1).f1) ((rd_T77 l0 a1).f2) ((rd_T77 l0 a1).f3) ((rd_T77 l0 a1).f4) ((rd_T77 l0 a2).f0) ((rd_T77 l0 a2).f1) ((rd_T77 l0 a2).f2) ((rd_T77 l0 a2).f3) ((rd_T77 l0 a2).f4)).bind fun t537 => (some (t537, true))) else (none)) else (none)) else (none)) else (none)) else (some (false, false)))) else (some (false, false)))) else (some (false, false)))
def spec_CallAhead.T3 : Bool × List (List Nat × List Nat) := (true, [([], []), ([], []), ([0, 1], [0, 1]), ([2], [2]), ([], []), ([], []), ([4, 5], [4, 5]), ([6], [6]), ([3, 7], [3, 7]), ([8, 8, 0, 1, 2, 3, 4, 5, 6, 7, 8], [8]), ([9, 0, 1, 2, 3, 4, 5, 6, 7, 8, 9], [])])
def spec_CallAhead.B3 : List Nat := [0, 0, 3, 7, 0, 0, 48, 112, 255, 511, 1023]
theorem spec_CallAhead.tab3 : rtab .any (opsOf Try.f37 3) = spec_CallAhead.T3 := by kernel_rfl
theorem spec_CallAhead.bits3 : waitsOk spec_CallAhead.T3.2 spec_CallAhead.B3 = true := by kernel_rfl
set_option maxHeartbeats 8000000 in
set_option maxRecDepth 100000 in
theorem spec_CallAhead.calls (k : Nat) (A0 : Option Addr) (c0 : Nat) (l0 : List (S77)) (a1 : Int) (a2 : Int) (r1 : Bool) (r2 : Bool) (w : World) (hr0 : Kd.C k77 w A0 l0.length l0) (hc0 : l0.length ≤ c0) (h : spec_CallAhead.f k l0 a1 a2 = some (r1, r2)) :
  Calls Try.prog 37 #[.slice A0 l0.length c0, .int .i64 a1, .int .i64 a2] w fun e w' => e = .returned (.tuple #[.bool r1, .bool r2]) ∧ Below w.heap.size w w' := by
 have hu77 := Try.underlying77
 have HR0 := a_ hr0
 have HC0 := a_ hc0
 clear hr0 hc0
 have HB := a_ (Below.refl w.heap.size w)
 have H : ((spec_l16Good.f k l0).bind fun t532 => (if t532 = true then ((spec_l1In.f a1 0 (wrap64 ((l0.length : Int) - 1))).bind fun t533 => (if t533 = true then ((spec_l1In.f a2 0 (wrap64 ((l0.length : Int) - 1))).bind fun t534 => (if t534 = true then (if 0 ≤ a1 then (if a1 < (l0.length : Int) then (if 0 ≤ a2 then (if a2 < (l0.length : Int) then ((spec_l16Ahead.f ((rd_T77 l0 a1).f0) ((rd_T77 l0 a1).f1) ((rd_T77 l0 a1).f2) ((rd_T77 l0 a1).f3) ((rd_T77 l0 a1).f4) ((rd_T77 l0 a2).f0) ((rd_T77 l0 a2).f1) ((rd_T77 l0 a2).f2) ((rd_T77 l0 a2).f3) ((rd_T77 l0 a2).f4)).bind fun t537 => (some (t537, true))) else (none)) else (none)) else (none)) else (none)) else (some (false, false)))) else (some (false, false)))) else (some (false, false)))) = some (r1, r2) := h
 clear h
 replace H := Option.bind_eq_some_iff.mp H
 obtain ⟨t532, A40, H⟩ := H
 try dsimp only at H
 have A4 := a_ A40
 clear A40
 by_cases c5 : t532 = true
 ·subst c5
  rw [if_pos rfl] at H
  replace H := Option.bind_eq_some_iff.mp H
  obtain ⟨t533, A60, H⟩ := H
  try dsimp only at H
  have A6 := a_ A60; clear A60
  by_cases c7 : t533 = true
  ·subst c7
   rw [if_pos rfl] at H
   replace H := Option.bind_eq_some_iff.mp H
   obtain ⟨t534, A80, H⟩ := H
   try dsimp only at H
   have A8 := a_ A80; clear A80
   by_cases c9 : t534 = true
   ·subst c9
    rw [if_pos rfl] at H
    replace H := ig_ H
    obtain ⟨c10b0, H⟩ := H
    replace H := ig_ H
    obtain ⟨c11b0, H⟩ := H
    replace H := ig_ H
    obtain ⟨c12b0, H⟩ := H
    replace H := ig_ H
    obtain ⟨c13b0, H⟩ := H
    replace H := Option.bind_eq_some_iff.mp H
    obtain ⟨t537, A140, H⟩ := H
    try dsimp only at H
    have A14 := a_ A140; clear A140
    simp only [Option.some.injEq, Prod.mk.injEq] at H
    obtain ⟨rfl, rfl⟩ := H
    go_enter Try.func37, Try.ntmps37
    try go_wp2_with (first | ((with_reducible refine gate_callee (f := 59) rfl ?_); refine goesL_ (some 9) rfl rfl Try.func59 (by kernel_rfl) rfl #[.slice A0 l0.length c0] rfl la_ ?_; (with_reducible refine (spec_l16Good.calls k _ _ l0 true _ ?side1 ?side2 A4.out).mono ?_); (case side1 => repeat (first | exact HR0.out | (with_reducible refine Kd.C_alloc ?_ _) | (with_reducible refine Kd.C_drewN ?_ _) | (with_reducible refine Kd.C_drew ?_))); (case side2 => exact HC0.out); rintro e w15 ⟨rfl, hb⟩; refine ⟨_, rfl, ?_⟩; have n0_ := a_ (below_step b_ hb); clear HB; have HB := n0_; clear n0_; (try clear hb); (try clear hb2); (try clear hk); (try clear hi)) | (go_at_call 82; (with_reducible refine (spec_l1In.calls a1 0 (wrap64 ((l0.length : Int) - 1)) true _ A6.out).mono ?_); rintro e w' ⟨rfl, ⟨nd, rfl⟩⟩) | (go_at_call 82; (with_reducible refine (spec_l1In.calls a2 0 (wrap64 ((l0.length : Int) - 1)) true _ A8.out).mono ?_); rintro e w' ⟨rfl, ⟨nd, rfl⟩⟩))
    (try (rw [drewN_self w15]; generalize hq_ : World.drewN w15 _ = w15; have n0_ : Aside0 (Below w.heap.size w w15) := ⟨by rw [← hq_]; exact b_⟩; clear HB hq_; have HB := n0_; clear n0_))
    have n0_ := a_ (below_drew1 HB.out)
    clear HB; have HB := n0_; clear n0_
    have p535 : 0 ≤ (a1 : Int) := od_
    have q535 : a1 < (l0.length : Int) := od_
    obtain ⟨ad535, e535, hx535_0, hx535_1, hx535_2, hx535_3, hx535_4⟩ := at_T77 HR0.out a1 p535 q535
    have hw535_4 := hx535_4; have hw535_3 := hx535_3; have hw535_2 := hx535_2; have hw535_1 := hx535_1; have hw535_0 := hx535_0
    cases e535
    try replace hx535_0 := cl_ HB.out hx535_0
    try replace hx535_1 := cl_ HB.out hx535_1
    try replace hx535_2 := cl_ HB.out hx535_2
    try replace hx535_3 := cl_ HB.out hx535_3
    try replace hx535_4 := cl_ HB.out hx535_4
    replace p535 := eq_true p535; replace q535 := eq_true q535
    have p536 : 0 ≤ (a2 : Int) := od_
    have q536 : a2 < (l0.length : Int) := od_
    obtain ⟨ad536, e536, hx536_0, hx536_1, hx536_2, hx536_3, hx536_4⟩ := at_T77 HR0.out a2 p536 q536
    have hw536_4 := hx536_4; have hw536_3 := hx536_3; have hw536_2 := hx536_2; have hw536_1 := hx536_1; have hw536_0 := hx536_0
    obtain rfl : ad535 = ad536 := (by injection e536)
    try replace hx536_0 := cl_ HB.out hx536_0
    try replace hx536_1 := cl_ HB.out hx536_1
    try replace hx536_2 := cl_ HB.out hx536_2
    try replace hx536_3 := cl_ HB.out hx536_3
    try replace hx536_4 := cl_ HB.out hx536_4
    replace p536 := eq_true p536; replace q536 := eq_true q536
    refine start_ (n := 11) (S := fun w' => w'.cell? (ad535.add ((a1).toNat * 5)) = some (.int .i64 ((rd_T77 l0 a1).f0)) ∧ w'.cell? ⟨(ad535.add ((a1).toNat * 5)).block, (ad535.add ((a1).toNat * 5)).off + 1, none⟩ = some (.int .i64 ((rd_T77 l0 a1).f1)) ∧ w'.cell? ⟨(ad535.add ((a1).toNat * 5)).block, (ad535.add ((a1).toNat * 5)).off + 2, none⟩ = some (.int .i64 ((rd_T77 l0 a1).f2)) ∧ w'.cell? ⟨(ad535.add ((a1).toNat * 5)).block, (ad535.add ((a1).toNat * 5)).off + 3, none⟩ = some (.bool ((rd_T77 l0 a1).f3)) ∧ w'.cell? ⟨(ad535.add ((a1).toNat * 5)).block, (ad535.add ((a1).toNat * 5)).off + 4, none⟩ = some (.float .f64 ((rd_T77 l0 a1).f4)) ∧ w'.cell? (ad535.add ((a2).toNat * 5)) = some (.int .i64 ((rd_T77 l0 a2).f0)) ∧ w'.cell? ⟨(ad535.add ((a2).toNat * 5)).block, (ad535.add ((a2).toNat * 5)).off + 1, none⟩ = some (.int .i64 ((rd_T77 l0 a2).f1)) ∧ w'.cell? ⟨(ad535.add ((a2).toNat * 5)).block, (ad535.add ((a2).toNat * 5)).off + 2, none⟩ = some (.int .i64 ((rd_T77 l0 a2).f2)) ∧ w'.cell? ⟨(ad535.add ((a2).toNat * 5)).block, (ad535.add ((a2).toNat * 5)).off + 3, none⟩ = some (.bool ((rd_T77 l0 a2).f3)) ∧ w'.cell? ⟨(ad535.add ((a2).toNat * 5)).block, (ad535.add ((a2).toNat * 5)).off + 4, none⟩ = some (.float .f64 ((rd_T77 l0 a2).f4))) (ds := []) #[false, false, false, false, false, false, false, false, false, false, false] (by kernel_rfl) rfl rfl ⟨((HB.out.cell (World.block_lt_of_cell? w _ hw535_0)).trans hw535_0), ((HB.out.cell (World.block_lt_of_cell? w _ hw535_1)).trans hw535_1), ((HB.out.cell (World.block_lt_of_cell? w _ hw535_2)).trans hw535_2), ((HB.out.cell (World.block_lt_of_cell? w _ hw535_3)).trans hw535_3), ((HB.out.cell (World.block_lt_of_cell? w _ hw535_4)).trans hw535_4), ((HB.out.cell (World.block_lt_of_cell? w _ hw536_0)).trans hw536_0), ((HB.out.cell (World.block_lt_of_cell? w _ hw536_1)).trans hw536_1), ((HB.out.cell (World.block_lt_of_cell? w _ hw536_2)).trans hw536_2), ((HB.out.cell (World.block_lt_of_cell? w _ hw536_3)).trans hw536_3), ((HB.out.cell (World.block_lt_of_cell? w _ hw536_4)).trans hw536_4)⟩ (fun hHeld => ?_); refine with_tabW spec_CallAhead.tab3 spec_CallAhead.bits3 (fun HT_ HW_ => ?_)
    generalize w15.drew = w16 at HB hx535_0 hx535_1 hx535_2 hx535_3 hx535_4 hx536_0 hx536_1 hx536_2 hx536_3 hx536_4 hHeld ⊢
    refine pure_ (i := 0) (N := some 27) (v := ?_) (a' := ?_) #[true, false, false, false, false, false, false, false, false, false, false] rfl rfl (any_of HT_.out (by kernel_rfl)) (fun _ _ _ h => h) (Or.inl ⟨by rfl, ?_⟩) ?_ ?_
    rotate_left
    ·intro w'
     go_simp
     with_reducible rfl
    rotate_left
    ·simp only [Act.put, List.setIfInBounds_toArray, List.set_cons_zero, List.set_cons_succ, i64_w, i32_w]
     rfl
    refine pure_ (i := 1) (N := some 28) (v := ?_) (a' := ?_) #[true, true, false, false, false, false, false, false, false, false, false] rfl rfl (any_of HT_.out (by kernel_rfl)) (fun _ _ _ h => h) (Or.inl ⟨by rfl, ?_⟩) ?_ ?_
    rotate_left
    ·intro w'
     go_simp
     with_reducible rfl
    rotate_left
    ·simp only [Act.put, List.setIfInBounds_toArray, List.set_cons_zero, List.set_cons_succ, i64_w, i32_w]
     rfl
    refine pure_ (i := 2) (N := some 29) (v := ?_) (a' := ?_) #[true, true, true, false, false, false, false, false, false, false, false] rfl rfl (any_of HT_.out (by kernel_rfl)) (fun _ _ _ h => h) (Or.inl ⟨by rfl, ?_⟩) ?_ ?_
    rotate_left
    ·intro w'
     go_simp
     with_reducible rfl
    rotate_left
    ·simp only [Act.put, List.setIfInBounds_toArray, List.set_cons_zero, List.set_cons_succ, i64_w, i32_w]
     rfl
    refine pure_ (i := 4) (N := some 31) (v := ?_) (a' := ?_) #[true, true, true, false, true, false, false, false, false, false, false] rfl rfl (any_of HT_.out (by kernel_rfl)) (fun _ _ _ h => h) (Or.inl ⟨by rfl, ?_⟩) ?_ ?_
    rotate_left
    ·intro w'
     go_simp
     with_reducible rfl
    rotate_left
    ·simp only [Act.put, List.setIfInBounds_toArray, List.set_cons_zero, List.set_cons_succ, i64_w, i32_w]
     rfl
    refine pure_ (i := 5) (N := some 32) (v := ?_) (a' := ?_) #[true, true, true, false, true, true, false, false, false, false, false] rfl rfl (any_of HT_.out (by kernel_rfl)) (fun _ _ _ h => h) (Or.inl ⟨by rfl, ?_⟩) ?_ ?_
    rotate_left
    ·intro w'
     go_simp
     with_reducible rfl
    rotate_left
    ·simp only [Act.put, List.setIfInBounds_toArray, List.set_cons_zero, List.set_cons_succ, i64_w, i32_w]
     rfl
    refine pure_ (i := 6) (N := some 33) (v := ?_) (a' := ?_) #[true, true, true, false, true, true, true, false, false, false, false] rfl rfl (any_of HT_.out (by kernel_rfl)) (fun _ _ _ h => h) (Or.inl ⟨by rfl, ?_⟩) ?_ ?_
    rotate_left
    ·intro w'
     go_simp
     with_reducible rfl
    rotate_left
    ·simp only [Act.put, List.setIfInBounds_toArray, List.set_cons_zero, List.set_cons_succ, i64_w, i32_w]
     rfl
    refine take_ (i := 3) (N := some 30) (v := ?_) (a' := ?_) #[true, true, true, true, true, true, true, false, false, false, false] rfl rfl (take_ofW HT_.out HW_.out (by kernel_rfl)) (fun _ _ _ h => h) (Or.inl ⟨by rfl, ?_⟩) hHeld ?_ ?_
    rotate_left
    ·rintro w' ⟨s0, s1, s2, s3, s4, s5, s6, s7, s8, s9⟩
     go_simp
     with_reducible rfl
    rotate_left
    ·simp only [Act.put, List.setIfInBounds_toArray, List.set_cons_zero, List.set_cons_succ, i64_w, i32_w]
     rfl
    refine take_ (i := 7) (N := some 34) (v := ?_) (a' := ?_) #[true, true, true, true, true, true, true, true, false, false, false] rfl rfl (take_ofW HT_.out HW_.out (by kernel_rfl)) (fun _ _ _ h => h) (Or.inl ⟨by rfl, ?_⟩) hHeld ?_ ?_
    rotate_left
    ·rintro w' ⟨s0, s1, s2, s3, s4, s5, s6, s7, s8, s9⟩
     go_simp
     with_reducible rfl
    rotate_left
    ·simp only [Act.put, List.setIfInBounds_toArray, List.set_cons_zero, List.set_cons_succ, i64_w, i32_w]
     rfl
    refine one_ (i := 8) (N := some 35) #[true, true, true, true, true, true, true, true, true, false, false] rfl rfl (one_of HT_.out (by kernel_rfl)) (by decide) (fun K hK => ?_)
    first | refine goes_ Try.func83 (by kernel_rfl) rfl #[.agg #[.int .i64 ((rd_T77 l0 a1).f0), .int .i64 ((rd_T77 l0 a1).f1), .int .i64 ((rd_T77 l0 a1).f2), .bool ((rd_T77 l0 a1).f3), .float .f64 ((rd_T77 l0 a1).f4)], .agg #[.int .i64 ((rd_T77 l0 a2).f0), .int .i64 ((rd_T77 l0 a2).f1), .int .i64 ((rd_T77 l0 a2).f2), .bool ((rd_T77 l0 a2).f3), .float .f64 ((rd_T77 l0 a2).f4)]] (by rfl) rfl rfl la_ ?_ | refine goesV_ Try.func83 (by kernel_rfl) rfl #[.agg #[.int .i64 ((rd_T77 l0 a1).f0), .int .i64 ((rd_T77 l0 a1).f1), .int .i64 ((rd_T77 l0 a1).f2), .bool ((rd_T77 l0 a1).f3), .float .f64 ((rd_T77 l0 a1).f4)], .agg #[.int .i64 ((rd_T77 l0 a2).f0), .int .i64 ((rd_T77 l0 a2).f1), .int .i64 ((rd_T77 l0 a2).f2), .bool ((rd_T77 l0 a2).f3), .float .f64 ((rd_T77 l0 a2).f4)]] (by rfl) rfl rfl (by rfl) (by first | rfl | (simp only [List.map_toArray, List.map_cons, List.map_nil]; rfl)) ?_
    with_reducible refine (spec_l16Ahead.calls ((rd_T77 l0 a1).f0) ((rd_T77 l0 a1).f1) ((rd_T77 l0 a1).f2) ((rd_T77 l0 a1).f3) ((rd_T77 l0 a1).f4) ((rd_T77 l0 a2).f0) ((rd_T77 l0 a2).f1) ((rd_T77 l0 a2).f2) ((rd_T77 l0 a2).f3) ((rd_T77 l0 a2).f4) t537 _ A14.out).mono ?_
    rintro e w17 ⟨rfl, hb⟩
    refine ⟨_, rfl, ?_⟩
    have n0_ := a_ (below_step b_ hb)
    clear HB; have HB := n0_; clear n0_; (try clear hb); (try clear hb2); (try clear hk); (try clear hi)
    refine hK.out _ _ ⟨((HB.out.cell (World.block_lt_of_cell? w _ hw535_0)).trans hw535_0), ((HB.out.cell (World.block_lt_of_cell? w _ hw535_1)).trans hw535_1), ((HB.out.cell (World.block_lt_of_cell? w _ hw535_2)).trans hw535_2), ((HB.out.cell (World.block_lt_of_cell? w _ hw535_3)).trans hw535_3), ((HB.out.cell (World.block_lt_of_cell? w _ hw535_4)).trans hw535_4), ((HB.out.cell (World.block_lt_of_cell? w _ hw536_0)).trans hw536_0), ((HB.out.cell (World.block_lt_of_cell? w _ hw536_1)).trans hw536_1), ((HB.out.cell (World.block_lt_of_cell? w _ hw536_2)).trans hw536_2), ((HB.out.cell (World.block_lt_of_cell? w _ hw536_3)).trans hw536_3), ((HB.out.cell (World.block_lt_of_cell? w _ hw536_4)).trans hw536_4)⟩ (fun hHeld => ?_)
    clear hK K
    refine norm_ (a' := ?_) ?_ ?_
    rotate_left
    ·show Act.put _ (some 35) _ = _
     simp only [Act.put, List.setIfInBounds_toArray, List.set_cons_zero, List.set_cons_succ, i64_w, i32_w]
     rfl
    refine pure_ (i := 9) (N := some 6) (v := ?_) (a' := ?_) #[true, true, true, true, true, true, true, true, true, true, false] rfl rfl (any_of HT_.out (by kernel_rfl)) (fun _ _ _ h => h) (Or.inl ⟨by rfl, ?_⟩) ?_ ?_
    rotate_left
    ·intro w'
     go_simp
     with_reducible rfl
    rotate_left
    ·simp only [Act.put, List.setIfInBounds_toArray, List.set_cons_zero, List.set_cons_succ, i64_w, i32_w]
     rfl
    refine pure_ (i := 10) (N := some 7) (v := ?_) (a' := ?_) #[true, true, true, true, true, true, true, true, true, true, true] rfl rfl (any_of HT_.out (by kernel_rfl)) (fun _ _ _ h => h) (Or.inl ⟨by rfl, ?_⟩) ?_ ?_
    rotate_left
    ·intro w'
     go_simp
     with_reducible rfl
    rotate_left
    ·simp only [Act.put, List.setIfInBounds_toArray, List.set_cons_zero, List.set_cons_succ, i64_w, i32_w]
     rfl
    refine done_ (done_of HT_.out (by kernel_rfl)) ?_
    try go_wp2
    go_ret2
    exact ⟨by first | rfl | (simp [errW_none, errW_some] <;> rfl) | (simp [*, errW_none, errW_some] <;> rfl), b_⟩
   ·replace c9 := Bool.eq_false_iff.mpr c9
    subst c9
    rw [if_neg (show ¬ (false = true) by decide)] at H
    simp only [Option.some.injEq, Prod.mk.injEq] at H
    obtain ⟨rfl, rfl⟩ := H
    go_enter Try.func37, Try.ntmps37
    go_wp2_with (first | ((with_reducible refine gate_callee (f := 59) rfl ?_); refine goesL_ (some 9) rfl rfl Try.func59 (by kernel_rfl) rfl #[.slice A0 l0.length c0] rfl la_ ?_; (with_reducible refine (spec_l16Good.calls k _ _ l0 true _ ?side1 ?side2 A4.out).mono ?_); (case side1 => repeat (first | exact HR0.out | (with_reducible refine Kd.C_alloc ?_ _) | (with_reducible refine Kd.C_drewN ?_ _) | (with_reducible refine Kd.C_drew ?_))); (case side2 => exact HC0.out); rintro e w18 ⟨rfl, hb⟩; refine ⟨_, rfl, ?_⟩; have n0_ := a_ (below_step b_ hb); clear HB; have HB := n0_; clear n0_; (try clear hb); (try clear hb2); (try clear hk); (try clear hi)) | (go_at_call 82; (with_reducible refine (spec_l1In.calls a1 0 (wrap64 ((l0.length : Int) - 1)) true _ A6.out).mono ?_); rintro e w' ⟨rfl, ⟨nd, rfl⟩⟩) | (go_at_call 82; (with_reducible refine (spec_l1In.calls a2 0 (wrap64 ((l0.length : Int) - 1)) false _ A8.out).mono ?_); rintro e w' ⟨rfl, ⟨nd, rfl⟩⟩))
    go_ret2
    exact ⟨by first | rfl | (simp [errW_none, errW_some] <;> rfl) | (simp [*, errW_none, errW_some] <;> rfl), b_⟩
  ·replace c7 := Bool.eq_false_iff.mpr c7
   subst c7
   rw [if_neg (show ¬ (false = true) by decide)] at H
   simp only [Option.some.injEq, Prod.mk.injEq] at H
   obtain ⟨rfl, rfl⟩ := H
   go_enter Try.func37, Try.ntmps37
   go_wp2_with (first | ((with_reducible refine gate_callee (f := 59) rfl ?_); refine goesL_ (some 9) rfl rfl Try.func59 (by kernel_rfl) rfl #[.slice A0 l0.length c0] rfl la_ ?_; (with_reducible refine (spec_l16Good.calls k _ _ l0 true _ ?side1 ?side2 A4.out).mono ?_); (case side1 => repeat (first | exact HR0.out | (with_reducible refine Kd.C_alloc ?_ _) | (with_reducible refine Kd.C_drewN ?_ _) | (with_reducible refine Kd.C_drew ?_))); (case side2 => exact HC0.out); rintro e w19 ⟨rfl, hb⟩; refine ⟨_, rfl, ?_⟩; have n0_ := a_ (below_step b_ hb); clear HB; have HB := n0_; clear n0_; (try clear hb); (try clear hb2); (try clear hk); (try clear hi)) | (go_at_call 82; (with_reducible refine (spec_l1In.calls a1 0 (wrap64 ((l0.length : Int) - 1)) false _ A6.out).mono ?_); rintro e w' ⟨rfl, ⟨nd, rfl⟩⟩))
   go_ret2
   exact ⟨by first | rfl | (simp [errW_none, errW_some] <;> rfl) | (simp [*, errW_none, errW_some] <;> rfl), b_⟩
 ·replace c5 := Bool.eq_false_iff.mpr c5
  subst c5
  rw [if_neg (show ¬ (false = true) by decide)] at H
  simp only [Option.some.injEq, Prod.mk.injEq] at H
  obtain ⟨rfl, rfl⟩ := H
  go_enter Try.func37, Try.ntmps37
  go_wp2_with (first | ((with_reducible refine gate_callee (f := 59) rfl ?_); refine goesL_ (some 9) rfl rfl Try.func59 (by kernel_rfl) rfl #[.slice A0 l0.length c0] rfl la_ ?_; (with_reducible refine (spec_l16Good.calls k _ _ l0 false _ ?side1 ?side2 A4.out).mono ?_); (case side1 => repeat (first | exact HR0.out | (with_reducible refine Kd.C_alloc ?_ _) | (with_reducible refine Kd.C_drewN ?_ _) | (with_reducible refine Kd.C_drew ?_))); (case side2 => exact HC0.out); rintro e w20 ⟨rfl, hb⟩; refine ⟨_, rfl, ?_⟩; have n0_ := a_ (below_step b_ hb); clear HB; have HB := n0_; clear n0_; (try clear hb); (try clear hb2); (try clear hk); (try clear hi)))
  go_ret2
  exact ⟨by first | rfl | (simp [errW_none, errW_some] <;> rfl) | (simp [*, errW_none, errW_some] <;> rfl), b_⟩

/-! ### laws_FnOneOrder: function 7 (its walk: beside the pure statement) -/
def laws_FnOneOrder.f (k : Nat) (l0 : List Int) (l1 : List Int) : Option Bool := if l0.length ≤ 140737488351232 ∧ ∀ x ∈ l0, 0 ≤ x ∧ x ≤ 255 then (if l1.length ≤ 140737488351232 ∧ ∀ x ∈ l1, 0 ≤ x ∧ x ≤ 255 then (some true) else (none)) else (none)

end Go.Proofs.Ythdpiceiemkjlaa.GFnOneOrder

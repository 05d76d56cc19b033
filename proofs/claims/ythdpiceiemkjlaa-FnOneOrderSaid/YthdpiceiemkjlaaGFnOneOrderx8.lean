-- Printed by wip/tools/print2.py out of the translation: walks and plain functions; Lean checks them.
import Derived.Test.YthdpiceiemkjlaaGFnOneOrderx0
import Derived.Test.YthdpiceiemkjlaaGFnOneOrderx1
import Derived.Test.YthdpiceiemkjlaaGFnOneOrderx2
import Derived.Test.YthdpiceiemkjlaaGFnOneOrderx6
import Derived.Test.YthdpiceiemkjlaaGFnOneOrderx7
namespace Go.Proofs.Ythdpiceiemkjlaa.GFnOneOrder
open Go.RowKit Go.Proofs.YthdpiceiemkjlaaW.PrintWords Go.Proofs.YthdpiceiemkjlaaW.PrintLast Go.Proofs.YthdpiceiemkjlaaW.PrintMore
attribute [local go_sem] max2_int min2_int max_two min_two max_three min_three max_four min_four   -- for this text's walks alone
set_option linter.unusedVariables false
set_option linter.unusedSimpArgs false

/-! ### spec_l16Fits: function 68 -/
mutual
def spec_l16Fits.l0 : Nat → Int → List (S77) → List Int → List Int → Int → Int → Option (Bool)
 | 0, _, _, _, _, _, _ => none
 | k + 1, x0, x1, x2, x13, x14, x15 => if x15 < x14 then (if 0 ≤ x15 then (if x15 < (x13.length : Int) then (if 0 ≤ (wrap64 (x15 + 1)) then (if (wrap64 (x15 + 1)) ≤ (x2.length : Int) then (spec_l16Fits.l1 k x0 x1 x2 (rd x13 x15) x13 x14 x15 (x2.drop ((wrap64 (x15 + 1)) : Int).toNat) ((x2.drop ((wrap64 (x15 + 1)) : Int).toNat).length : Int) 0) else (none)) else (none)) else (none)) else (none)) else ((spec_l16Play.f k x0 x1 x2).bind fun t248 => (spec_l16Fits.l2 k x1 x2 t248 (t248.length : Int) 0))
def spec_l16Fits.l1 : Nat → Int → List (S77) → List Int → Int → List Int → Int → Int → List Int → Int → Int → Option (Bool)
 | 0, _, _, _, _, _, _, _, _, _, _ => none
 | k + 1, x0, x1, x2, x8, x13, x14, x15, x23, x24, x25 => if x25 < x24 then (if 0 ≤ x25 then (if x25 < (x23.length : Int) then (if 0 ≤ (rd x23 x25) then (if (rd x23 x25) < (x1.length : Int) then (if 0 ≤ x8 then (if x8 < (x1.length : Int) then ((spec_l16Ahead.f ((rd_T77 x1 (rd x23 x25)).f0) ((rd_T77 x1 (rd x23 x25)).f1) ((rd_T77 x1 (rd x23 x25)).f2) ((rd_T77 x1 (rd x23 x25)).f3) ((rd_T77 x1 (rd x23 x25)).f4) ((rd_T77 x1 x8).f0) ((rd_T77 x1 x8).f1) ((rd_T77 x1 x8).f2) ((rd_T77 x1 x8).f3) ((rd_T77 x1 x8).f4)).bind fun t247 => (if t247 = true then (some false) else (spec_l16Fits.l1 k x0 x1 x2 x8 x13 x14 x15 x23 x24 (wrap64 (x25 + 1))))) else (none)) else (none)) else (none)) else (none)) else (none)) else (none)) else (spec_l16Fits.l0 k x0 x1 x2 x13 x14 (wrap64 (x15 + 1)))
def spec_l16Fits.l2 : Nat → List (S77) → List Int → List Nat → Int → Int → Option (Bool)
 | 0, _, _, _, _, _ => none
 | k + 1, x1, x2, x43, x44, x45 => if x45 < x44 then (if 0 ≤ x45 then (if x45 < (x43.length : Int) then (if x45 < (x2.length : Int) then (if 0 ≤ (rd x2 x45) then (if (rd x2 x45) < (x1.length : Int) then ((spec_l1SameNum.f k (rdOf (0 : Nat) x43 x45) ((rd_T77 x1 (rd x2 x45)).f4)).bind fun t254 => (if t254 = true then (spec_l16Fits.l2 k x1 x2 x43 x44 (wrap64 (x45 + 1))) else (some false))) else (none)) else (none)) else (none)) else (none)) else (none)) else (some true)
end
def spec_l16Fits.f (k : Nat) (a0 : Int) (l1 : List (S77)) (l2 : List Int) : Option (Bool) := spec_l16Fits.l0 k a0 l1 l2 l2 (l2.length : Int) 0
def spec_l16Fits.T7 : Bool × List (List Nat × List Nat) := (true, [([], []), ([], []), ([0, 1], [0, 1]), ([2], [2]), ([], []), ([], []), ([4, 5], [4, 5]), ([6], [6]), ([3, 7], [3, 7])])
def spec_l16Fits.B7 : List Nat := [0, 0, 3, 7, 0, 0, 48, 112, 255]
theorem spec_l16Fits.tab7 : rtab .any (opsOf Try.f68 7) = spec_l16Fits.T7 := by kernel_rfl
theorem spec_l16Fits.bits7 : waitsOk spec_l16Fits.T7.2 spec_l16Fits.B7 = true := by kernel_rfl
theorem eqv.num {a b : Nat} (h : eqv a b) (k c : Nat) : spec_l1SameNum.f k a c = spec_l1SameNum.f k b c := by
 rcases h with rfl | ⟨h1, h2, _⟩
 ·rfl
 ·simp only [spec_l1SameNum.f, spec_l1Nan.f, h1, h2, Bool.not_false, Option.bind_some]
  rw [if_pos trivial, if_pos trivial]
  cases k with
  | zero => rfl
  | succ k =>
   simp only [spec_l1SameNum.j0, spec_l1Nan.f, h1, h2]
   rw [if_pos trivial, if_pos trivial]
theorem spec_l16Fits.same : ∀ (k : Nat) {l1 : List S77} {l2 : List Int} {x' x : List Nat} (_ : eqvL x' x) (i : Int), spec_l16Fits.l2 k l1 l2 x' (x'.length : Int) i = spec_l16Fits.l2 k l1 l2 x (x.length : Int) i
 | 0, l1, l2, x', x, h, i => by simp only [spec_l16Fits.l2]
 | k + 1, l1, l2, x', x, h, i => by
  have hn : ∀ c, spec_l1SameNum.f k (rdOf (0 : Nat) x' i) c = spec_l1SameNum.f k (rdOf (0 : Nat) x i) c := fun c => (h.2 i.toNat).num k c
  have ih := spec_l16Fits.same k (l1 := l1) (l2 := l2) h
  simp only [spec_l16Fits.l2, hn]
  rw [← h.1]
  rw [← h.1] at ih
  simp only [ih]
set_option maxHeartbeats 8000000 in
set_option maxRecDepth 100000 in
theorem spec_l16Fits.calls (k : Nat) (a0 : Int) (A1 : Option Addr) (c1 : Nat) (l1 : List (S77)) (A2 : Option Addr) (c2 : Nat) (l2 : List Int) (r : Bool) (w : World) (hr1 : Kd.C k77 w A1 l1.length l1) (hc1 : l1.length ≤ c1) (hr2 : Kd.C (Kd.int .i64) w A2 l2.length l2) (hc2 : l2.length ≤ c2) (h : spec_l16Fits.f k a0 l1 l2 = some r) :
  Calls Try.prog 68 #[.int .i64 a0, .slice A1 l1.length c1, .slice A2 l2.length c2] w fun e w' => e = .returned (.bool r) ∧ Below w.heap.size w w' := by
 have hu77 := Try.underlying77
 have HR1 := a_ hr1
 have HC1 := a_ hc1
 clear hr1 hc1
 have HR2 := a_ hr2
 have HC2 := a_ hc2
 clear hr2 hc2
 have HB := a_ (Below.refl w.heap.size w)
 have H : (spec_l16Fits.l0 k a0 l1 l2 l2 (l2.length : Int) 0) = some r := h
 clear h
 have H' := a_ H
 clear H
 go_enter Try.func68, Try.ntmps68
 go_wp2
 go_loopg [15] k (fun kq v15 w' => ∃ (x15_1 : Int), v15 = .int .i64 x15_1 ∧ Aside0 (spec_l16Fits.l0 kq a0 l1 l2 l2 (l2.length : Int) x15_1 = some r) ∧ Aside0 (kq ≤ k) ∧ Aside0 (Below w.heap.size w w'))
 case atStart => exact ⟨(0), (by first | rfl | (simp; done) | (simp [*]; done)), H', ⟨Nat.le_refl _⟩, ⟨b_⟩⟩
 case round =>
  clear H'
  (try clear c1); (try clear c2); (try clear p2)
  obtain ⟨x15_1, rfl, HA, HK1, HB⟩ := hrel
  cases gk with
  | zero => exact absurd HA.out (by simp [spec_l16Fits.l0])
  | succ k1 =>
   have H := HA.out; clear HA
   simp only [spec_l16Fits.l0] at H
   by_cases c4 : x15_1 < (l2.length : Int)
   ·rw [if_pos c4] at H
    have c4b0 := decide_eq_true c4
    clear c4
    replace H := ig_ H
    obtain ⟨c5b0, H⟩ := H
    replace H := ig_ H
    obtain ⟨c6b0, H⟩ := H
    obtain ⟨ji7, hji7⟩ : ∃ j_ : Int, (wrap64 (x15_1 + 1)) = j_ := ⟨_, rfl⟩
    replace H : (if 0 ≤ (ji7) then (if (ji7) ≤ (l2.length : Int) then (spec_l16Fits.l1 k1 a0 l1 l2 (rd l2 x15_1) l2 (l2.length : Int) x15_1 (l2.drop ((ji7) : Int).toNat) ((l2.drop ((ji7) : Int).toNat).length : Int) 0) else (none)) else (none)) = some r := by first | (rw [hji7] at H; exact H) | (simp only [hji7] at H ⊢; exact H)
    have hji7w : (IntKind.i64.wrap (x15_1 + 1)) = ji7 := (i64_w _).trans hji7
    have c8 := it_ H
    rw [if_pos c8] at H
    have c8b0 := eq_true c8
    have c8b1 := decide_eq_true c8
    clear c8
    have c9 := it_ H
    rw [if_pos c9] at H
    have c9b0 := eq_true c9
    have c9b1 := decide_eq_true c9
    clear c9
    have H' := a_ H
    clear H
    have p242 : 0 ≤ (x15_1 : Int) := od_
    have q242 : x15_1 < (l2.length : Int) := od_
    obtain ⟨ad242, e242, hx242_0⟩ := Kd.at_int HR2.out x15_1 p242 q242
    cases e242
    try replace hx242_0 := cl_ HB.out hx242_0
    replace p242 := eq_true p242; replace q242 := eq_true q242
    obtain ⟨i010, hi010, _, hsz10, _⟩ := info_parts info3
    obtain ⟨A10, hcut10, hA10, hC10⟩ := print_drop_of (P := Try.prog) (Value.int .i64) 0 23 3 .i64 Try.underlying23 hi010 hsz10 (some ad242) c2 l2 (ji7) (od_) (od_) HC2.out
    have HR243 := a_ (Kd.C_of_reads (h1 := fun _ => rfl) (hA10 _ (Kd.reads_of_C HR2.out)))
    have HC243 := a_ hC10; clear hA10 hC10 hi010 hsz10
    obtain ⟨D1_, hD_⟩ : ∃ D_ : List Int, D_ = (l2.drop ((ji7) : Int).toNat) := ⟨_, rfl⟩
    (try simp only [← hD_] at hcut10)
    (try simp only [← hD_] at HR243)
    (try simp only [← hD_] at HC243)
    (try simp only [← hD_] at H')
    clear hD_
    go_wp2
    go_loopg [25] k1 (fun kq v25 w' => ∃ (x25_2 : Int), v25 = .int .i64 x25_2 ∧ Aside0 (spec_l16Fits.l1 kq a0 l1 l2 (rd l2 x15_1) l2 (l2.length : Int) x15_1 D1_ (D1_.length : Int) x25_2 = some r) ∧ Aside0 (kq ≤ k1) ∧ Aside0 (Below w.heap.size w w'))
    case atStart => exact ⟨(0), (by first | rfl | (simp; done) | (simp [*]; done)), H', ⟨Nat.le_refl _⟩, ⟨b_⟩⟩
    case round =>
     clear H'
     (try clear c1); (try clear c2); (try clear p2); (try clear q2); (try clear hx2); (try clear c4); (try clear c4b0); (try clear c5); (try clear c5b0); (try clear c6); (try clear c6b0); (try clear p6); (try clear c8); (try clear c8b0); (try clear c8b1); (try clear c9); (try clear c9b0); (try clear c9b1); (try clear hx242_0); (try clear p2); (try clear p242); (try clear q242)
     obtain ⟨x25_2, rfl, HA, HK2, HB⟩ := hrel
     cases gk with
     | zero => exact absurd HA.out (by simp [spec_l16Fits.l1])
     | succ k2 =>
      have H := HA.out; clear HA
      simp only [spec_l16Fits.l1] at H
      by_cases c11 : x25_2 < (D1_.length : Int)
      ·rw [if_pos c11] at H
       have c11b0 := decide_eq_true c11
       clear c11
       replace H := ig_ H
       obtain ⟨c12b0, H⟩ := H
       replace H := ig_ H
       obtain ⟨c13b0, H⟩ := H
       replace H := ig_ H
       obtain ⟨c14b0, H⟩ := H
       replace H := ig_ H
       obtain ⟨c15b0, H⟩ := H
       replace H := ig_ H
       obtain ⟨c16b0, H⟩ := H
       replace H := ig_ H
       obtain ⟨c17b0, H⟩ := H
       replace H := Option.bind_eq_some_iff.mp H
       obtain ⟨t247, A180, H⟩ := H
       try dsimp only at H
       have A18 := a_ A180; clear A180
       by_cases c19 : t247 = true
       ·subst c19
        rw [if_pos rfl] at H
        obtain rfl := Option.some.inj H
        have p244 : 0 ≤ (x25_2 : Int) := od_
        have q244 : x25_2 < (D1_.length : Int) := od_
        obtain ⟨ad244, e244, hx244_0⟩ := Kd.at_int HR243.out x25_2 p244 q244
        cases e244
        try replace hx244_0 := cl_ HB.out hx244_0
        replace p244 := eq_true p244; replace q244 := eq_true q244
        try go_wp2
        have n0_ := a_ (below_drew1 HB.out)
        clear HB; have HB := n0_; clear n0_
        have p245 : 0 ≤ ((rd D1_ x25_2) : Int) := od_
        have q245 : (rd D1_ x25_2) < (l1.length : Int) := od_
        obtain ⟨ad245, e245, hx245_0, hx245_1, hx245_2, hx245_3, hx245_4⟩ := at_T77 HR1.out (rd D1_ x25_2) p245 q245
        have hw245_4 := hx245_4; have hw245_3 := hx245_3; have hw245_2 := hx245_2; have hw245_1 := hx245_1; have hw245_0 := hx245_0
        cases e245
        try replace hx245_0 := cl_ HB.out hx245_0
        try replace hx245_1 := cl_ HB.out hx245_1
        try replace hx245_2 := cl_ HB.out hx245_2
        try replace hx245_3 := cl_ HB.out hx245_3
        try replace hx245_4 := cl_ HB.out hx245_4
        replace p245 := eq_true p245; replace q245 := eq_true q245
        have p246 : 0 ≤ ((rd l2 x15_1) : Int) := od_
        have q246 : (rd l2 x15_1) < (l1.length : Int) := od_
        obtain ⟨ad246, e246, hx246_0, hx246_1, hx246_2, hx246_3, hx246_4⟩ := at_T77 HR1.out (rd l2 x15_1) p246 q246
        have hw246_4 := hx246_4; have hw246_3 := hx246_3; have hw246_2 := hx246_2; have hw246_1 := hx246_1; have hw246_0 := hx246_0
        obtain rfl : ad245 = ad246 := (by injection e246)
        try replace hx246_0 := cl_ HB.out hx246_0
        try replace hx246_1 := cl_ HB.out hx246_1
        try replace hx246_2 := cl_ HB.out hx246_2
        try replace hx246_3 := cl_ HB.out hx246_3
        try replace hx246_4 := cl_ HB.out hx246_4
        replace p246 := eq_true p246; replace q246 := eq_true q246
        refine start_ (n := 9) (S := fun w' => w'.cell? (ad245.add (((rd D1_ x25_2)).toNat * 5)) = some (.int .i64 ((rd_T77 l1 (rd D1_ x25_2)).f0)) ∧ w'.cell? ⟨(ad245.add (((rd D1_ x25_2)).toNat * 5)).block, (ad245.add (((rd D1_ x25_2)).toNat * 5)).off + 1, none⟩ = some (.int .i64 ((rd_T77 l1 (rd D1_ x25_2)).f1)) ∧ w'.cell? ⟨(ad245.add (((rd D1_ x25_2)).toNat * 5)).block, (ad245.add (((rd D1_ x25_2)).toNat * 5)).off + 2, none⟩ = some (.int .i64 ((rd_T77 l1 (rd D1_ x25_2)).f2)) ∧ w'.cell? ⟨(ad245.add (((rd D1_ x25_2)).toNat * 5)).block, (ad245.add (((rd D1_ x25_2)).toNat * 5)).off + 3, none⟩ = some (.bool ((rd_T77 l1 (rd D1_ x25_2)).f3)) ∧ w'.cell? ⟨(ad245.add (((rd D1_ x25_2)).toNat * 5)).block, (ad245.add (((rd D1_ x25_2)).toNat * 5)).off + 4, none⟩ = some (.float .f64 ((rd_T77 l1 (rd D1_ x25_2)).f4)) ∧ w'.cell? (ad245.add (((rd l2 x15_1)).toNat * 5)) = some (.int .i64 ((rd_T77 l1 (rd l2 x15_1)).f0)) ∧ w'.cell? ⟨(ad245.add (((rd l2 x15_1)).toNat * 5)).block, (ad245.add (((rd l2 x15_1)).toNat * 5)).off + 1, none⟩ = some (.int .i64 ((rd_T77 l1 (rd l2 x15_1)).f1)) ∧ w'.cell? ⟨(ad245.add (((rd l2 x15_1)).toNat * 5)).block, (ad245.add (((rd l2 x15_1)).toNat * 5)).off + 2, none⟩ = some (.int .i64 ((rd_T77 l1 (rd l2 x15_1)).f2)) ∧ w'.cell? ⟨(ad245.add (((rd l2 x15_1)).toNat * 5)).block, (ad245.add (((rd l2 x15_1)).toNat * 5)).off + 3, none⟩ = some (.bool ((rd_T77 l1 (rd l2 x15_1)).f3)) ∧ w'.cell? ⟨(ad245.add (((rd l2 x15_1)).toNat * 5)).block, (ad245.add (((rd l2 x15_1)).toNat * 5)).off + 4, none⟩ = some (.float .f64 ((rd_T77 l1 (rd l2 x15_1)).f4))) (ds := []) #[false, false, false, false, false, false, false, false, false] (by kernel_rfl) rfl rfl ⟨((HB.out.cell (World.block_lt_of_cell? w _ hw245_0)).trans hw245_0), ((HB.out.cell (World.block_lt_of_cell? w _ hw245_1)).trans hw245_1), ((HB.out.cell (World.block_lt_of_cell? w _ hw245_2)).trans hw245_2), ((HB.out.cell (World.block_lt_of_cell? w _ hw245_3)).trans hw245_3), ((HB.out.cell (World.block_lt_of_cell? w _ hw245_4)).trans hw245_4), ((HB.out.cell (World.block_lt_of_cell? w _ hw246_0)).trans hw246_0), ((HB.out.cell (World.block_lt_of_cell? w _ hw246_1)).trans hw246_1), ((HB.out.cell (World.block_lt_of_cell? w _ hw246_2)).trans hw246_2), ((HB.out.cell (World.block_lt_of_cell? w _ hw246_3)).trans hw246_3), ((HB.out.cell (World.block_lt_of_cell? w _ hw246_4)).trans hw246_4)⟩ (fun hHeld => ?_); refine with_tabW spec_l16Fits.tab7 spec_l16Fits.bits7 (fun HT_ HW_ => ?_)
        generalize wr.drew = w20 at HB hx245_0 hx245_1 hx245_2 hx245_3 hx245_4 hx246_0 hx246_1 hx246_2 hx246_3 hx246_4 hHeld ⊢
        refine pure_ (i := 0) (N := some 29) (v := ?_) (a' := ?_) #[true, false, false, false, false, false, false, false, false] rfl rfl (any_of HT_.out (by kernel_rfl)) (fun _ _ _ h => h) (Or.inl ⟨by rfl, ?_⟩) ?_ ?_
        rotate_left
        ·intro w'
         go_simp
         with_reducible rfl
        rotate_left
        ·simp only [Act.put, List.setIfInBounds_toArray, List.set_cons_zero, List.set_cons_succ, i64_w, i32_w]
         rfl
        refine pure_ (i := 1) (N := some 30) (v := ?_) (a' := ?_) #[true, true, false, false, false, false, false, false, false] rfl rfl (any_of HT_.out (by kernel_rfl)) (fun _ _ _ h => h) (Or.inl ⟨by rfl, ?_⟩) ?_ ?_
        rotate_left
        ·intro w'
         go_simp
         with_reducible rfl
        rotate_left
        ·simp only [Act.put, List.setIfInBounds_toArray, List.set_cons_zero, List.set_cons_succ, i64_w, i32_w]
         rfl
        refine pure_ (i := 2) (N := some 31) (v := ?_) (a' := ?_) #[true, true, true, false, false, false, false, false, false] rfl rfl (any_of HT_.out (by kernel_rfl)) (fun _ _ _ h => h) (Or.inl ⟨by rfl, ?_⟩) ?_ ?_
        rotate_left
        ·intro w'
         go_simp
         with_reducible rfl
        rotate_left
        ·simp only [Act.put, List.setIfInBounds_toArray, List.set_cons_zero, List.set_cons_succ, i64_w, i32_w]
         rfl
        refine pure_ (i := 4) (N := some 33) (v := ?_) (a' := ?_) #[true, true, true, false, true, false, false, false, false] rfl rfl (any_of HT_.out (by kernel_rfl)) (fun _ _ _ h => h) (Or.inl ⟨by rfl, ?_⟩) ?_ ?_
        rotate_left
        ·intro w'
         go_simp
         with_reducible rfl
        rotate_left
        ·simp only [Act.put, List.setIfInBounds_toArray, List.set_cons_zero, List.set_cons_succ, i64_w, i32_w]
         rfl
        refine pure_ (i := 5) (N := some 34) (v := ?_) (a' := ?_) #[true, true, true, false, true, true, false, false, false] rfl rfl (any_of HT_.out (by kernel_rfl)) (fun _ _ _ h => h) (Or.inl ⟨by rfl, ?_⟩) ?_ ?_
        rotate_left
        ·intro w'
         go_simp
         with_reducible rfl
        rotate_left
        ·simp only [Act.put, List.setIfInBounds_toArray, List.set_cons_zero, List.set_cons_succ, i64_w, i32_w]
         rfl
        refine pure_ (i := 6) (N := some 35) (v := ?_) (a' := ?_) #[true, true, true, false, true, true, true, false, false] rfl rfl (any_of HT_.out (by kernel_rfl)) (fun _ _ _ h => h) (Or.inl ⟨by rfl, ?_⟩) ?_ ?_
        rotate_left
        ·intro w'
         go_simp
         with_reducible rfl
        rotate_left
        ·simp only [Act.put, List.setIfInBounds_toArray, List.set_cons_zero, List.set_cons_succ, i64_w, i32_w]
         rfl
        refine take_ (i := 3) (N := some 32) (v := ?_) (a' := ?_) #[true, true, true, true, true, true, true, false, false] rfl rfl (take_ofW HT_.out HW_.out (by kernel_rfl)) (fun _ _ _ h => h) (Or.inl ⟨by rfl, ?_⟩) hHeld ?_ ?_
        rotate_left
        ·rintro w' ⟨s0, s1, s2, s3, s4, s5, s6, s7, s8, s9⟩
         go_simp
         with_reducible rfl
        rotate_left
        ·simp only [Act.put, List.setIfInBounds_toArray, List.set_cons_zero, List.set_cons_succ, i64_w, i32_w]
         rfl
        refine take_ (i := 7) (N := some 36) (v := ?_) (a' := ?_) #[true, true, true, true, true, true, true, true, false] rfl rfl (take_ofW HT_.out HW_.out (by kernel_rfl)) (fun _ _ _ h => h) (Or.inl ⟨by rfl, ?_⟩) hHeld ?_ ?_
        rotate_left
        ·rintro w' ⟨s0, s1, s2, s3, s4, s5, s6, s7, s8, s9⟩
         go_simp
         with_reducible rfl
        rotate_left
        ·simp only [Act.put, List.setIfInBounds_toArray, List.set_cons_zero, List.set_cons_succ, i64_w, i32_w]
         rfl
        refine one_ (i := 8) (N := some 37) #[true, true, true, true, true, true, true, true, true] rfl rfl (one_of HT_.out (by kernel_rfl)) (by decide) (fun K hK => ?_)
        first | refine goes_ Try.func83 (by kernel_rfl) rfl #[.agg #[.int .i64 ((rd_T77 l1 (rd D1_ x25_2)).f0), .int .i64 ((rd_T77 l1 (rd D1_ x25_2)).f1), .int .i64 ((rd_T77 l1 (rd D1_ x25_2)).f2), .bool ((rd_T77 l1 (rd D1_ x25_2)).f3), .float .f64 ((rd_T77 l1 (rd D1_ x25_2)).f4)], .agg #[.int .i64 ((rd_T77 l1 (rd l2 x15_1)).f0), .int .i64 ((rd_T77 l1 (rd l2 x15_1)).f1), .int .i64 ((rd_T77 l1 (rd l2 x15_1)).f2), .bool ((rd_T77 l1 (rd l2 x15_1)).f3), .float .f64 ((rd_T77 l1 (rd l2 x15_1)).f4)]] (by rfl) rfl rfl (by (try simp only [List.map_toArray, List.map_cons, List.map_nil]); first | done | (simp only [hji7]; rfl) | rfl | (simp only [List.length_drop, List.length_take]; rfl)) ?_ | refine goesV_ Try.func83 (by kernel_rfl) rfl #[.agg #[.int .i64 ((rd_T77 l1 (rd D1_ x25_2)).f0), .int .i64 ((rd_T77 l1 (rd D1_ x25_2)).f1), .int .i64 ((rd_T77 l1 (rd D1_ x25_2)).f2), .bool ((rd_T77 l1 (rd D1_ x25_2)).f3), .float .f64 ((rd_T77 l1 (rd D1_ x25_2)).f4)], .agg #[.int .i64 ((rd_T77 l1 (rd l2 x15_1)).f0), .int .i64 ((rd_T77 l1 (rd l2 x15_1)).f1), .int .i64 ((rd_T77 l1 (rd l2 x15_1)).f2), .bool ((rd_T77 l1 (rd l2 x15_1)).f3), .float .f64 ((rd_T77 l1 (rd l2 x15_1)).f4)]] (by rfl) rfl rfl (by rfl) (by first | rfl | (simp only [List.map_toArray, List.map_cons, List.map_nil]; rfl)) ?_
        with_reducible refine (spec_l16Ahead.calls ((rd_T77 l1 (rd D1_ x25_2)).f0) ((rd_T77 l1 (rd D1_ x25_2)).f1) ((rd_T77 l1 (rd D1_ x25_2)).f2) ((rd_T77 l1 (rd D1_ x25_2)).f3) ((rd_T77 l1 (rd D1_ x25_2)).f4) ((rd_T77 l1 (rd l2 x15_1)).f0) ((rd_T77 l1 (rd l2 x15_1)).f1) ((rd_T77 l1 (rd l2 x15_1)).f2) ((rd_T77 l1 (rd l2 x15_1)).f3) ((rd_T77 l1 (rd l2 x15_1)).f4) true _ A18.out).mono ?_
        rintro e w21 ⟨rfl, hb⟩
        refine ⟨_, rfl, ?_⟩
        have n0_ := a_ (below_step b_ hb)
        clear HB; have HB := n0_; clear n0_; (try clear hb); (try clear hb2); (try clear hk); (try clear hi)
        refine hK.out _ _ ⟨((HB.out.cell (World.block_lt_of_cell? w _ hw245_0)).trans hw245_0), ((HB.out.cell (World.block_lt_of_cell? w _ hw245_1)).trans hw245_1), ((HB.out.cell (World.block_lt_of_cell? w _ hw245_2)).trans hw245_2), ((HB.out.cell (World.block_lt_of_cell? w _ hw245_3)).trans hw245_3), ((HB.out.cell (World.block_lt_of_cell? w _ hw245_4)).trans hw245_4), ((HB.out.cell (World.block_lt_of_cell? w _ hw246_0)).trans hw246_0), ((HB.out.cell (World.block_lt_of_cell? w _ hw246_1)).trans hw246_1), ((HB.out.cell (World.block_lt_of_cell? w _ hw246_2)).trans hw246_2), ((HB.out.cell (World.block_lt_of_cell? w _ hw246_3)).trans hw246_3), ((HB.out.cell (World.block_lt_of_cell? w _ hw246_4)).trans hw246_4)⟩ (fun hHeld => ?_)
        clear hK K
        refine norm_ (a' := ?_) ?_ ?_
        rotate_left
        ·show Act.put _ (some 37) _ = _
         simp only [Act.put, List.setIfInBounds_toArray, List.set_cons_zero, List.set_cons_succ, i64_w, i32_w]
         rfl
        refine done_ (done_of HT_.out (by kernel_rfl)) ?_
        try go_wp2
        go_ret
        exact ⟨by first | rfl | (simp [errW_none, errW_some] <;> rfl) | (simp only [← hji7]; first | rfl | (simp [errW_none, errW_some] <;> rfl)) | (simp [*, errW_none, errW_some] <;> rfl), b_⟩
       ·replace c19 := Bool.eq_false_iff.mpr c19
        subst c19
        rw [if_neg (show ¬ (false = true) by decide)] at H
        have H' := a_ H
        clear H
        have p244 : 0 ≤ (x25_2 : Int) := od_
        have q244 : x25_2 < (D1_.length : Int) := od_
        obtain ⟨ad244, e244, hx244_0⟩ := Kd.at_int HR243.out x25_2 p244 q244
        cases e244
        try replace hx244_0 := cl_ HB.out hx244_0
        replace p244 := eq_true p244; replace q244 := eq_true q244
        try go_wp2
        have n0_ := a_ (below_drew1 HB.out)
        clear HB; have HB := n0_; clear n0_
        have p245 : 0 ≤ ((rd D1_ x25_2) : Int) := od_
        have q245 : (rd D1_ x25_2) < (l1.length : Int) := od_
        obtain ⟨ad245, e245, hx245_0, hx245_1, hx245_2, hx245_3, hx245_4⟩ := at_T77 HR1.out (rd D1_ x25_2) p245 q245
        have hw245_4 := hx245_4; have hw245_3 := hx245_3; have hw245_2 := hx245_2; have hw245_1 := hx245_1; have hw245_0 := hx245_0
        cases e245
        try replace hx245_0 := cl_ HB.out hx245_0
        try replace hx245_1 := cl_ HB.out hx245_1
        try replace hx245_2 := cl_ HB.out hx245_2
        try replace hx245_3 := cl_ HB.out hx245_3
        try replace hx245_4 := cl_ HB.out hx245_4
        replace p245 := eq_true p245; replace q245 := eq_true q245
        have p246 : 0 ≤ ((rd l2 x15_1) : Int) := od_
        have q246 : (rd l2 x15_1) < (l1.length : Int) := od_
        obtain ⟨ad246, e246, hx246_0, hx246_1, hx246_2, hx246_3, hx246_4⟩ := at_T77 HR1.out (rd l2 x15_1) p246 q246
        have hw246_4 := hx246_4; have hw246_3 := hx246_3; have hw246_2 := hx246_2; have hw246_1 := hx246_1; have hw246_0 := hx246_0
        obtain rfl : ad245 = ad246 := (by injection e246)
        try replace hx246_0 := cl_ HB.out hx246_0
        try replace hx246_1 := cl_ HB.out hx246_1
        try replace hx246_2 := cl_ HB.out hx246_2
        try replace hx246_3 := cl_ HB.out hx246_3
        try replace hx246_4 := cl_ HB.out hx246_4
        replace p246 := eq_true p246; replace q246 := eq_true q246
        refine start_ (n := 9) (S := fun w' => w'.cell? (ad245.add (((rd D1_ x25_2)).toNat * 5)) = some (.int .i64 ((rd_T77 l1 (rd D1_ x25_2)).f0)) ∧ w'.cell? ⟨(ad245.add (((rd D1_ x25_2)).toNat * 5)).block, (ad245.add (((rd D1_ x25_2)).toNat * 5)).off + 1, none⟩ = some (.int .i64 ((rd_T77 l1 (rd D1_ x25_2)).f1)) ∧ w'.cell? ⟨(ad245.add (((rd D1_ x25_2)).toNat * 5)).block, (ad245.add (((rd D1_ x25_2)).toNat * 5)).off + 2, none⟩ = some (.int .i64 ((rd_T77 l1 (rd D1_ x25_2)).f2)) ∧ w'.cell? ⟨(ad245.add (((rd D1_ x25_2)).toNat * 5)).block, (ad245.add (((rd D1_ x25_2)).toNat * 5)).off + 3, none⟩ = some (.bool ((rd_T77 l1 (rd D1_ x25_2)).f3)) ∧ w'.cell? ⟨(ad245.add (((rd D1_ x25_2)).toNat * 5)).block, (ad245.add (((rd D1_ x25_2)).toNat * 5)).off + 4, none⟩ = some (.float .f64 ((rd_T77 l1 (rd D1_ x25_2)).f4)) ∧ w'.cell? (ad245.add (((rd l2 x15_1)).toNat * 5)) = some (.int .i64 ((rd_T77 l1 (rd l2 x15_1)).f0)) ∧ w'.cell? ⟨(ad245.add (((rd l2 x15_1)).toNat * 5)).block, (ad245.add (((rd l2 x15_1)).toNat * 5)).off + 1, none⟩ = some (.int .i64 ((rd_T77 l1 (rd l2 x15_1)).f1)) ∧ w'.cell? ⟨(ad245.add (((rd l2 x15_1)).toNat * 5)).block, (ad245.add (((rd l2 x15_1)).toNat * 5)).off + 2, none⟩ = some (.int .i64 ((rd_T77 l1 (rd l2 x15_1)).f2)) ∧ w'.cell? ⟨(ad245.add (((rd l2 x15_1)).toNat * 5)).block, (ad245.add (((rd l2 x15_1)).toNat * 5)).off + 3, none⟩ = some (.bool ((rd_T77 l1 (rd l2 x15_1)).f3)) ∧ w'.cell? ⟨(ad245.add (((rd l2 x15_1)).toNat * 5)).block, (ad245.add (((rd l2 x15_1)).toNat * 5)).off + 4, none⟩ = some (.float .f64 ((rd_T77 l1 (rd l2 x15_1)).f4))) (ds := []) #[false, false, false, false, false, false, false, false, false] (by kernel_rfl) rfl rfl ⟨((HB.out.cell (World.block_lt_of_cell? w _ hw245_0)).trans hw245_0), ((HB.out.cell (World.block_lt_of_cell? w _ hw245_1)).trans hw245_1), ((HB.out.cell (World.block_lt_of_cell? w _ hw245_2)).trans hw245_2), ((HB.out.cell (World.block_lt_of_cell? w _ hw245_3)).trans hw245_3), ((HB.out.cell (World.block_lt_of_cell? w _ hw245_4)).trans hw245_4), ((HB.out.cell (World.block_lt_of_cell? w _ hw246_0)).trans hw246_0), ((HB.out.cell (World.block_lt_of_cell? w _ hw246_1)).trans hw246_1), ((HB.out.cell (World.block_lt_of_cell? w _ hw246_2)).trans hw246_2), ((HB.out.cell (World.block_lt_of_cell? w _ hw246_3)).trans hw246_3), ((HB.out.cell (World.block_lt_of_cell? w _ hw246_4)).trans hw246_4)⟩ (fun hHeld => ?_); refine with_tabW spec_l16Fits.tab7 spec_l16Fits.bits7 (fun HT_ HW_ => ?_)
        generalize wr.drew = w22 at HB hx245_0 hx245_1 hx245_2 hx245_3 hx245_4 hx246_0 hx246_1 hx246_2 hx246_3 hx246_4 hHeld ⊢
        refine pure_ (i := 0) (N := some 29) (v := ?_) (a' := ?_) #[true, false, false, false, false, false, false, false, false] rfl rfl (any_of HT_.out (by kernel_rfl)) (fun _ _ _ h => h) (Or.inl ⟨by rfl, ?_⟩) ?_ ?_
        rotate_left
        ·intro w'
         go_simp
         with_reducible rfl
        rotate_left
        ·simp only [Act.put, List.setIfInBounds_toArray, List.set_cons_zero, List.set_cons_succ, i64_w, i32_w]
         rfl
        refine pure_ (i := 1) (N := some 30) (v := ?_) (a' := ?_) #[true, true, false, false, false, false, false, false, false] rfl rfl (any_of HT_.out (by kernel_rfl)) (fun _ _ _ h => h) (Or.inl ⟨by rfl, ?_⟩) ?_ ?_
        rotate_left
        ·intro w'
         go_simp
         with_reducible rfl
        rotate_left
        ·simp only [Act.put, List.setIfInBounds_toArray, List.set_cons_zero, List.set_cons_succ, i64_w, i32_w]
         rfl
        refine pure_ (i := 2) (N := some 31) (v := ?_) (a' := ?_) #[true, true, true, false, false, false, false, false, false] rfl rfl (any_of HT_.out (by kernel_rfl)) (fun _ _ _ h => h) (Or.inl ⟨by rfl, ?_⟩) ?_ ?_
        rotate_left
        ·intro w'
         go_simp
         with_reducible rfl
        rotate_left
        ·simp only [Act.put, List.setIfInBounds_toArray, List.set_cons_zero, List.set_cons_succ, i64_w, i32_w]
         rfl
        refine pure_ (i := 4) (N := some 33) (v := ?_) (a' := ?_) #[true, true, true, false, true, false, false, false, false] rfl rfl (any_of HT_.out (by kernel_rfl)) (fun _ _ _ h => h) (Or.inl ⟨by rfl, ?_⟩) ?_ ?_
        rotate_left
        ·intro w'
         go_simp
         with_reducible rfl
        rotate_left
        ·simp only [Act.put, List.setIfInBounds_toArray, List.set_cons_zero, List.set_cons_succ, i64_w, i32_w]
         rfl
        refine pure_ (i := 5) (N := some 34) (v := ?_) (a' := ?_) #[true, true, true, false, true, true, false, false, false] rfl rfl (any_of HT_.out (by kernel_rfl)) (fun _ _ _ h => h) (Or.inl ⟨by rfl, ?_⟩) ?_ ?_
        rotate_left
        ·intro w'
         go_simp
         with_reducible rfl
        rotate_left
        ·simp only [Act.put, List.setIfInBounds_toArray, List.set_cons_zero, List.set_cons_succ, i64_w, i32_w]
         rfl
        refine pure_ (i := 6) (N := some 35) (v := ?_) (a' := ?_) #[true, true, true, false, true, true, true, false, false] rfl rfl (any_of HT_.out (by kernel_rfl)) (fun _ _ _ h => h) (Or.inl ⟨by rfl, ?_⟩) ?_ ?_
        rotate_left
        ·intro w'
         go_simp
         with_reducible rfl
        rotate_left
        ·simp only [Act.put, List.setIfInBounds_toArray, List.set_cons_zero, List.set_cons_succ, i64_w, i32_w]
         rfl
        refine take_ (i := 3) (N := some 32) (v := ?_) (a' := ?_) #[true, true, true, true, true, true, true, false, false] rfl rfl (take_ofW HT_.out HW_.out (by kernel_rfl)) (fun _ _ _ h => h) (Or.inl ⟨by rfl, ?_⟩) hHeld ?_ ?_
        rotate_left
        ·rintro w' ⟨s0, s1, s2, s3, s4, s5, s6, s7, s8, s9⟩
         go_simp
         with_reducible rfl
        rotate_left
        ·simp only [Act.put, List.setIfInBounds_toArray, List.set_cons_zero, List.set_cons_succ, i64_w, i32_w]
         rfl
        refine take_ (i := 7) (N := some 36) (v := ?_) (a' := ?_) #[true, true, true, true, true, true, true, true, false] rfl rfl (take_ofW HT_.out HW_.out (by kernel_rfl)) (fun _ _ _ h => h) (Or.inl ⟨by rfl, ?_⟩) hHeld ?_ ?_
        rotate_left
        ·rintro w' ⟨s0, s1, s2, s3, s4, s5, s6, s7, s8, s9⟩
         go_simp
         with_reducible rfl
        rotate_left
        ·simp only [Act.put, List.setIfInBounds_toArray, List.set_cons_zero, List.set_cons_succ, i64_w, i32_w]
         rfl
        refine one_ (i := 8) (N := some 37) #[true, true, true, true, true, true, true, true, true] rfl rfl (one_of HT_.out (by kernel_rfl)) (by decide) (fun K hK => ?_)
        first | refine goes_ Try.func83 (by kernel_rfl) rfl #[.agg #[.int .i64 ((rd_T77 l1 (rd D1_ x25_2)).f0), .int .i64 ((rd_T77 l1 (rd D1_ x25_2)).f1), .int .i64 ((rd_T77 l1 (rd D1_ x25_2)).f2), .bool ((rd_T77 l1 (rd D1_ x25_2)).f3), .float .f64 ((rd_T77 l1 (rd D1_ x25_2)).f4)], .agg #[.int .i64 ((rd_T77 l1 (rd l2 x15_1)).f0), .int .i64 ((rd_T77 l1 (rd l2 x15_1)).f1), .int .i64 ((rd_T77 l1 (rd l2 x15_1)).f2), .bool ((rd_T77 l1 (rd l2 x15_1)).f3), .float .f64 ((rd_T77 l1 (rd l2 x15_1)).f4)]] (by rfl) rfl rfl (by (try simp only [List.map_toArray, List.map_cons, List.map_nil]); first | done | (simp only [hji7]; rfl) | rfl | (simp only [List.length_drop, List.length_take]; rfl)) ?_ | refine goesV_ Try.func83 (by kernel_rfl) rfl #[.agg #[.int .i64 ((rd_T77 l1 (rd D1_ x25_2)).f0), .int .i64 ((rd_T77 l1 (rd D1_ x25_2)).f1), .int .i64 ((rd_T77 l1 (rd D1_ x25_2)).f2), .bool ((rd_T77 l1 (rd D1_ x25_2)).f3), .float .f64 ((rd_T77 l1 (rd D1_ x25_2)).f4)], .agg #[.int .i64 ((rd_T77 l1 (rd l2 x15_1)).f0), .int .i64 ((rd_T77 l1 (rd l2 x15_1)).f1), .int .i64 ((rd_T77 l1 (rd l2 x15_1)).f2), .bool ((rd_T77 l1 (rd l2 x15_1)).f3), .float .f64 ((rd_T77 l1 (rd l2 x15_1)).f4)]] (by rfl) rfl rfl (by rfl) (by first | rfl | (simp only [List.map_toArray, List.map_cons, List.map_nil]; rfl)) ?_
        with_reducible refine (spec_l16Ahead.calls ((rd_T77 l1 (rd D1_ x25_2)).f0) ((rd_T77 l1 (rd D1_ x25_2)).f1) ((rd_T77 l1 (rd D1_ x25_2)).f2) ((rd_T77 l1 (rd D1_ x25_2)).f3) ((rd_T77 l1 (rd D1_ x25_2)).f4) ((rd_T77 l1 (rd l2 x15_1)).f0) ((rd_T77 l1 (rd l2 x15_1)).f1) ((rd_T77 l1 (rd l2 x15_1)).f2) ((rd_T77 l1 (rd l2 x15_1)).f3) ((rd_T77 l1 (rd l2 x15_1)).f4) false _ A18.out).mono ?_
        rintro e w23 ⟨rfl, hb⟩
        refine ⟨_, rfl, ?_⟩
        have n0_ := a_ (below_step b_ hb)
        clear HB; have HB := n0_; clear n0_; (try clear hb); (try clear hb2); (try clear hk); (try clear hi)
        refine hK.out _ _ ⟨((HB.out.cell (World.block_lt_of_cell? w _ hw245_0)).trans hw245_0), ((HB.out.cell (World.block_lt_of_cell? w _ hw245_1)).trans hw245_1), ((HB.out.cell (World.block_lt_of_cell? w _ hw245_2)).trans hw245_2), ((HB.out.cell (World.block_lt_of_cell? w _ hw245_3)).trans hw245_3), ((HB.out.cell (World.block_lt_of_cell? w _ hw245_4)).trans hw245_4), ((HB.out.cell (World.block_lt_of_cell? w _ hw246_0)).trans hw246_0), ((HB.out.cell (World.block_lt_of_cell? w _ hw246_1)).trans hw246_1), ((HB.out.cell (World.block_lt_of_cell? w _ hw246_2)).trans hw246_2), ((HB.out.cell (World.block_lt_of_cell? w _ hw246_3)).trans hw246_3), ((HB.out.cell (World.block_lt_of_cell? w _ hw246_4)).trans hw246_4)⟩ (fun hHeld => ?_)
        clear hK K
        refine norm_ (a' := ?_) ?_ ?_
        rotate_left
        ·show Act.put _ (some 37) _ = _
         simp only [Act.put, List.setIfInBounds_toArray, List.set_cons_zero, List.set_cons_succ, i64_w, i32_w]
         rfl
        refine done_ (done_of HT_.out (by kernel_rfl)) ?_
        try go_wp2
        go_roundg k2
        case measure => have := HK1.out; have := HK2.out; omega
        case rel => exact ⟨(wrap64 (x25_2 + 1)), (by first | rfl | (simp; done) | (simp [*]; done)), H', ⟨by have := HK1.out; have := HK2.out; omega⟩, ⟨b_⟩⟩
      ·rw [if_neg c11] at H
       have c11b0 := decide_eq_false c11
       clear c11
       have H' := a_ H
       clear H
       go_wp2
       go_roundg k2
       case measure => have := HK1.out; have := HK2.out; omega
       case rel => exact ⟨(wrap64 (x15_1 + 1)), (by first | rfl | (simp; done) | (simp [*]; done)), H', ⟨by have := HK1.out; have := HK2.out; omega⟩, ⟨b_⟩⟩
   ·rw [if_neg c4] at H
    have c4b0 := decide_eq_false c4
    clear c4
    replace H := Option.bind_eq_some_iff.mp H
    obtain ⟨t248, A240, H⟩ := H
    try dsimp only at H
    have A24 := a_ A240; clear A240
    have H' := a_ H
    clear H
    go_wp2_with (first | ((with_reducible refine gate_callee (f := 61) rfl ?_); refine goesL_ (some 43) rfl rfl Try.func61 (by kernel_rfl) rfl #[.int .i64 a0, .slice A1 l1.length c1, .slice A2 l2.length c2] rfl la_ ?_; (with_reducible refine (spec_l16Play.calls k1 a0 _ _ l1 _ _ l2 t248 _ ?side1 ?side2 ?side3 ?side4 A24.out).mono ?_); (case side1 => repeat (first | exact (Kd.C_below HR1.out HB.out) | (with_reducible refine Kd.C_alloc ?_ _) | (with_reducible refine Kd.C_drewN ?_ _) | (with_reducible refine Kd.C_drew ?_))); (case side2 => exact HC1.out); (case side3 => repeat (first | exact (Kd.C_below HR2.out HB.out) | (with_reducible refine Kd.C_alloc ?_ _) | (with_reducible refine Kd.C_drewN ?_ _) | (with_reducible refine Kd.C_drew ?_))); (case side4 => exact HC2.out); rintro e w25 ⟨v249, t248, rfl, he_, ho0, hb⟩; refine ⟨_, rfl, ?_⟩; have H' := a_ ((spec_l16Fits.same k1 he_ 0).trans H'.out); have n0_ := a_ (Kd.R_lower ho0 (below_size b_)); have n1_ := a_ (below_step b_ hb); clear HB; have HO250 := n0_; have HB := n1_; clear n0_ n1_; (try clear hb); (try clear hb2); (try clear hk); (try clear hi); (try clear ho0); obtain ⟨Ao26, co26, eo26⟩ := Kd.R_slice HO250.out; subst eo26))
    go_loopg [45] k1 (fun kq v45 w' => ∃ (x45_2 : Int), v45 = .int .i64 x45_2 ∧ Aside0 (spec_l16Fits.l2 kq l1 l2 t248 (t248.length : Int) x45_2 = some r) ∧ Aside0 (kq ≤ k1) ∧ Aside0 (Kd.R Kd.float 55 w' w.heap.size (fun _ => True) (.slice Ao26 t248.length co26) t248) ∧ Aside0 (Below w.heap.size w w'))
    case atStart => exact ⟨(0), (by first | rfl | (simp; done) | (simp [*]; done)), H', ⟨Nat.le_refl _⟩, ⟨by exact r_ HO250.out⟩, ⟨b_⟩⟩
    case round =>
     clear H'
     (try clear c1); (try clear c2); (try clear p2); (try clear q2); (try clear hx2); (try clear c4); (try clear c4b0); (try clear c5); (try clear c5b0); (try clear c6); (try clear c6b0); (try clear p6); (try clear c8); (try clear c8b0); (try clear c8b1); (try clear c9); (try clear c9b0); (try clear c9b1); (try clear c11); (try clear c11b0); (try clear c12); (try clear c12b0); (try clear c13); (try clear c13b0); (try clear c14); (try clear c14b0); (try clear c15); (try clear c15b0); (try clear c16); (try clear c16b0); (try clear c17); (try clear c17b0); (try clear c19); (try clear p24); (try clear q24); (try clear hx24); (try clear hx242_0); (try clear hx244_0); (try clear hx245_0); (try clear hx245_1); (try clear hx245_2); (try clear hx245_3); (try clear hx245_4); (try clear hx246_0); (try clear hx246_1); (try clear hx246_2); (try clear hx246_3); (try clear hx246_4); (try clear p2); (try clear p242); (try clear p244); (try clear p245); (try clear p246); (try clear p6); (try clear q2); (try clear q242); (try clear q244); (try clear q245); (try clear q246)
     obtain ⟨x45_2, rfl, HA, HK2, HO_43, HB⟩ := hrel
     cases gk with
     | zero => exact absurd HA.out (by simp [spec_l16Fits.l2])
     | succ k2 =>
      have H := HA.out; clear HA
      simp only [spec_l16Fits.l2] at H
      by_cases c27 : x45_2 < (t248.length : Int)
      ·rw [if_pos c27] at H
       have c27b0 := decide_eq_true c27
       clear c27
       replace H := ig_ H
       obtain ⟨c28b0, H⟩ := H
       replace H := ig_ H
       obtain ⟨c29b0, H⟩ := H
       replace H := ig_ H
       obtain ⟨c30b0, H⟩ := H
       replace H := ig_ H
       obtain ⟨c31b0, H⟩ := H
       replace H := ig_ H
       obtain ⟨c32b0, H⟩ := H
       replace H := Option.bind_eq_some_iff.mp H
       obtain ⟨t254, A330, H⟩ := H
       try dsimp only at H
       have A33 := a_ A330; clear A330
       by_cases c34 : t254 = true
       ·subst c34
        rw [if_pos rfl] at H
        have H' := a_ H
        clear H
        have p251 : 0 ≤ (x45_2 : Int) := od_
        have q251 : x45_2 < (t248.length : Int) := od_
        obtain ⟨ad251, e251, hx251_0⟩ := Kd.at_float (Kd.R_reads' HO_43.out).2.2 x45_2 p251 q251
        cases e251
        replace p251 := eq_true p251; replace q251 := eq_true q251
        have p252 : 0 ≤ (x45_2 : Int) := od_
        have q252 : x45_2 < (l2.length : Int) := od_
        obtain ⟨ad252, e252, hx252_0⟩ := Kd.at_int HR2.out x45_2 p252 q252
        cases e252
        try replace hx252_0 := cl_ HB.out hx252_0
        replace p252 := eq_true p252; replace q252 := eq_true q252
        have p253 : 0 ≤ ((rd l2 x45_2) : Int) := od_
        have q253 : (rd l2 x45_2) < (l1.length : Int) := od_
        obtain ⟨ad253, e253, hx253_0, hx253_1, hx253_2, hx253_3, hx253_4⟩ := at_T77 HR1.out (rd l2 x45_2) p253 q253
        cases e253
        try replace hx253_0 := cl_ HB.out hx253_0
        try replace hx253_1 := cl_ HB.out hx253_1
        try replace hx253_2 := cl_ HB.out hx253_2
        try replace hx253_3 := cl_ HB.out hx253_3
        try replace hx253_4 := cl_ HB.out hx253_4
        replace p253 := eq_true p253; replace q253 := eq_true q253
        go_wp2_with (first | ((with_reducible refine gate_callee (f := 87) rfl ?_); refine goesL_ (some 59) rfl rfl Try.func87 (by kernel_rfl) rfl #[.float .f64 (rdOf (0 : Nat) t248 x45_2), .float .f64 ((rd_T77 l1 (rd l2 x45_2)).f4)] rfl la_ ?_; (with_reducible refine (spec_l1SameNum.calls k2 (rdOf (0 : Nat) t248 x45_2) ((rd_T77 l1 (rd l2 x45_2)).f4) true _ A33.out).mono ?_); rintro e w' ⟨rfl, ⟨nd, rfl⟩⟩; refine ⟨_, rfl, ?_⟩))
        go_roundg k2
        case measure => have := HK1.out; have := HK2.out; omega
        case rel => exact ⟨(wrap64 (x45_2 + 1)), (by first | rfl | (simp; done) | (simp [*]; done)), H', ⟨by have := HK1.out; have := HK2.out; omega⟩, ⟨by exact r_ HO_43.out⟩, ⟨b_⟩⟩
       ·replace c34 := Bool.eq_false_iff.mpr c34
        subst c34
        rw [if_neg (show ¬ (false = true) by decide)] at H
        obtain rfl := Option.some.inj H
        have p251 : 0 ≤ (x45_2 : Int) := od_
        have q251 : x45_2 < (t248.length : Int) := od_
        obtain ⟨ad251, e251, hx251_0⟩ := Kd.at_float (Kd.R_reads' HO_43.out).2.2 x45_2 p251 q251
        cases e251
        replace p251 := eq_true p251; replace q251 := eq_true q251
        have p252 : 0 ≤ (x45_2 : Int) := od_
        have q252 : x45_2 < (l2.length : Int) := od_
        obtain ⟨ad252, e252, hx252_0⟩ := Kd.at_int HR2.out x45_2 p252 q252
        cases e252
        try replace hx252_0 := cl_ HB.out hx252_0
        replace p252 := eq_true p252; replace q252 := eq_true q252
        have p253 : 0 ≤ ((rd l2 x45_2) : Int) := od_
        have q253 : (rd l2 x45_2) < (l1.length : Int) := od_
        obtain ⟨ad253, e253, hx253_0, hx253_1, hx253_2, hx253_3, hx253_4⟩ := at_T77 HR1.out (rd l2 x45_2) p253 q253
        cases e253
        try replace hx253_0 := cl_ HB.out hx253_0
        try replace hx253_1 := cl_ HB.out hx253_1
        try replace hx253_2 := cl_ HB.out hx253_2
        try replace hx253_3 := cl_ HB.out hx253_3
        try replace hx253_4 := cl_ HB.out hx253_4
        replace p253 := eq_true p253; replace q253 := eq_true q253
        go_wp2_with (first | ((with_reducible refine gate_callee (f := 87) rfl ?_); refine goesL_ (some 59) rfl rfl Try.func87 (by kernel_rfl) rfl #[.float .f64 (rdOf (0 : Nat) t248 x45_2), .float .f64 ((rd_T77 l1 (rd l2 x45_2)).f4)] rfl la_ ?_; (with_reducible refine (spec_l1SameNum.calls k2 (rdOf (0 : Nat) t248 x45_2) ((rd_T77 l1 (rd l2 x45_2)).f4) false _ A33.out).mono ?_); rintro e w' ⟨rfl, ⟨nd, rfl⟩⟩; refine ⟨_, rfl, ?_⟩))
        go_ret
        exact ⟨by first | rfl | (simp [errW_none, errW_some] <;> rfl) | (simp [*, errW_none, errW_some] <;> rfl), b_⟩
      ·rw [if_neg c27] at H
       have c27b0 := decide_eq_false c27
       clear c27
       obtain rfl := Option.some.inj H
       go_wp2
       go_ret
       exact ⟨by first | rfl | (simp [errW_none, errW_some] <;> rfl) | (simp [*, errW_none, errW_some] <;> rfl), b_⟩

/-! ### spec_FitsOrder: function 21 -/
def spec_FitsOrder.f (k : Nat) (a0 : Int) (l1 : List (S77)) (l2 : List Int) : Option (Bool × Bool) := (spec_l16Kind.f a0).bind fun t255 => (if t255 = true then ((spec_l16Good.f k l1).bind fun t256 => (if t256 = true then ((spec_l16Order.f k l1 l2).bind fun t257 => (if t257 = true then ((spec_l16Fits.f k a0 l1 l2).bind fun t258 => (some (t258, true))) else (some (false, false)))) else (some (false, false)))) else (some (false, false)))
set_option maxHeartbeats 8000000 in
set_option maxRecDepth 100000 in
theorem spec_FitsOrder.calls (k : Nat) (a0 : Int) (A1 : Option Addr) (c1 : Nat) (l1 : List (S77)) (A2 : Option Addr) (c2 : Nat) (l2 : List Int) (r1 : Bool) (r2 : Bool) (w : World) (hr1 : Kd.C k77 w A1 l1.length l1) (hc1 : l1.length ≤ c1) (hr2 : Kd.C (Kd.int .i64) w A2 l2.length l2) (hc2 : l2.length ≤ c2) (h : spec_FitsOrder.f k a0 l1 l2 = some (r1, r2)) :
  Calls Try.prog 21 #[.int .i64 a0, .slice A1 l1.length c1, .slice A2 l2.length c2] w fun e w' => e = .returned (.tuple #[.bool r1, .bool r2]) ∧ Below w.heap.size w w' := by
 have HR1 := a_ hr1
 have HC1 := a_ hc1
 clear hr1 hc1
 have HR2 := a_ hr2
 have HC2 := a_ hc2
 clear hr2 hc2
 have HB := a_ (Below.refl w.heap.size w)
 have H : ((spec_l16Kind.f a0).bind fun t255 => (if t255 = true then ((spec_l16Good.f k l1).bind fun t256 => (if t256 = true then ((spec_l16Order.f k l1 l2).bind fun t257 => (if t257 = true then ((spec_l16Fits.f k a0 l1 l2).bind fun t258 => (some (t258, true))) else (some (false, false)))) else (some (false, false)))) else (some (false, false)))) = some (r1, r2) := h
 clear h
 replace H := Option.bind_eq_some_iff.mp H
 obtain ⟨t255, A40, H⟩ := H
 try dsimp only at H
 have A4 := a_ A40
 clear A40
 by_cases c5 : t255 = true
 ·subst c5
  rw [if_pos rfl] at H
  replace H := Option.bind_eq_some_iff.mp H
  obtain ⟨t256, A60, H⟩ := H
  try dsimp only at H
  have A6 := a_ A60; clear A60
  by_cases c7 : t256 = true
  ·subst c7
   rw [if_pos rfl] at H
   replace H := Option.bind_eq_some_iff.mp H
   obtain ⟨t257, A80, H⟩ := H
   try dsimp only at H
   have A8 := a_ A80; clear A80
   by_cases c9 : t257 = true
   ·subst c9
    rw [if_pos rfl] at H
    replace H := Option.bind_eq_some_iff.mp H
    obtain ⟨t258, A100, H⟩ := H
    try dsimp only at H
    have A10 := a_ A100; clear A100
    simp only [Option.some.injEq, Prod.mk.injEq] at H
    obtain ⟨rfl, rfl⟩ := H
    go_enter Try.func21, Try.ntmps21
    go_wp2_with (first | ((with_reducible refine gate_callee (f := 58) rfl ?_); refine goesL_ (some 9) rfl rfl Try.func58 (by kernel_rfl) rfl #[.int .i64 a0] rfl la_ ?_; (with_reducible refine (spec_l16Kind.calls a0 true _ A4.out).mono ?_); rintro e w' ⟨rfl, ⟨nd, rfl⟩⟩; refine ⟨_, rfl, ?_⟩) | (go_at_call 59; (with_reducible refine (spec_l16Good.calls k _ _ l1 true _ ?side1 ?side2 A6.out).mono ?_); (case side1 => repeat (first | exact HR1.out | (with_reducible refine Kd.C_alloc ?_ _) | (with_reducible refine Kd.C_drewN ?_ _) | (with_reducible refine Kd.C_drew ?_))); (case side2 => exact HC1.out); rintro e w11 ⟨rfl, hb⟩; have n0_ := a_ (below_step b_ hb); clear HB; have HB := n0_; clear n0_; (try clear hb); (try clear hb2); (try clear hk); (try clear hi)) | (go_at_call 60; (with_reducible refine (spec_l16Order.calls k _ _ l1 _ _ l2 true _ ?side1 ?side2 ?side3 ?side4 A8.out).mono ?_); (case side1 => repeat (first | exact (Kd.C_below HR1.out HB.out) | (with_reducible refine Kd.C_alloc ?_ _) | (with_reducible refine Kd.C_drewN ?_ _) | (with_reducible refine Kd.C_drew ?_))); (case side2 => exact HC1.out); (case side3 => repeat (first | exact (Kd.C_below HR2.out HB.out) | (with_reducible refine Kd.C_alloc ?_ _) | (with_reducible refine Kd.C_drewN ?_ _) | (with_reducible refine Kd.C_drew ?_))); (case side4 => exact HC2.out); rintro e w' ⟨rfl, ⟨nd, rfl⟩⟩) | ((with_reducible refine gate_callee (f := 68) rfl ?_); refine goesL_ (some 25) rfl rfl Try.func68 (by kernel_rfl) rfl #[.int .i64 a0, .slice A1 l1.length c1, .slice A2 l2.length c2] rfl la_ ?_; (with_reducible refine (spec_l16Fits.calls k a0 _ _ l1 _ _ l2 t258 _ ?side1 ?side2 ?side3 ?side4 A10.out).mono ?_); (case side1 => repeat (first | exact (Kd.C_below HR1.out b_) | (with_reducible refine Kd.C_alloc ?_ _) | (with_reducible refine Kd.C_drewN ?_ _) | (with_reducible refine Kd.C_drew ?_))); (case side2 => exact HC1.out); (case side3 => repeat (first | exact (Kd.C_below HR2.out b_) | (with_reducible refine Kd.C_alloc ?_ _) | (with_reducible refine Kd.C_drewN ?_ _) | (with_reducible refine Kd.C_drew ?_))); (case side4 => exact HC2.out); rintro e w12 ⟨rfl, hb⟩; refine ⟨_, rfl, ?_⟩; have n0_ := a_ (below_step b_ hb); clear HB; have HB := n0_; clear n0_; (try clear hb); (try clear hb2); (try clear hk); (try clear hi)))
    go_ret2
    exact ⟨by first | rfl | (simp [errW_none, errW_some] <;> rfl) | (simp [*, errW_none, errW_some] <;> rfl), b_⟩
   ·replace c9 := Bool.eq_false_iff.mpr c9
    subst c9
    rw [if_neg (show ¬ (false = true) by decide)] at H
    simp only [Option.some.injEq, Prod.mk.injEq] at H
    obtain ⟨rfl, rfl⟩ := H
    go_enter Try.func21, Try.ntmps21
    go_wp2_with (first | ((with_reducible refine gate_callee (f := 58) rfl ?_); refine goesL_ (some 9) rfl rfl Try.func58 (by kernel_rfl) rfl #[.int .i64 a0] rfl la_ ?_; (with_reducible refine (spec_l16Kind.calls a0 true _ A4.out).mono ?_); rintro e w' ⟨rfl, ⟨nd, rfl⟩⟩; refine ⟨_, rfl, ?_⟩) | (go_at_call 59; (with_reducible refine (spec_l16Good.calls k _ _ l1 true _ ?side1 ?side2 A6.out).mono ?_); (case side1 => repeat (first | exact HR1.out | (with_reducible refine Kd.C_alloc ?_ _) | (with_reducible refine Kd.C_drewN ?_ _) | (with_reducible refine Kd.C_drew ?_))); (case side2 => exact HC1.out); rintro e w13 ⟨rfl, hb⟩; have n0_ := a_ (below_step b_ hb); clear HB; have HB := n0_; clear n0_; (try clear hb); (try clear hb2); (try clear hk); (try clear hi)) | (go_at_call 60; (with_reducible refine (spec_l16Order.calls k _ _ l1 _ _ l2 false _ ?side1 ?side2 ?side3 ?side4 A8.out).mono ?_); (case side1 => repeat (first | exact (Kd.C_below HR1.out HB.out) | (with_reducible refine Kd.C_alloc ?_ _) | (with_reducible refine Kd.C_drewN ?_ _) | (with_reducible refine Kd.C_drew ?_))); (case side2 => exact HC1.out); (case side3 => repeat (first | exact (Kd.C_below HR2.out HB.out) | (with_reducible refine Kd.C_alloc ?_ _) | (with_reducible refine Kd.C_drewN ?_ _) | (with_reducible refine Kd.C_drew ?_))); (case side4 => exact HC2.out); rintro e w' ⟨rfl, ⟨nd, rfl⟩⟩))
    go_ret2
    exact ⟨by first | rfl | (simp [errW_none, errW_some] <;> rfl) | (simp [*, errW_none, errW_some] <;> rfl), b_⟩
  ·replace c7 := Bool.eq_false_iff.mpr c7
   subst c7
   rw [if_neg (show ¬ (false = true) by decide)] at H
   simp only [Option.some.injEq, Prod.mk.injEq] at H
   obtain ⟨rfl, rfl⟩ := H
   go_enter Try.func21, Try.ntmps21
   go_wp2_with (first | ((with_reducible refine gate_callee (f := 58) rfl ?_); refine goesL_ (some 9) rfl rfl Try.func58 (by kernel_rfl) rfl #[.int .i64 a0] rfl la_ ?_; (with_reducible refine (spec_l16Kind.calls a0 true _ A4.out).mono ?_); rintro e w' ⟨rfl, ⟨nd, rfl⟩⟩; refine ⟨_, rfl, ?_⟩) | (go_at_call 59; (with_reducible refine (spec_l16Good.calls k _ _ l1 false _ ?side1 ?side2 A6.out).mono ?_); (case side1 => repeat (first | exact HR1.out | (with_reducible refine Kd.C_alloc ?_ _) | (with_reducible refine Kd.C_drewN ?_ _) | (with_reducible refine Kd.C_drew ?_))); (case side2 => exact HC1.out); rintro e w14 ⟨rfl, hb⟩; have n0_ := a_ (below_step b_ hb); clear HB; have HB := n0_; clear n0_; (try clear hb); (try clear hb2); (try clear hk); (try clear hi)))
   go_ret2
   exact ⟨by first | rfl | (simp [errW_none, errW_some] <;> rfl) | (simp [*, errW_none, errW_some] <;> rfl), b_⟩
 ·replace c5 := Bool.eq_false_iff.mpr c5
  subst c5
  rw [if_neg (show ¬ (false = true) by decide)] at H
  simp only [Option.some.injEq, Prod.mk.injEq] at H
  obtain ⟨rfl, rfl⟩ := H
  go_enter Try.func21, Try.ntmps21
  go_wp2_with (first | ((with_reducible refine gate_callee (f := 58) rfl ?_); refine goesL_ (some 9) rfl rfl Try.func58 (by kernel_rfl) rfl #[.int .i64 a0] rfl la_ ?_; (with_reducible refine (spec_l16Kind.calls a0 false _ A4.out).mono ?_); rintro e w' ⟨rfl, ⟨nd, rfl⟩⟩; refine ⟨_, rfl, ?_⟩))
  go_ret2
  exact ⟨by first | rfl | (simp [errW_none, errW_some] <;> rfl) | (simp [*, errW_none, errW_some] <;> rfl), b_⟩

/-! ### math_IsNaN: function 89 -/
def math_IsNaN.f (a0 : Nat) : Option (Bool) := some (!(feq a0 a0))
set_option maxHeartbeats 8000000 in
set_option maxRecDepth 100000 in
theorem math_IsNaN.calls (a0 : Nat) (r : Bool) (w : World) (h : math_IsNaN.f a0 = some r) :
  Calls Try.prog 89 #[.float .f64 a0] w fun e w' => e = .returned (.bool r) ∧ Drawn0 w w' := by
 have H : (some (!(feq a0 a0))) = some r := h
 clear h
 obtain rfl := Option.some.inj H
 go_enter Try.func89, Try.ntmps89
 go_wp2
 go_ret
 exact ⟨by first | rfl | (simp; done) | (simp [*]; done), by repeat (first | exact Drawn0.refl _ | apply Drawn0.step)⟩

-- NOT PRINTED: function 90 (math_Float64bits)

end Go.Proofs.Ythdpiceiemkjlaa.GFnOneOrder

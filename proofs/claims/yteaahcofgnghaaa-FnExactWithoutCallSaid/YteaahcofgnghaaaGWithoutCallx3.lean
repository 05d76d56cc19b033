-- Printed by wip/tools/print2.py out of the translation: walks and plain functions; Lean checks them.
import Derived.Test.YteaahcofgnghaaaGWithoutCallx0
import Derived.Test.YteaahcofgnghaaaGWithoutCallx2
namespace Go.Proofs.Yteaahcofgnghaaa.GWithoutCall
open Go.RowKit Go.Proofs.YteaahcofgnghaaaW.PrintWords Go.Proofs.YteaahcofgnghaaaW.PrintLast Go.Proofs.YteaahcofgnghaaaW.PrintMore
attribute [local go_sem] max2_int min2_int max_two min_two max_three min_three max_four min_four   -- for this text's walks alone
set_option linter.unusedVariables false
set_option linter.unusedSimpArgs false

/-! ### impl_GoodHistory: function 18 -/
mutual
def impl_GoodHistory.l0 : Nat → List (S92) → List (S92) → Int → Int → Option (Bool)
  | 0, _, _, _, _ => none
  | k + 1, x0, x7, x8, x9 => if x9 < x8 then (if 0 ≤ x9 then (if x9 < (x7.length : Int) then ((impl_in.f ((rd_T92 x7 x9).f0) 0 9).bind fun t152 => (if t152 = true then (if ((rd_T92 x7 x9).f1) < 0 then (impl_GoodHistory.j1 k x0 x9 x7 x8 x9 true ((rd_T92 x7 x9).f0) ((rd_T92 x7 x9).f1) ((rd_T92 x7 x9).f2) ((rd_T92 x7 x9).f3) ((rd_T92 x7 x9).f4)) else (if ((rd_T92 x7 x9).f1) ≥ ((rd_T92 x7 x9).f2) then (impl_GoodHistory.j1 k x0 x9 x7 x8 x9 true ((rd_T92 x7 x9).f0) ((rd_T92 x7 x9).f1) ((rd_T92 x7 x9).f2) ((rd_T92 x7 x9).f3) ((rd_T92 x7 x9).f4)) else (impl_GoodHistory.j1 k x0 x9 x7 x8 x9 (decide (((rd_T92 x7 x9).f2) > 999)) ((rd_T92 x7 x9).f0) ((rd_T92 x7 x9).f1) ((rd_T92 x7 x9).f2) ((rd_T92 x7 x9).f3) ((rd_T92 x7 x9).f4)))) else (impl_GoodHistory.j1 k x0 x9 x7 x8 x9 true ((rd_T92 x7 x9).f0) ((rd_T92 x7 x9).f1) ((rd_T92 x7 x9).f2) ((rd_T92 x7 x9).f3) ((rd_T92 x7 x9).f4)))) else (none)) else (none)) else (some (decide ((x0.length : Int) ≤ 8)))
def impl_GoodHistory.j1 : Nat → List (S92) → Int → List (S92) → Int → Int → Bool → Int → Int → Int → Bool → Nat → Option (Bool)
  | 0, _, _, _, _, _, _, _, _, _, _, _ => none
  | k + 1, x0, x3, x7, x8, x9, x34, x152000, x152001, x152002, x152003, x152004 => if x34 = true then (some false) else (if 0 ≤ x3 then (if x3 ≤ (x0.length : Int) then ((some (x0.take (x3 : Int).toNat : List (S92))).bind fun y153 => (impl_GoodHistory.l1 k x0 x7 x8 x9 y153 (y153.length : Int) 0 x152000 x152001 x152002 x152003 x152004)) else (none)) else (none))
def impl_GoodHistory.l1 : Nat → List (S92) → List (S92) → Int → Int → List (S92) → Int → Int → Int → Int → Int → Bool → Nat → Option (Bool)
  | 0, _, _, _, _, _, _, _, _, _, _, _, _ => none
  | k + 1, x0, x7, x8, x9, x37, x38, x39, x152000, x152001, x152002, x152003, x152004 => if x39 < x38 then (if 0 ≤ x39 then (if x39 < (x37.length : Int) then (if ((rd_T92 x37 x39).f0) = x152000 then (if ((rd_T92 x37 x39).f2) ≥ x152001 then (if x152002 ≥ ((rd_T92 x37 x39).f1) then (some false) else (impl_GoodHistory.l1 k x0 x7 x8 x9 x37 x38 (wrap64 (x39 + 1)) x152000 x152001 x152002 x152003 x152004)) else (impl_GoodHistory.l1 k x0 x7 x8 x9 x37 x38 (wrap64 (x39 + 1)) x152000 x152001 x152002 x152003 x152004)) else (impl_GoodHistory.l1 k x0 x7 x8 x9 x37 x38 (wrap64 (x39 + 1)) x152000 x152001 x152002 x152003 x152004)) else (none)) else (none)) else (impl_GoodHistory.l0 k x0 x7 x8 (wrap64 (x9 + 1)))
end
def impl_GoodHistory.f (k : Nat) (l0 : List (S92)) : Option (Bool) := impl_GoodHistory.l0 k l0 l0 (l0.length : Int) 0
theorem impl_GoodHistory.mono_l : ∀ k, (∀ y0 y1 y2 y3, LeO (impl_GoodHistory.l0 k y0 y1 y2 y3) (impl_GoodHistory.l0 (k + 1) y0 y1 y2 y3)) ∧ (∀ y0 y1 y2 y3 y4 y5 y6 y7 y8 y9 y10, LeO (impl_GoodHistory.j1 k y0 y1 y2 y3 y4 y5 y6 y7 y8 y9 y10) (impl_GoodHistory.j1 (k + 1) y0 y1 y2 y3 y4 y5 y6 y7 y8 y9 y10)) ∧ (∀ y0 y1 y2 y3 y4 y5 y6 y7 y8 y9 y10 y11, LeO (impl_GoodHistory.l1 k y0 y1 y2 y3 y4 y5 y6 y7 y8 y9 y10 y11) (impl_GoodHistory.l1 (k + 1) y0 y1 y2 y3 y4 y5 y6 y7 y8 y9 y10 y11))
  | 0 => ⟨fun _ _ _ _ r h => by simp [impl_GoodHistory.l0] at h, fun _ _ _ _ _ _ _ _ _ _ _ r h => by simp [impl_GoodHistory.j1] at h, fun _ _ _ _ _ _ _ _ _ _ _ _ r h => by simp [impl_GoodHistory.l1] at h⟩
  | k + 1 => by
    obtain ⟨ih0, ih1, ih2⟩ := impl_GoodHistory.mono_l k
    refine ⟨?_, ?_, ?_⟩
    · intro y0 y1 y2 y3
      unfold impl_GoodHistory.l0
      repeat' first
      | (with_reducible exact ih0 _ _ _ _)
      | (with_reducible exact ih1 _ _ _ _ _ _ _ _ _ _ _)
      | (with_reducible exact ih2 _ _ _ _ _ _ _ _ _ _ _ _)
      | (with_reducible exact LeO.refl _)
      | (with_reducible exact LeO.none _)
      | (with_reducible refine LeO.ite ?_ ?_)
      | (with_reducible refine LeO.bind ?_ (fun _ => ?_))
      | exact ih0 _ _ _ _
      | exact ih1 _ _ _ _ _ _ _ _ _ _ _
      | exact ih2 _ _ _ _ _ _ _ _ _ _ _ _
      | exact LeO.none _
      | refine LeO.ite ?_ ?_
      | refine LeO.bind ?_ (fun _ => ?_)
    · intro y0 y1 y2 y3 y4 y5 y6 y7 y8 y9 y10
      unfold impl_GoodHistory.j1
      repeat' first
      | (with_reducible exact ih0 _ _ _ _)
      | (with_reducible exact ih1 _ _ _ _ _ _ _ _ _ _ _)
      | (with_reducible exact ih2 _ _ _ _ _ _ _ _ _ _ _ _)
      | (with_reducible exact LeO.refl _)
      | (with_reducible exact LeO.none _)
      | (with_reducible refine LeO.ite ?_ ?_)
      | (with_reducible refine LeO.bind ?_ (fun _ => ?_))
      | exact ih0 _ _ _ _
      | exact ih1 _ _ _ _ _ _ _ _ _ _ _
      | exact ih2 _ _ _ _ _ _ _ _ _ _ _ _
      | exact LeO.none _
      | refine LeO.ite ?_ ?_
      | refine LeO.bind ?_ (fun _ => ?_)
    · intro y0 y1 y2 y3 y4 y5 y6 y7 y8 y9 y10 y11
      unfold impl_GoodHistory.l1
      repeat' first
      | (with_reducible exact ih0 _ _ _ _)
      | (with_reducible exact ih1 _ _ _ _ _ _ _ _ _ _ _)
      | (with_reducible exact ih2 _ _ _ _ _ _ _ _ _ _ _ _)
      | (with_reducible exact LeO.refl _)
      | (with_reducible exact LeO.none _)
      | (with_reducible refine LeO.ite ?_ ?_)
      | (with_reducible refine LeO.bind ?_ (fun _ => ?_))
      | exact ih0 _ _ _ _
      | exact ih1 _ _ _ _ _ _ _ _ _ _ _
      | exact ih2 _ _ _ _ _ _ _ _ _ _ _ _
      | exact LeO.none _
      | refine LeO.ite ?_ ?_
      | refine LeO.bind ?_ (fun _ => ?_)
theorem impl_GoodHistory.mono : ∀ a0 k, LeO (impl_GoodHistory.f k a0) (impl_GoodHistory.f (k + 1) a0) := by
  intro a0 k
  obtain ⟨ih0, ih1, ih2⟩ := impl_GoodHistory.mono_l k
  unfold impl_GoodHistory.f
  repeat' first
      | (with_reducible exact ih0 _ _ _ _)
      | (with_reducible exact ih1 _ _ _ _ _ _ _ _ _ _ _)
      | (with_reducible exact ih2 _ _ _ _ _ _ _ _ _ _ _ _)
      | (with_reducible exact LeO.refl _)
      | (with_reducible exact LeO.none _)
      | (with_reducible refine LeO.ite ?_ ?_)
      | (with_reducible refine LeO.bind ?_ (fun _ => ?_))
      | exact ih0 _ _ _ _
      | exact ih1 _ _ _ _ _ _ _ _ _ _ _
      | exact ih2 _ _ _ _ _ _ _ _ _ _ _ _
      | exact LeO.none _
      | refine LeO.ite ?_ ?_
      | refine LeO.bind ?_ (fun _ => ?_)
set_option maxHeartbeats 8000000 in
set_option maxRecDepth 100000 in
theorem impl_GoodHistory.calls (k : Nat) (A0 : Option Addr) (c0 : Nat) (l0 : List (S92)) (r : Bool) (w : World) (hr0 : Kd.C k92 w A0 l0.length l0) (hc0 : l0.length ≤ c0) (h : impl_GoodHistory.f k l0 = some r) :
    Calls Try.prog 18 #[.slice A0 l0.length c0] w fun e w' => e = .returned (.bool r) ∧ Below w.heap.size w w' := by
  have hu92 := Try.underlying92
  have HR0 := Aside0.mk hr0
  have HC0 := Aside0.mk hc0
  clear hr0 hc0
  have HB := Aside0.mk (Below.refl w.heap.size w)
  have H : (impl_GoodHistory.l0 k l0 l0 (l0.length : Int) 0) = some r := h
  clear h
  have H' := Aside0.mk H
  clear H
  go_enter Try.func18, Try.ntmps18
  go_wp2
  go_loopg [9] k (fun kq v9 w' => ∃ (x9_1 : Int), v9 = .int .i64 x9_1 ∧ Aside0 (impl_GoodHistory.l0 kq l0 l0 (l0.length : Int) x9_1 = some r) ∧ Aside0 (kq ≤ k) ∧ Aside0 (Below w.heap.size w w'))
  case atStart => exact ⟨(0), (by first | rfl | (simp; done) | (simp [*]; done)), H', ⟨Nat.le_refl _⟩, ⟨by repeat (first | (with_reducible first | exact HB.out | apply below_alloc | apply pw_below_drewN | apply below_drew1) | exact HB.out)⟩⟩
  case round =>
    clear H'
    try clear c1
    obtain ⟨x9_1, rfl, HA, HK1, HB⟩ := hrel
    cases gk with
    | zero => exact absurd HA.out (by simp [impl_GoodHistory.l0])
    | succ k1 =>
      have H := HA.out
      clear HA
      simp only [impl_GoodHistory.l0] at H
      by_cases c2 : x9_1 < (l0.length : Int)
      · rw [if_pos c2] at H
        have c2b0 : decide (x9_1 < (l0.length : Int)) = true := decide_eq_true c2
        clear c2
        by_cases c3 : 0 ≤ x9_1
        · rw [if_pos c3] at H
          have c3b0 : decide (0 ≤ x9_1) = true := decide_eq_true c3
          clear c3
          by_cases c4 : x9_1 < (l0.length : Int)
          · rw [if_pos c4] at H
            have c4b0 : decide (x9_1 < (l0.length : Int)) = true := decide_eq_true c4
            clear c4
            have HC5 := Aside0.mk H
            clear H
            have p150 : 0 ≤ (x9_1 : Int) := of_decide_eq_true (by first | (with_reducible assumption) | assumption)
            have q150 : x9_1 < (l0.length : Int) := of_decide_eq_true (by first | (with_reducible assumption) | assumption)
            obtain ⟨ad150, e150, hx150_0, hx150_1, hx150_2, hx150_3, hx150_4⟩ := at_T92 HR0.out x9_1 p150 q150
            cases e150
            replace hx150_0 := (HB.out.cell (World.block_lt_of_cell? w _ hx150_0)).trans hx150_0
            replace hx150_1 := (HB.out.cell (World.block_lt_of_cell? w _ hx150_1)).trans hx150_1
            replace hx150_2 := (HB.out.cell (World.block_lt_of_cell? w _ hx150_2)).trans hx150_2
            replace hx150_3 := (HB.out.cell (World.block_lt_of_cell? w _ hx150_3)).trans hx150_3
            replace hx150_4 := (HB.out.cell (World.block_lt_of_cell? w _ hx150_4)).trans hx150_4
            replace p150 := eq_true p150
            replace q150 := eq_true q150
            go_upto_region 4 with (first | ((with_reducible refine gate_dst (N := 4) rfl ?_); refine box_event ?hg (N := 4) ?hd (cs := #[.int .i64 0, .int .i64 0, .int .i64 0, .bool false, .float .f64 0]) (t := 92) ?hr ?_; (case hd => rfl); (case hg => rfl); (case hr => first | (go_simp; done) | (go_simp; rfl)); intro gb151 hg w6 hbox hb; have n0_ := Aside0.mk (below_step (by repeat (first | (with_reducible first | exact HB.out | apply below_alloc | apply pw_below_drewN | apply below_drew1) | exact HB.out)) hb); have n1_ := Aside0.mk (hbox); have n2_ := Aside0.mk ((by rw [hg]; exact (below_size (by repeat (first | (with_reducible first | exact HB.out | apply below_alloc | apply pw_below_drewN | apply below_drew1) | exact HB.out))) : w.heap.size ≤ gb151)); have n3_ := Aside0.mk ((by rw [hg]; exact (below_size (by repeat (first | (with_reducible first | exact HB.out | apply below_alloc | apply pw_below_drewN | apply below_drew1) | exact HB.out))) : w.heap.size ≤ gb151)); clear HB; have HB := n0_; have BK151 := n1_; have GW151 := n2_; have GE151 := n3_; clear n0_ n1_ n2_ n3_; clear hb hbox hg; have hcz7_0 : w6.cell? ⟨gb151, 0, none⟩ = some (.int .i64 0) := (blk_cell BK151.out 0).trans rfl; have hcz7_1 : w6.cell? ⟨gb151, 1, none⟩ = some (.int .i64 0) := (blk_cell BK151.out 1).trans rfl; have hcz7_2 : w6.cell? ⟨gb151, 2, none⟩ = some (.int .i64 0) := (blk_cell BK151.out 2).trans rfl; have hcz7_3 : w6.cell? ⟨gb151, 3, none⟩ = some (.bool false) := (blk_cell BK151.out 3).trans rfl; have hcz7_4 : w6.cell? ⟨gb151, 4, none⟩ = some (.float .f64 0) := (blk_cell BK151.out 4).trans rfl; have hfz7_0 := blk_frozen BK151.out 0; have hfz7_1 := blk_frozen BK151.out 1; have hfz7_2 := blk_frozen BK151.out 2; have hfz7_3 := blk_frozen BK151.out 3; have hfz7_4 := blk_frozen BK151.out 4))
            (try simp only [Act.put, List.setIfInBounds_toArray, List.set_cons_zero, List.set_cons_succ])
            go_cut [34] (fun v34 wc => ∃ (kq : Nat) (x34_4 : Bool), v34 = .bool x34_4 ∧ Aside0 (impl_GoodHistory.j1 kq l0 x9_1 l0 (l0.length : Int) x9_1 x34_4 ((rd_T92 l0 x9_1).f0) ((rd_T92 l0 x9_1).f1) ((rd_T92 l0 x9_1).f2) ((rd_T92 l0 x9_1).f3) ((rd_T92 l0 x9_1).f4) = some r) ∧ Aside0 (kq ≤ k1) ∧ Aside0 (wc.heap[gb151]? = some (.cells #[.int .i64 ((rd_T92 l0 x9_1).f0), .int .i64 ((rd_T92 l0 x9_1).f1), .int .i64 ((rd_T92 l0 x9_1).f2), .bool ((rd_T92 l0 x9_1).f3), .float .f64 ((rd_T92 l0 x9_1).f4)] 92 (0, 0))) ∧ Aside0 (Below w.heap.size w wc))
            case first =>
              have H := HC5.out
              clear HC5
              replace H := Option.bind_eq_some_iff.mp H
              obtain ⟨t152, A80, H⟩ := H
              replace H : (if t152 = true then (if ((rd_T92 l0 x9_1).f1) < 0 then (impl_GoodHistory.j1 k1 l0 x9_1 l0 (l0.length : Int) x9_1 true ((rd_T92 l0 x9_1).f0) ((rd_T92 l0 x9_1).f1) ((rd_T92 l0 x9_1).f2) ((rd_T92 l0 x9_1).f3) ((rd_T92 l0 x9_1).f4)) else (if ((rd_T92 l0 x9_1).f1) ≥ ((rd_T92 l0 x9_1).f2) then (impl_GoodHistory.j1 k1 l0 x9_1 l0 (l0.length : Int) x9_1 true ((rd_T92 l0 x9_1).f0) ((rd_T92 l0 x9_1).f1) ((rd_T92 l0 x9_1).f2) ((rd_T92 l0 x9_1).f3) ((rd_T92 l0 x9_1).f4)) else (impl_GoodHistory.j1 k1 l0 x9_1 l0 (l0.length : Int) x9_1 (decide (((rd_T92 l0 x9_1).f2) > 999)) ((rd_T92 l0 x9_1).f0) ((rd_T92 l0 x9_1).f1) ((rd_T92 l0 x9_1).f2) ((rd_T92 l0 x9_1).f3) ((rd_T92 l0 x9_1).f4)))) else (impl_GoodHistory.j1 k1 l0 x9_1 l0 (l0.length : Int) x9_1 true ((rd_T92 l0 x9_1).f0) ((rd_T92 l0 x9_1).f1) ((rd_T92 l0 x9_1).f2) ((rd_T92 l0 x9_1).f3) ((rd_T92 l0 x9_1).f4))) = some r := H
              have A8 := Aside0.mk A80
              clear A80
              by_cases c9 : t152 = true
              · subst c9
                have H1 : (if ((rd_T92 l0 x9_1).f1) < 0 then (impl_GoodHistory.j1 k1 l0 x9_1 l0 (l0.length : Int) x9_1 true ((rd_T92 l0 x9_1).f0) ((rd_T92 l0 x9_1).f1) ((rd_T92 l0 x9_1).f2) ((rd_T92 l0 x9_1).f3) ((rd_T92 l0 x9_1).f4)) else (if ((rd_T92 l0 x9_1).f1) ≥ ((rd_T92 l0 x9_1).f2) then (impl_GoodHistory.j1 k1 l0 x9_1 l0 (l0.length : Int) x9_1 true ((rd_T92 l0 x9_1).f0) ((rd_T92 l0 x9_1).f1) ((rd_T92 l0 x9_1).f2) ((rd_T92 l0 x9_1).f3) ((rd_T92 l0 x9_1).f4)) else (impl_GoodHistory.j1 k1 l0 x9_1 l0 (l0.length : Int) x9_1 (decide (((rd_T92 l0 x9_1).f2) > 999)) ((rd_T92 l0 x9_1).f0) ((rd_T92 l0 x9_1).f1) ((rd_T92 l0 x9_1).f2) ((rd_T92 l0 x9_1).f3) ((rd_T92 l0 x9_1).f4)))) = some r := by rw [if_pos rfl] at H; exact H
                clear H
                have H := H1
                clear H1
                by_cases c10 : ((rd_T92 l0 x9_1).f1) < 0
                · rw [if_pos c10] at H
                  have c10b0 : decide (((rd_T92 l0 x9_1).f1) < 0) = true := decide_eq_true c10
                  clear c10
                  (first | rw [c10b0] | (simp only [i64_w, i32_w]; rw [c10b0]) | skip)
                  have H' := Aside0.mk H
                  clear H
                  have hcz11_0 : w6.cell? ⟨gb151, 0, none⟩ = some (.int .i64 0) := (blk_cell BK151.out 0).trans rfl
                  have hcz11_1 : w6.cell? ⟨gb151, 1, none⟩ = some (.int .i64 0) := (blk_cell BK151.out 1).trans rfl
                  have hcz11_2 : w6.cell? ⟨gb151, 2, none⟩ = some (.int .i64 0) := (blk_cell BK151.out 2).trans rfl
                  have hcz11_3 : w6.cell? ⟨gb151, 3, none⟩ = some (.bool false) := (blk_cell BK151.out 3).trans rfl
                  have hcz11_4 : w6.cell? ⟨gb151, 4, none⟩ = some (.float .f64 0) := (blk_cell BK151.out 4).trans rfl
                  have hfz11_0 := blk_frozen BK151.out 0
                  have hfz11_1 := blk_frozen BK151.out 1
                  have hfz11_2 := blk_frozen BK151.out 2
                  have hfz11_3 := blk_frozen BK151.out 3
                  have hfz11_4 := blk_frozen BK151.out 4
                  go_wp2_with (first | ((with_reducible refine gate_callee (f := 67) rfl ?_); refine goesL_ (some 16) rfl rfl Try.func67 (by kernel_rfl) rfl #[.int .i64 ((rd_T92 l0 x9_1).f0), .int .i64 0, .int .i64 9] rfl (by (try simp only [List.map_toArray, List.map_cons, List.map_nil]); first | done | rfl | (simp only [List.length_drop, List.length_take]; rfl)) ?_; (with_reducible refine (impl_in.calls ((rd_T92 l0 x9_1).f0) 0 9 true _ A8.out).mono ?_); rintro e w' ⟨rfl, ⟨nd, rfl⟩⟩; refine ⟨_, rfl, ?_⟩))
                  go_meet
                  case rel => exact ⟨_, (true), (by first | rfl | (simp; done) | (simp [*]; done)), H', ⟨by have := HK1.out; first | omega | exact Nat.le_refl _⟩, ⟨by (with_reducible repeat (first | refine blk_drewN ?_ _ | refine blk_drew ?_ | refine blk_alloc ?_ _)); refine blk_put (cs := #[.int .i64 ((rd_T92 l0 x9_1).f0), .int .i64 ((rd_T92 l0 x9_1).f1), .int .i64 ((rd_T92 l0 x9_1).f2), .bool ((rd_T92 l0 x9_1).f3), .float .f64 0]) ?_ 4 _ rfl; (with_reducible repeat (first | refine blk_drewN ?_ _ | refine blk_drew ?_ | refine blk_alloc ?_ _)); refine blk_put (cs := #[.int .i64 ((rd_T92 l0 x9_1).f0), .int .i64 ((rd_T92 l0 x9_1).f1), .int .i64 ((rd_T92 l0 x9_1).f2), .bool false, .float .f64 0]) ?_ 3 _ rfl; (with_reducible repeat (first | refine blk_drewN ?_ _ | refine blk_drew ?_ | refine blk_alloc ?_ _)); refine blk_put (cs := #[.int .i64 ((rd_T92 l0 x9_1).f0), .int .i64 ((rd_T92 l0 x9_1).f1), .int .i64 0, .bool false, .float .f64 0]) ?_ 2 _ rfl; (with_reducible repeat (first | refine blk_drewN ?_ _ | refine blk_drew ?_ | refine blk_alloc ?_ _)); refine blk_put (cs := #[.int .i64 ((rd_T92 l0 x9_1).f0), .int .i64 0, .int .i64 0, .bool false, .float .f64 0]) ?_ 1 _ rfl; (with_reducible repeat (first | refine blk_drewN ?_ _ | refine blk_drew ?_ | refine blk_alloc ?_ _)); refine blk_put (cs := #[.int .i64 0, .int .i64 0, .int .i64 0, .bool false, .float .f64 0]) ?_ 0 _ rfl; (with_reducible repeat (first | refine blk_drewN ?_ _ | refine blk_drew ?_ | refine blk_alloc ?_ _)); exact BK151.out⟩, ⟨by repeat (first | (with_reducible first | exact HB.out | apply below_alloc | apply pw_below_drewN | apply below_drew1 | refine below_set ?_ GE151.out) | exact HB.out)⟩⟩
                · rw [if_neg c10] at H
                  have c10b0 : decide (((rd_T92 l0 x9_1).f1) < 0) = false := decide_eq_false c10
                  clear c10
                  (first | rw [c10b0] | (simp only [i64_w, i32_w]; rw [c10b0]) | skip)
                  by_cases c12 : ((rd_T92 l0 x9_1).f1) ≥ ((rd_T92 l0 x9_1).f2)
                  · rw [if_pos c12] at H
                    have c12b0 : decide (((rd_T92 l0 x9_1).f2) ≤ ((rd_T92 l0 x9_1).f1)) = true := decide_eq_true c12
                    clear c12
                    have H' := Aside0.mk H
                    clear H
                    have hcz13_0 : w6.cell? ⟨gb151, 0, none⟩ = some (.int .i64 0) := (blk_cell BK151.out 0).trans rfl
                    have hcz13_1 : w6.cell? ⟨gb151, 1, none⟩ = some (.int .i64 0) := (blk_cell BK151.out 1).trans rfl
                    have hcz13_2 : w6.cell? ⟨gb151, 2, none⟩ = some (.int .i64 0) := (blk_cell BK151.out 2).trans rfl
                    have hcz13_3 : w6.cell? ⟨gb151, 3, none⟩ = some (.bool false) := (blk_cell BK151.out 3).trans rfl
                    have hcz13_4 : w6.cell? ⟨gb151, 4, none⟩ = some (.float .f64 0) := (blk_cell BK151.out 4).trans rfl
                    have hfz13_0 := blk_frozen BK151.out 0
                    have hfz13_1 := blk_frozen BK151.out 1
                    have hfz13_2 := blk_frozen BK151.out 2
                    have hfz13_3 := blk_frozen BK151.out 3
                    have hfz13_4 := blk_frozen BK151.out 4
                    go_wp2_with (first | ((with_reducible refine gate_callee (f := 67) rfl ?_); refine goesL_ (some 16) rfl rfl Try.func67 (by kernel_rfl) rfl #[.int .i64 ((rd_T92 l0 x9_1).f0), .int .i64 0, .int .i64 9] rfl (by (try simp only [List.map_toArray, List.map_cons, List.map_nil]); first | done | rfl | (simp only [List.length_drop, List.length_take]; rfl)) ?_; (with_reducible refine (impl_in.calls ((rd_T92 l0 x9_1).f0) 0 9 true _ A8.out).mono ?_); rintro e w' ⟨rfl, ⟨nd, rfl⟩⟩; refine ⟨_, rfl, ?_⟩))
                    go_meet
                    case rel => exact ⟨_, (true), (by first | rfl | (simp; done) | (simp [*]; done)), H', ⟨by have := HK1.out; first | omega | exact Nat.le_refl _⟩, ⟨by (with_reducible repeat (first | refine blk_drewN ?_ _ | refine blk_drew ?_ | refine blk_alloc ?_ _)); refine blk_put (cs := #[.int .i64 ((rd_T92 l0 x9_1).f0), .int .i64 ((rd_T92 l0 x9_1).f1), .int .i64 ((rd_T92 l0 x9_1).f2), .bool ((rd_T92 l0 x9_1).f3), .float .f64 0]) ?_ 4 _ rfl; (with_reducible repeat (first | refine blk_drewN ?_ _ | refine blk_drew ?_ | refine blk_alloc ?_ _)); refine blk_put (cs := #[.int .i64 ((rd_T92 l0 x9_1).f0), .int .i64 ((rd_T92 l0 x9_1).f1), .int .i64 ((rd_T92 l0 x9_1).f2), .bool false, .float .f64 0]) ?_ 3 _ rfl; (with_reducible repeat (first | refine blk_drewN ?_ _ | refine blk_drew ?_ | refine blk_alloc ?_ _)); refine blk_put (cs := #[.int .i64 ((rd_T92 l0 x9_1).f0), .int .i64 ((rd_T92 l0 x9_1).f1), .int .i64 0, .bool false, .float .f64 0]) ?_ 2 _ rfl; (with_reducible repeat (first | refine blk_drewN ?_ _ | refine blk_drew ?_ | refine blk_alloc ?_ _)); refine blk_put (cs := #[.int .i64 ((rd_T92 l0 x9_1).f0), .int .i64 0, .int .i64 0, .bool false, .float .f64 0]) ?_ 1 _ rfl; (with_reducible repeat (first | refine blk_drewN ?_ _ | refine blk_drew ?_ | refine blk_alloc ?_ _)); refine blk_put (cs := #[.int .i64 0, .int .i64 0, .int .i64 0, .bool false, .float .f64 0]) ?_ 0 _ rfl; (with_reducible repeat (first | refine blk_drewN ?_ _ | refine blk_drew ?_ | refine blk_alloc ?_ _)); exact BK151.out⟩, ⟨by repeat (first | (with_reducible first | exact HB.out | apply below_alloc | apply pw_below_drewN | apply below_drew1 | refine below_set ?_ GE151.out) | exact HB.out)⟩⟩
                  · rw [if_neg c12] at H
                    have c12b0 : decide (((rd_T92 l0 x9_1).f2) ≤ ((rd_T92 l0 x9_1).f1)) = false := decide_eq_false c12
                    clear c12
                    have H' := Aside0.mk H
                    clear H
                    have hcz14_0 : w6.cell? ⟨gb151, 0, none⟩ = some (.int .i64 0) := (blk_cell BK151.out 0).trans rfl
                    have hcz14_1 : w6.cell? ⟨gb151, 1, none⟩ = some (.int .i64 0) := (blk_cell BK151.out 1).trans rfl
                    have hcz14_2 : w6.cell? ⟨gb151, 2, none⟩ = some (.int .i64 0) := (blk_cell BK151.out 2).trans rfl
                    have hcz14_3 : w6.cell? ⟨gb151, 3, none⟩ = some (.bool false) := (blk_cell BK151.out 3).trans rfl
                    have hcz14_4 : w6.cell? ⟨gb151, 4, none⟩ = some (.float .f64 0) := (blk_cell BK151.out 4).trans rfl
                    have hfz14_0 := blk_frozen BK151.out 0
                    have hfz14_1 := blk_frozen BK151.out 1
                    have hfz14_2 := blk_frozen BK151.out 2
                    have hfz14_3 := blk_frozen BK151.out 3
                    have hfz14_4 := blk_frozen BK151.out 4
                    go_wp2_with (first | ((with_reducible refine gate_callee (f := 67) rfl ?_); refine goesL_ (some 16) rfl rfl Try.func67 (by kernel_rfl) rfl #[.int .i64 ((rd_T92 l0 x9_1).f0), .int .i64 0, .int .i64 9] rfl (by (try simp only [List.map_toArray, List.map_cons, List.map_nil]); first | done | rfl | (simp only [List.length_drop, List.length_take]; rfl)) ?_; (with_reducible refine (impl_in.calls ((rd_T92 l0 x9_1).f0) 0 9 true _ A8.out).mono ?_); rintro e w' ⟨rfl, ⟨nd, rfl⟩⟩; refine ⟨_, rfl, ?_⟩))
                    go_meet
                    case rel => exact ⟨_, (decide (((rd_T92 l0 x9_1).f2) > 999)), (by first | rfl | (simp; done) | (simp [*]; done)), H', ⟨by have := HK1.out; first | omega | exact Nat.le_refl _⟩, ⟨by (with_reducible repeat (first | refine blk_drewN ?_ _ | refine blk_drew ?_ | refine blk_alloc ?_ _)); refine blk_put (cs := #[.int .i64 ((rd_T92 l0 x9_1).f0), .int .i64 ((rd_T92 l0 x9_1).f1), .int .i64 ((rd_T92 l0 x9_1).f2), .bool ((rd_T92 l0 x9_1).f3), .float .f64 0]) ?_ 4 _ rfl; (with_reducible repeat (first | refine blk_drewN ?_ _ | refine blk_drew ?_ | refine blk_alloc ?_ _)); refine blk_put (cs := #[.int .i64 ((rd_T92 l0 x9_1).f0), .int .i64 ((rd_T92 l0 x9_1).f1), .int .i64 ((rd_T92 l0 x9_1).f2), .bool false, .float .f64 0]) ?_ 3 _ rfl; (with_reducible repeat (first | refine blk_drewN ?_ _ | refine blk_drew ?_ | refine blk_alloc ?_ _)); refine blk_put (cs := #[.int .i64 ((rd_T92 l0 x9_1).f0), .int .i64 ((rd_T92 l0 x9_1).f1), .int .i64 0, .bool false, .float .f64 0]) ?_ 2 _ rfl; (with_reducible repeat (first | refine blk_drewN ?_ _ | refine blk_drew ?_ | refine blk_alloc ?_ _)); refine blk_put (cs := #[.int .i64 ((rd_T92 l0 x9_1).f0), .int .i64 0, .int .i64 0, .bool false, .float .f64 0]) ?_ 1 _ rfl; (with_reducible repeat (first | refine blk_drewN ?_ _ | refine blk_drew ?_ | refine blk_alloc ?_ _)); refine blk_put (cs := #[.int .i64 0, .int .i64 0, .int .i64 0, .bool false, .float .f64 0]) ?_ 0 _ rfl; (with_reducible repeat (first | refine blk_drewN ?_ _ | refine blk_drew ?_ | refine blk_alloc ?_ _)); exact BK151.out⟩, ⟨by repeat (first | (with_reducible first | exact HB.out | apply below_alloc | apply pw_below_drewN | apply below_drew1 | refine below_set ?_ GE151.out) | exact HB.out)⟩⟩
              · replace c9 := Bool.eq_false_iff.mpr c9
                subst c9
                have H1 : (impl_GoodHistory.j1 k1 l0 x9_1 l0 (l0.length : Int) x9_1 true ((rd_T92 l0 x9_1).f0) ((rd_T92 l0 x9_1).f1) ((rd_T92 l0 x9_1).f2) ((rd_T92 l0 x9_1).f3) ((rd_T92 l0 x9_1).f4)) = some r := by rw [if_neg (show ¬ (false = true) by decide)] at H; exact H
                clear H
                have H := H1
                clear H1
                have H' := Aside0.mk H
                clear H
                have hcz15_0 : w6.cell? ⟨gb151, 0, none⟩ = some (.int .i64 0) := (blk_cell BK151.out 0).trans rfl
                have hcz15_1 : w6.cell? ⟨gb151, 1, none⟩ = some (.int .i64 0) := (blk_cell BK151.out 1).trans rfl
                have hcz15_2 : w6.cell? ⟨gb151, 2, none⟩ = some (.int .i64 0) := (blk_cell BK151.out 2).trans rfl
                have hcz15_3 : w6.cell? ⟨gb151, 3, none⟩ = some (.bool false) := (blk_cell BK151.out 3).trans rfl
                have hcz15_4 : w6.cell? ⟨gb151, 4, none⟩ = some (.float .f64 0) := (blk_cell BK151.out 4).trans rfl
                have hfz15_0 := blk_frozen BK151.out 0
                have hfz15_1 := blk_frozen BK151.out 1
                have hfz15_2 := blk_frozen BK151.out 2
                have hfz15_3 := blk_frozen BK151.out 3
                have hfz15_4 := blk_frozen BK151.out 4
                go_wp2_with (first | ((with_reducible refine gate_callee (f := 67) rfl ?_); refine goesL_ (some 16) rfl rfl Try.func67 (by kernel_rfl) rfl #[.int .i64 ((rd_T92 l0 x9_1).f0), .int .i64 0, .int .i64 9] rfl (by (try simp only [List.map_toArray, List.map_cons, List.map_nil]); first | done | rfl | (simp only [List.length_drop, List.length_take]; rfl)) ?_; (with_reducible refine (impl_in.calls ((rd_T92 l0 x9_1).f0) 0 9 false _ A8.out).mono ?_); rintro e w' ⟨rfl, ⟨nd, rfl⟩⟩; refine ⟨_, rfl, ?_⟩))
                go_meet
                case rel => exact ⟨_, (true), (by first | rfl | (simp; done) | (simp [*]; done)), H', ⟨by have := HK1.out; first | omega | exact Nat.le_refl _⟩, ⟨by (with_reducible repeat (first | refine blk_drewN ?_ _ | refine blk_drew ?_ | refine blk_alloc ?_ _)); refine blk_put (cs := #[.int .i64 ((rd_T92 l0 x9_1).f0), .int .i64 ((rd_T92 l0 x9_1).f1), .int .i64 ((rd_T92 l0 x9_1).f2), .bool ((rd_T92 l0 x9_1).f3), .float .f64 0]) ?_ 4 _ rfl; (with_reducible repeat (first | refine blk_drewN ?_ _ | refine blk_drew ?_ | refine blk_alloc ?_ _)); refine blk_put (cs := #[.int .i64 ((rd_T92 l0 x9_1).f0), .int .i64 ((rd_T92 l0 x9_1).f1), .int .i64 ((rd_T92 l0 x9_1).f2), .bool false, .float .f64 0]) ?_ 3 _ rfl; (with_reducible repeat (first | refine blk_drewN ?_ _ | refine blk_drew ?_ | refine blk_alloc ?_ _)); refine blk_put (cs := #[.int .i64 ((rd_T92 l0 x9_1).f0), .int .i64 ((rd_T92 l0 x9_1).f1), .int .i64 0, .bool false, .float .f64 0]) ?_ 2 _ rfl; (with_reducible repeat (first | refine blk_drewN ?_ _ | refine blk_drew ?_ | refine blk_alloc ?_ _)); refine blk_put (cs := #[.int .i64 ((rd_T92 l0 x9_1).f0), .int .i64 0, .int .i64 0, .bool false, .float .f64 0]) ?_ 1 _ rfl; (with_reducible repeat (first | refine blk_drewN ?_ _ | refine blk_drew ?_ | refine blk_alloc ?_ _)); refine blk_put (cs := #[.int .i64 0, .int .i64 0, .int .i64 0, .bool false, .float .f64 0]) ?_ 0 _ rfl; (with_reducible repeat (first | refine blk_drewN ?_ _ | refine blk_drew ?_ | refine blk_alloc ?_ _)); exact BK151.out⟩, ⟨by repeat (first | (with_reducible first | exact HB.out | apply below_alloc | apply pw_below_drewN | apply below_drew1 | refine below_set ?_ GE151.out) | exact HB.out)⟩⟩
            case rest =>
              clear HC5
              try clear c1
              try clear p1
              try clear q1
              try clear hx1
              try clear c2
              try clear c2b0
              try clear p2
              try clear c3
              try clear c3b0
              try clear c4
              try clear c4b0
              try clear c6
              try clear c9
              try clear c10
              try clear c10b0
              try clear c12
              try clear c12b0
              try clear p15
              try clear q15
              try clear hx15
              try clear hcz11_0
              try clear hcz11_1
              try clear hcz11_2
              try clear hcz11_3
              try clear hcz11_4
              try clear hcz13_0
              try clear hcz13_1
              try clear hcz13_2
              try clear hcz13_3
              try clear hcz13_4
              try clear hcz14_0
              try clear hcz14_1
              try clear hcz14_2
              try clear hcz14_3
              try clear hcz14_4
              try clear hcz15_0
              try clear hcz15_1
              try clear hcz15_2
              try clear hcz15_3
              try clear hcz15_4
              try clear hcz7_0
              try clear hcz7_1
              try clear hcz7_2
              try clear hcz7_3
              try clear hcz7_4
              try clear hfz11_0
              try clear hfz11_1
              try clear hfz11_2
              try clear hfz11_3
              try clear hfz11_4
              try clear hfz13_0
              try clear hfz13_1
              try clear hfz13_2
              try clear hfz13_3
              try clear hfz13_4
              try clear hfz14_0
              try clear hfz14_1
              try clear hfz14_2
              try clear hfz14_3
              try clear hfz14_4
              try clear hfz15_0
              try clear hfz15_1
              try clear hfz15_2
              try clear hfz15_3
              try clear hfz15_4
              try clear hfz7_0
              try clear hfz7_1
              try clear hfz7_2
              try clear hfz7_3
              try clear hfz7_4
              try clear hx150_0
              try clear hx150_1
              try clear hx150_2
              try clear hx150_3
              try clear hx150_4
              try clear p150
              try clear q150
              obtain ⟨kq, x34_4, rfl, HA, HJ4, BK151, HB⟩ := hcut
              cases kq with
              | zero => exact absurd HA.out (by simp [impl_GoodHistory.j1])
              | succ kj4 =>
                have H := HA.out
                clear HA
                simp only [impl_GoodHistory.j1] at H
                by_cases c16 : x34_4 = true
                · subst c16
                  have H1 : (some false) = some r := by rw [if_pos rfl] at H; exact H
                  clear H
                  have H := H1
                  clear H1
                  obtain rfl := Option.some.inj H
                  go_wp2
                  go_ret
                  exact ⟨by first | rfl | (simp [errW_none, errW_some] <;> rfl) | (simp [*, errW_none, errW_some] <;> rfl), by repeat (first | (with_reducible first | exact HB.out | apply below_alloc | apply pw_below_drewN | apply below_drew1 | refine below_set ?_ GE151.out) | exact HB.out)⟩
                · replace c16 := Bool.eq_false_iff.mpr c16
                  subst c16
                  have H1 : (if 0 ≤ x9_1 then (if x9_1 ≤ (l0.length : Int) then ((some (l0.take (x9_1 : Int).toNat : List (S92))).bind fun y153 => (impl_GoodHistory.l1 kj4 l0 l0 (l0.length : Int) x9_1 y153 (y153.length : Int) 0 ((rd_T92 l0 x9_1).f0) ((rd_T92 l0 x9_1).f1) ((rd_T92 l0 x9_1).f2) ((rd_T92 l0 x9_1).f3) ((rd_T92 l0 x9_1).f4))) else (none)) else (none)) = some r := by rw [if_neg (show ¬ (false = true) by decide)] at H; exact H
                  clear H
                  have H := H1
                  clear H1
                  by_cases c17 : 0 ≤ x9_1
                  · rw [if_pos c17] at H
                    have c17b0 := eq_true c17
                    have c17b1 : decide (0 ≤ x9_1) = true := decide_eq_true c17
                    clear c17
                    by_cases c18 : x9_1 ≤ (l0.length : Int)
                    · rw [if_pos c18] at H
                      have c18b0 := eq_true c18
                      have c18b1 : decide (x9_1 ≤ (l0.length : Int)) = true := decide_eq_true c18
                      clear c18
                      obtain ⟨y153, hy153⟩ : ∃ y_ : List (S92), y_ = (l0.take (x9_1 : Int).toNat) := ⟨_, rfl⟩
                      replace H : (impl_GoodHistory.l1 kj4 l0 l0 (l0.length : Int) x9_1 y153 (y153.length : Int) 0 ((rd_T92 l0 x9_1).f0) ((rd_T92 l0 x9_1).f1) ((rd_T92 l0 x9_1).f2) ((rd_T92 l0 x9_1).f3) ((rd_T92 l0 x9_1).f4)) = some r := by first | (rw [hy153]; with_reducible exact H) | (have H2_ := (Option.bind_some _ _).symm.trans H; rw [hy153]; with_reducible exact H2_) | (have H2_ := (Option.bind_some _ _).symm.trans H; with_reducible exact H2_) | with_reducible exact H | (rw [hy153]; exact H) | exact H
                      have Ny153 := Aside0.mk hy153
                      clear hy153
                      have H' := Aside0.mk H
                      clear H
                      have q19 : (x9_1 : Int) ≤ ((l0.length : Int) : Int) := of_decide_eq_true (by first | (with_reducible assumption) | assumption)
                      obtain ⟨i019, hi019, _, hsz19, _⟩ := info_parts info92
                      have hroom19 : l0.length ≤ c0 := HC0.out
                      have hC19 : Kd.C k92 _ (some ad150) l0.length l0 := HR0.out
                      have hcut19 := cut_to (P := Try.prog) 25 92 .i64 Try.underlying25 hi019 (some ad150) l0.length c0 x9_1 (of_decide_eq_true (by first | (with_reducible assumption) | assumption)) q19 hroom19
                      have hr19 := Kd.C_take (m := (x9_1 : Int).toNat) hC19 (by omega)
                      have hy19 : y153.length = (x9_1 : Int).toNat := (by rw [Ny153.out, List.length_take]; omega)
                      rw [← Ny153.out] at hr19
                      rw [← hy19] at hcut19
                      have HR156 := Aside0.mk hr19
                      have HC156 := Aside0.mk (show y153.length ≤ c0 from by omega)
                      clear hr19 hC19 hroom19 hi019 hsz19
                      have KY19 := Aside0.mk hy19
                      clear hy19
                      replace q19 := eq_true q19
                      go_wp2
                      go_loopg [39] kj4 (fun kq v39 w' => ∃ (x39_3 : Int), v39 = .int .i64 x39_3 ∧ Aside0 (impl_GoodHistory.l1 kq l0 l0 (l0.length : Int) x9_1 y153 (y153.length : Int) x39_3 ((rd_T92 l0 x9_1).f0) ((rd_T92 l0 x9_1).f1) ((rd_T92 l0 x9_1).f2) ((rd_T92 l0 x9_1).f3) ((rd_T92 l0 x9_1).f4) = some r) ∧ Aside0 (kq ≤ kj4) ∧ Aside0 (w'.heap[gb151]? = some (.cells #[.int .i64 ((rd_T92 l0 x9_1).f0), .int .i64 ((rd_T92 l0 x9_1).f1), .int .i64 ((rd_T92 l0 x9_1).f2), .bool ((rd_T92 l0 x9_1).f3), .float .f64 ((rd_T92 l0 x9_1).f4)] 92 (0, 0))) ∧ Aside0 (Below w.heap.size w w'))
                      case atStart => exact ⟨(0), (by first | rfl | (simp; done) | (simp [*]; done)), H', ⟨Nat.le_refl _⟩, ⟨by (with_reducible repeat (first | refine blk_drewN ?_ _ | refine blk_drew ?_ | refine blk_alloc ?_ _)); exact BK151.out⟩, ⟨by repeat (first | (with_reducible first | exact HB.out | apply below_alloc | apply pw_below_drewN | apply below_drew1 | refine below_set ?_ GE151.out) | exact HB.out)⟩⟩
                      case round =>
                        clear H'
                        try clear c1
                        try clear p1
                        try clear q1
                        try clear hx1
                        try clear c2
                        try clear c2b0
                        try clear p2
                        try clear c3
                        try clear c3b0
                        try clear c4
                        try clear c4b0
                        try clear c6
                        try clear c9
                        try clear c10
                        try clear c10b0
                        try clear c12
                        try clear c12b0
                        try clear p15
                        try clear q15
                        try clear hx15
                        try clear c16
                        try clear c17
                        try clear c17b0
                        try clear c17b1
                        try clear c18
                        try clear c18b0
                        try clear c18b1
                        try clear q19
                        try clear hcz11_0
                        try clear hcz11_1
                        try clear hcz11_2
                        try clear hcz11_3
                        try clear hcz11_4
                        try clear hcz13_0
                        try clear hcz13_1
                        try clear hcz13_2
                        try clear hcz13_3
                        try clear hcz13_4
                        try clear hcz14_0
                        try clear hcz14_1
                        try clear hcz14_2
                        try clear hcz14_3
                        try clear hcz14_4
                        try clear hcz15_0
                        try clear hcz15_1
                        try clear hcz15_2
                        try clear hcz15_3
                        try clear hcz15_4
                        try clear hcz7_0
                        try clear hcz7_1
                        try clear hcz7_2
                        try clear hcz7_3
                        try clear hcz7_4
                        try clear hfz11_0
                        try clear hfz11_1
                        try clear hfz11_2
                        try clear hfz11_3
                        try clear hfz11_4
                        try clear hfz13_0
                        try clear hfz13_1
                        try clear hfz13_2
                        try clear hfz13_3
                        try clear hfz13_4
                        try clear hfz14_0
                        try clear hfz14_1
                        try clear hfz14_2
                        try clear hfz14_3
                        try clear hfz14_4
                        try clear hfz15_0
                        try clear hfz15_1
                        try clear hfz15_2
                        try clear hfz15_3
                        try clear hfz15_4
                        try clear hfz7_0
                        try clear hfz7_1
                        try clear hfz7_2
                        try clear hfz7_3
                        try clear hfz7_4
                        try clear hx150_0
                        try clear hx150_1
                        try clear hx150_2
                        try clear hx150_3
                        try clear hx150_4
                        try clear p1
                        try clear p15
                        try clear p150
                        try clear p2
                        try clear q1
                        try clear q15
                        try clear q150
                        try clear q19
                        obtain ⟨x39_3, rfl, HA, HK3, BK151, HB⟩ := hrel
                        cases gk with
                        | zero => exact absurd HA.out (by simp [impl_GoodHistory.l1])
                        | succ k3 =>
                          have H := HA.out
                          clear HA
                          simp only [impl_GoodHistory.l1] at H
                          by_cases c20 : x39_3 < (y153.length : Int)
                          · rw [if_pos c20] at H
                            have c20b0 : decide (x39_3 < (y153.length : Int)) = true := decide_eq_true c20
                            clear c20
                            by_cases c21 : 0 ≤ x39_3
                            · rw [if_pos c21] at H
                              have c21b0 : decide (0 ≤ x39_3) = true := decide_eq_true c21
                              clear c21
                              by_cases c22 : x39_3 < (y153.length : Int)
                              · rw [if_pos c22] at H
                                have c22b0 : decide (x39_3 < (y153.length : Int)) = true := decide_eq_true c22
                                clear c22
                                by_cases c23 : ((rd_T92 y153 x39_3).f0) = ((rd_T92 l0 x9_1).f0)
                                · rw [if_pos c23] at H
                                  have c23b0 : (((rd_T92 y153 x39_3).f0) == ((rd_T92 l0 x9_1).f0)) = true := beq_iff_eq.mpr c23
                                  have c23b1 : (((rd_T92 y153 x39_3).f0) != ((rd_T92 l0 x9_1).f0)) = false := bne_eq_false_iff_eq.mpr c23
                                  clear c23
                                  by_cases c24 : ((rd_T92 y153 x39_3).f2) ≥ ((rd_T92 l0 x9_1).f1)
                                  · rw [if_pos c24] at H
                                    have c24b0 : decide (((rd_T92 l0 x9_1).f1) ≤ ((rd_T92 y153 x39_3).f2)) = true := decide_eq_true c24
                                    clear c24
                                    by_cases c25 : ((rd_T92 l0 x9_1).f2) ≥ ((rd_T92 y153 x39_3).f1)
                                    · rw [if_pos c25] at H
                                      have c25b0 : decide (((rd_T92 y153 x39_3).f1) ≤ ((rd_T92 l0 x9_1).f2)) = true := decide_eq_true c25
                                      clear c25
                                      obtain rfl := Option.some.inj H
                                      have p157 : 0 ≤ (x39_3 : Int) := of_decide_eq_true (by first | (with_reducible assumption) | assumption)
                                      have q157 : x39_3 < (y153.length : Int) := of_decide_eq_true (by first | (with_reducible assumption) | assumption)
                                      obtain ⟨ad157, e157, hx157_0, hx157_1, hx157_2, hx157_3, hx157_4⟩ := at_T92 HR156.out x39_3 p157 q157
                                      obtain rfl : ad150 = ad157 := (by injection e157)
                                      replace hx157_0 := (HB.out.cell (World.block_lt_of_cell? w _ hx157_0)).trans hx157_0
                                      replace hx157_1 := (HB.out.cell (World.block_lt_of_cell? w _ hx157_1)).trans hx157_1
                                      replace hx157_2 := (HB.out.cell (World.block_lt_of_cell? w _ hx157_2)).trans hx157_2
                                      replace hx157_3 := (HB.out.cell (World.block_lt_of_cell? w _ hx157_3)).trans hx157_3
                                      replace hx157_4 := (HB.out.cell (World.block_lt_of_cell? w _ hx157_4)).trans hx157_4
                                      replace p157 := eq_true p157
                                      replace q157 := eq_true q157
                                      go_wp2_with (first | ((with_reducible refine gate_dst (N := 6) rfl ?_); refine box_event ?hg (N := 6) ?hd (cs := #[.int .i64 0, .int .i64 0, .int .i64 0, .bool false, .float .f64 0]) (t := 92) ?hr ?_; (case hd => rfl); (case hg => rfl); (case hr => first | (go_simp; done) | (go_simp; rfl)); intro gb158 hg w26 hbox hb; have n0_ := Aside0.mk (blk_below (g := gb151) (o := .cells #[.int .i64 ((rd_T92 l0 x9_1).f0), .int .i64 ((rd_T92 l0 x9_1).f1), .int .i64 ((rd_T92 l0 x9_1).f2), .bool ((rd_T92 l0 x9_1).f3), .float .f64 ((rd_T92 l0 x9_1).f4)] 92 (0, 0)) (by (with_reducible repeat (first | refine blk_drewN ?_ _ | refine blk_drew ?_ | refine blk_alloc ?_ _)); exact BK151.out) hb); have n1_ := Aside0.mk (below_step (by repeat (first | (with_reducible first | exact HB.out | apply below_alloc | apply pw_below_drewN | apply below_drew1 | refine below_set ?_ GE151.out) | exact HB.out)) hb); have n2_ := Aside0.mk (hbox); have n3_ := Aside0.mk ((by rw [hg]; exact (below_size (by repeat (first | (with_reducible first | exact HB.out | apply below_alloc | apply pw_below_drewN | apply below_drew1 | refine below_set ?_ GE151.out) | exact HB.out))) : w.heap.size ≤ gb158)); have n4_ := Aside0.mk ((by rw [hg]; exact (below_size (by repeat (first | (with_reducible first | exact HB.out | apply below_alloc | apply pw_below_drewN | apply below_drew1 | refine below_set ?_ GE151.out) | exact HB.out))) : w.heap.size ≤ gb158)); have n5_ := Aside0.mk ((by rw [hg]; exact Nat.ne_of_lt (blk_lt (g := gb151) (o := .cells #[.int .i64 ((rd_T92 l0 x9_1).f0), .int .i64 ((rd_T92 l0 x9_1).f1), .int .i64 ((rd_T92 l0 x9_1).f2), .bool ((rd_T92 l0 x9_1).f3), .float .f64 ((rd_T92 l0 x9_1).f4)] 92 (0, 0)) (by (with_reducible repeat (first | refine blk_drewN ?_ _ | refine blk_drew ?_ | refine blk_alloc ?_ _)); exact BK151.out)) : gb151 ≠ gb158)); have n6_ := Aside0.mk ((by rw [hg]; exact Nat.ne_of_gt (blk_lt (g := gb151) (o := .cells #[.int .i64 ((rd_T92 l0 x9_1).f0), .int .i64 ((rd_T92 l0 x9_1).f1), .int .i64 ((rd_T92 l0 x9_1).f2), .bool ((rd_T92 l0 x9_1).f3), .float .f64 ((rd_T92 l0 x9_1).f4)] 92 (0, 0)) (by (with_reducible repeat (first | refine blk_drewN ?_ _ | refine blk_drew ?_ | refine blk_alloc ?_ _)); exact BK151.out)) : gb158 ≠ gb151)); clear BK151; clear HB; have BK151 := n0_; have HB := n1_; have BK158 := n2_; have GW158 := n3_; have GE158 := n4_; have NB151_158 := n5_; have NB158_151 := n6_; clear n0_ n1_ n2_ n3_ n4_ n5_ n6_; clear hb hbox hg; have hnb27 := NB158_151.out; have hnc27 := NB151_158.out; have hcz28_0 : w26.cell? ⟨gb158, 0, none⟩ = some (.int .i64 0) := (blk_cell BK158.out 0).trans rfl; have hcz28_1 : w26.cell? ⟨gb158, 1, none⟩ = some (.int .i64 0) := (blk_cell BK158.out 1).trans rfl; have hcz28_2 : w26.cell? ⟨gb158, 2, none⟩ = some (.int .i64 0) := (blk_cell BK158.out 2).trans rfl; have hcz28_3 : w26.cell? ⟨gb158, 3, none⟩ = some (.bool false) := (blk_cell BK158.out 3).trans rfl; have hcz28_4 : w26.cell? ⟨gb158, 4, none⟩ = some (.float .f64 0) := (blk_cell BK158.out 4).trans rfl; have hfz28_0 := blk_frozen BK158.out 0; have hfz28_1 := blk_frozen BK158.out 1; have hfz28_2 := blk_frozen BK158.out 2; have hfz28_3 := blk_frozen BK158.out 3; have hfz28_4 := blk_frozen BK158.out 4; have hcz29_0 : w26.cell? ⟨gb151, 0, none⟩ = some (.int .i64 ((rd_T92 l0 x9_1).f0)) := (blk_cell BK151.out 0).trans rfl; have hcz29_1 : w26.cell? ⟨gb151, 1, none⟩ = some (.int .i64 ((rd_T92 l0 x9_1).f1)) := (blk_cell BK151.out 1).trans rfl; have hcz29_2 : w26.cell? ⟨gb151, 2, none⟩ = some (.int .i64 ((rd_T92 l0 x9_1).f2)) := (blk_cell BK151.out 2).trans rfl; have hcz29_3 : w26.cell? ⟨gb151, 3, none⟩ = some (.bool ((rd_T92 l0 x9_1).f3)) := (blk_cell BK151.out 3).trans rfl; have hcz29_4 : w26.cell? ⟨gb151, 4, none⟩ = some (.float .f64 ((rd_T92 l0 x9_1).f4)) := (blk_cell BK151.out 4).trans rfl; have hfz29_0 := blk_frozen BK151.out 0; have hfz29_1 := blk_frozen BK151.out 1; have hfz29_2 := blk_frozen BK151.out 2; have hfz29_3 := blk_frozen BK151.out 3; have hfz29_4 := blk_frozen BK151.out 4))
                                      go_ret
                                      exact ⟨by first | rfl | (simp [errW_none, errW_some] <;> rfl) | (simp [*, errW_none, errW_some] <;> rfl), by repeat (first | (with_reducible first | exact HB.out | apply below_alloc | apply pw_below_drewN | apply below_drew1 | refine below_set ?_ GE151.out | refine below_set ?_ GE158.out) | exact HB.out)⟩
                                    · rw [if_neg c25] at H
                                      have c25b0 : decide (((rd_T92 y153 x39_3).f1) ≤ ((rd_T92 l0 x9_1).f2)) = false := decide_eq_false c25
                                      clear c25
                                      have H' := Aside0.mk H
                                      clear H
                                      have p157 : 0 ≤ (x39_3 : Int) := of_decide_eq_true (by first | (with_reducible assumption) | assumption)
                                      have q157 : x39_3 < (y153.length : Int) := of_decide_eq_true (by first | (with_reducible assumption) | assumption)
                                      obtain ⟨ad157, e157, hx157_0, hx157_1, hx157_2, hx157_3, hx157_4⟩ := at_T92 HR156.out x39_3 p157 q157
                                      obtain rfl : ad150 = ad157 := (by injection e157)
                                      replace hx157_0 := (HB.out.cell (World.block_lt_of_cell? w _ hx157_0)).trans hx157_0
                                      replace hx157_1 := (HB.out.cell (World.block_lt_of_cell? w _ hx157_1)).trans hx157_1
                                      replace hx157_2 := (HB.out.cell (World.block_lt_of_cell? w _ hx157_2)).trans hx157_2
                                      replace hx157_3 := (HB.out.cell (World.block_lt_of_cell? w _ hx157_3)).trans hx157_3
                                      replace hx157_4 := (HB.out.cell (World.block_lt_of_cell? w _ hx157_4)).trans hx157_4
                                      replace p157 := eq_true p157
                                      replace q157 := eq_true q157
                                      go_wp2_with (first | ((with_reducible refine gate_dst (N := 6) rfl ?_); refine box_event ?hg (N := 6) ?hd (cs := #[.int .i64 0, .int .i64 0, .int .i64 0, .bool false, .float .f64 0]) (t := 92) ?hr ?_; (case hd => rfl); (case hg => rfl); (case hr => first | (go_simp; done) | (go_simp; rfl)); intro gb158 hg w30 hbox hb; have n0_ := Aside0.mk (blk_below (g := gb151) (o := .cells #[.int .i64 ((rd_T92 l0 x9_1).f0), .int .i64 ((rd_T92 l0 x9_1).f1), .int .i64 ((rd_T92 l0 x9_1).f2), .bool ((rd_T92 l0 x9_1).f3), .float .f64 ((rd_T92 l0 x9_1).f4)] 92 (0, 0)) (by (with_reducible repeat (first | refine blk_drewN ?_ _ | refine blk_drew ?_ | refine blk_alloc ?_ _)); exact BK151.out) hb); have n1_ := Aside0.mk (below_step (by repeat (first | (with_reducible first | exact HB.out | apply below_alloc | apply pw_below_drewN | apply below_drew1 | refine below_set ?_ GE151.out) | exact HB.out)) hb); have n2_ := Aside0.mk (hbox); have n3_ := Aside0.mk ((by rw [hg]; exact (below_size (by repeat (first | (with_reducible first | exact HB.out | apply below_alloc | apply pw_below_drewN | apply below_drew1 | refine below_set ?_ GE151.out) | exact HB.out))) : w.heap.size ≤ gb158)); have n4_ := Aside0.mk ((by rw [hg]; exact (below_size (by repeat (first | (with_reducible first | exact HB.out | apply below_alloc | apply pw_below_drewN | apply below_drew1 | refine below_set ?_ GE151.out) | exact HB.out))) : w.heap.size ≤ gb158)); have n5_ := Aside0.mk ((by rw [hg]; exact Nat.ne_of_lt (blk_lt (g := gb151) (o := .cells #[.int .i64 ((rd_T92 l0 x9_1).f0), .int .i64 ((rd_T92 l0 x9_1).f1), .int .i64 ((rd_T92 l0 x9_1).f2), .bool ((rd_T92 l0 x9_1).f3), .float .f64 ((rd_T92 l0 x9_1).f4)] 92 (0, 0)) (by (with_reducible repeat (first | refine blk_drewN ?_ _ | refine blk_drew ?_ | refine blk_alloc ?_ _)); exact BK151.out)) : gb151 ≠ gb158)); have n6_ := Aside0.mk ((by rw [hg]; exact Nat.ne_of_gt (blk_lt (g := gb151) (o := .cells #[.int .i64 ((rd_T92 l0 x9_1).f0), .int .i64 ((rd_T92 l0 x9_1).f1), .int .i64 ((rd_T92 l0 x9_1).f2), .bool ((rd_T92 l0 x9_1).f3), .float .f64 ((rd_T92 l0 x9_1).f4)] 92 (0, 0)) (by (with_reducible repeat (first | refine blk_drewN ?_ _ | refine blk_drew ?_ | refine blk_alloc ?_ _)); exact BK151.out)) : gb158 ≠ gb151)); clear BK151; clear HB; have BK151 := n0_; have HB := n1_; have BK158 := n2_; have GW158 := n3_; have GE158 := n4_; have NB151_158 := n5_; have NB158_151 := n6_; clear n0_ n1_ n2_ n3_ n4_ n5_ n6_; clear hb hbox hg; have hnb31 := NB158_151.out; have hnc31 := NB151_158.out; have hcz32_0 : w30.cell? ⟨gb158, 0, none⟩ = some (.int .i64 0) := (blk_cell BK158.out 0).trans rfl; have hcz32_1 : w30.cell? ⟨gb158, 1, none⟩ = some (.int .i64 0) := (blk_cell BK158.out 1).trans rfl; have hcz32_2 : w30.cell? ⟨gb158, 2, none⟩ = some (.int .i64 0) := (blk_cell BK158.out 2).trans rfl; have hcz32_3 : w30.cell? ⟨gb158, 3, none⟩ = some (.bool false) := (blk_cell BK158.out 3).trans rfl; have hcz32_4 : w30.cell? ⟨gb158, 4, none⟩ = some (.float .f64 0) := (blk_cell BK158.out 4).trans rfl; have hfz32_0 := blk_frozen BK158.out 0; have hfz32_1 := blk_frozen BK158.out 1; have hfz32_2 := blk_frozen BK158.out 2; have hfz32_3 := blk_frozen BK158.out 3; have hfz32_4 := blk_frozen BK158.out 4; have hcz33_0 : w30.cell? ⟨gb151, 0, none⟩ = some (.int .i64 ((rd_T92 l0 x9_1).f0)) := (blk_cell BK151.out 0).trans rfl; have hcz33_1 : w30.cell? ⟨gb151, 1, none⟩ = some (.int .i64 ((rd_T92 l0 x9_1).f1)) := (blk_cell BK151.out 1).trans rfl; have hcz33_2 : w30.cell? ⟨gb151, 2, none⟩ = some (.int .i64 ((rd_T92 l0 x9_1).f2)) := (blk_cell BK151.out 2).trans rfl; have hcz33_3 : w30.cell? ⟨gb151, 3, none⟩ = some (.bool ((rd_T92 l0 x9_1).f3)) := (blk_cell BK151.out 3).trans rfl; have hcz33_4 : w30.cell? ⟨gb151, 4, none⟩ = some (.float .f64 ((rd_T92 l0 x9_1).f4)) := (blk_cell BK151.out 4).trans rfl; have hfz33_0 := blk_frozen BK151.out 0; have hfz33_1 := blk_frozen BK151.out 1; have hfz33_2 := blk_frozen BK151.out 2; have hfz33_3 := blk_frozen BK151.out 3; have hfz33_4 := blk_frozen BK151.out 4))
                                      go_roundg k3
                                      case measure => have := HK1.out; have := HJ4.out; have := HK3.out; omega
                                      case rel => exact ⟨(wrap64 (x39_3 + 1)), (by first | rfl | (simp; done) | (simp [*]; done)), H', ⟨by have := HK1.out; have := HJ4.out; have := HK3.out; omega⟩, ⟨by (with_reducible repeat (first | refine blk_drewN ?_ _ | refine blk_drew ?_ | refine blk_alloc ?_ _)); refine blk_far ?_ NB151_158.out _; (with_reducible repeat (first | refine blk_drewN ?_ _ | refine blk_drew ?_ | refine blk_alloc ?_ _)); refine blk_far ?_ NB151_158.out _; (with_reducible repeat (first | refine blk_drewN ?_ _ | refine blk_drew ?_ | refine blk_alloc ?_ _)); refine blk_far ?_ NB151_158.out _; (with_reducible repeat (first | refine blk_drewN ?_ _ | refine blk_drew ?_ | refine blk_alloc ?_ _)); refine blk_far ?_ NB151_158.out _; (with_reducible repeat (first | refine blk_drewN ?_ _ | refine blk_drew ?_ | refine blk_alloc ?_ _)); refine blk_far ?_ NB151_158.out _; (with_reducible repeat (first | refine blk_drewN ?_ _ | refine blk_drew ?_ | refine blk_alloc ?_ _)); exact BK151.out⟩, ⟨by repeat (first | (with_reducible first | exact HB.out | apply below_alloc | apply pw_below_drewN | apply below_drew1 | refine below_set ?_ GE151.out | refine below_set ?_ GE158.out) | exact HB.out)⟩⟩
                                  · rw [if_neg c24] at H
                                    have c24b0 : decide (((rd_T92 l0 x9_1).f1) ≤ ((rd_T92 y153 x39_3).f2)) = false := decide_eq_false c24
                                    clear c24
                                    have H' := Aside0.mk H
                                    clear H
                                    have p157 : 0 ≤ (x39_3 : Int) := of_decide_eq_true (by first | (with_reducible assumption) | assumption)
                                    have q157 : x39_3 < (y153.length : Int) := of_decide_eq_true (by first | (with_reducible assumption) | assumption)
                                    obtain ⟨ad157, e157, hx157_0, hx157_1, hx157_2, hx157_3, hx157_4⟩ := at_T92 HR156.out x39_3 p157 q157
                                    obtain rfl : ad150 = ad157 := (by injection e157)
                                    replace hx157_0 := (HB.out.cell (World.block_lt_of_cell? w _ hx157_0)).trans hx157_0
                                    replace hx157_1 := (HB.out.cell (World.block_lt_of_cell? w _ hx157_1)).trans hx157_1
                                    replace hx157_2 := (HB.out.cell (World.block_lt_of_cell? w _ hx157_2)).trans hx157_2
                                    replace hx157_3 := (HB.out.cell (World.block_lt_of_cell? w _ hx157_3)).trans hx157_3
                                    replace hx157_4 := (HB.out.cell (World.block_lt_of_cell? w _ hx157_4)).trans hx157_4
                                    replace p157 := eq_true p157
                                    replace q157 := eq_true q157
                                    go_wp2_with (first | ((with_reducible refine gate_dst (N := 6) rfl ?_); refine box_event ?hg (N := 6) ?hd (cs := #[.int .i64 0, .int .i64 0, .int .i64 0, .bool false, .float .f64 0]) (t := 92) ?hr ?_; (case hd => rfl); (case hg => rfl); (case hr => first | (go_simp; done) | (go_simp; rfl)); intro gb158 hg w34 hbox hb; have n0_ := Aside0.mk (blk_below (g := gb151) (o := .cells #[.int .i64 ((rd_T92 l0 x9_1).f0), .int .i64 ((rd_T92 l0 x9_1).f1), .int .i64 ((rd_T92 l0 x9_1).f2), .bool ((rd_T92 l0 x9_1).f3), .float .f64 ((rd_T92 l0 x9_1).f4)] 92 (0, 0)) (by (with_reducible repeat (first | refine blk_drewN ?_ _ | refine blk_drew ?_ | refine blk_alloc ?_ _)); exact BK151.out) hb); have n1_ := Aside0.mk (below_step (by repeat (first | (with_reducible first | exact HB.out | apply below_alloc | apply pw_below_drewN | apply below_drew1 | refine below_set ?_ GE151.out) | exact HB.out)) hb); have n2_ := Aside0.mk (hbox); have n3_ := Aside0.mk ((by rw [hg]; exact (below_size (by repeat (first | (with_reducible first | exact HB.out | apply below_alloc | apply pw_below_drewN | apply below_drew1 | refine below_set ?_ GE151.out) | exact HB.out))) : w.heap.size ≤ gb158)); have n4_ := Aside0.mk ((by rw [hg]; exact (below_size (by repeat (first | (with_reducible first | exact HB.out | apply below_alloc | apply pw_below_drewN | apply below_drew1 | refine below_set ?_ GE151.out) | exact HB.out))) : w.heap.size ≤ gb158)); have n5_ := Aside0.mk ((by rw [hg]; exact Nat.ne_of_lt (blk_lt (g := gb151) (o := .cells #[.int .i64 ((rd_T92 l0 x9_1).f0), .int .i64 ((rd_T92 l0 x9_1).f1), .int .i64 ((rd_T92 l0 x9_1).f2), .bool ((rd_T92 l0 x9_1).f3), .float .f64 ((rd_T92 l0 x9_1).f4)] 92 (0, 0)) (by (with_reducible repeat (first | refine blk_drewN ?_ _ | refine blk_drew ?_ | refine blk_alloc ?_ _)); exact BK151.out)) : gb151 ≠ gb158)); have n6_ := Aside0.mk ((by rw [hg]; exact Nat.ne_of_gt (blk_lt (g := gb151) (o := .cells #[.int .i64 ((rd_T92 l0 x9_1).f0), .int .i64 ((rd_T92 l0 x9_1).f1), .int .i64 ((rd_T92 l0 x9_1).f2), .bool ((rd_T92 l0 x9_1).f3), .float .f64 ((rd_T92 l0 x9_1).f4)] 92 (0, 0)) (by (with_reducible repeat (first | refine blk_drewN ?_ _ | refine blk_drew ?_ | refine blk_alloc ?_ _)); exact BK151.out)) : gb158 ≠ gb151)); clear BK151; clear HB; have BK151 := n0_; have HB := n1_; have BK158 := n2_; have GW158 := n3_; have GE158 := n4_; have NB151_158 := n5_; have NB158_151 := n6_; clear n0_ n1_ n2_ n3_ n4_ n5_ n6_; clear hb hbox hg; have hnb35 := NB158_151.out; have hnc35 := NB151_158.out; have hcz36_0 : w34.cell? ⟨gb158, 0, none⟩ = some (.int .i64 0) := (blk_cell BK158.out 0).trans rfl; have hcz36_1 : w34.cell? ⟨gb158, 1, none⟩ = some (.int .i64 0) := (blk_cell BK158.out 1).trans rfl; have hcz36_2 : w34.cell? ⟨gb158, 2, none⟩ = some (.int .i64 0) := (blk_cell BK158.out 2).trans rfl; have hcz36_3 : w34.cell? ⟨gb158, 3, none⟩ = some (.bool false) := (blk_cell BK158.out 3).trans rfl; have hcz36_4 : w34.cell? ⟨gb158, 4, none⟩ = some (.float .f64 0) := (blk_cell BK158.out 4).trans rfl; have hfz36_0 := blk_frozen BK158.out 0; have hfz36_1 := blk_frozen BK158.out 1; have hfz36_2 := blk_frozen BK158.out 2; have hfz36_3 := blk_frozen BK158.out 3; have hfz36_4 := blk_frozen BK158.out 4; have hcz37_0 : w34.cell? ⟨gb151, 0, none⟩ = some (.int .i64 ((rd_T92 l0 x9_1).f0)) := (blk_cell BK151.out 0).trans rfl; have hcz37_1 : w34.cell? ⟨gb151, 1, none⟩ = some (.int .i64 ((rd_T92 l0 x9_1).f1)) := (blk_cell BK151.out 1).trans rfl; have hcz37_2 : w34.cell? ⟨gb151, 2, none⟩ = some (.int .i64 ((rd_T92 l0 x9_1).f2)) := (blk_cell BK151.out 2).trans rfl; have hcz37_3 : w34.cell? ⟨gb151, 3, none⟩ = some (.bool ((rd_T92 l0 x9_1).f3)) := (blk_cell BK151.out 3).trans rfl; have hcz37_4 : w34.cell? ⟨gb151, 4, none⟩ = some (.float .f64 ((rd_T92 l0 x9_1).f4)) := (blk_cell BK151.out 4).trans rfl; have hfz37_0 := blk_frozen BK151.out 0; have hfz37_1 := blk_frozen BK151.out 1; have hfz37_2 := blk_frozen BK151.out 2; have hfz37_3 := blk_frozen BK151.out 3; have hfz37_4 := blk_frozen BK151.out 4))
                                    go_roundg k3
                                    case measure => have := HK1.out; have := HJ4.out; have := HK3.out; omega
                                    case rel => exact ⟨(wrap64 (x39_3 + 1)), (by first | rfl | (simp; done) | (simp [*]; done)), H', ⟨by have := HK1.out; have := HJ4.out; have := HK3.out; omega⟩, ⟨by (with_reducible repeat (first | refine blk_drewN ?_ _ | refine blk_drew ?_ | refine blk_alloc ?_ _)); refine blk_far ?_ NB151_158.out _; (with_reducible repeat (first | refine blk_drewN ?_ _ | refine blk_drew ?_ | refine blk_alloc ?_ _)); refine blk_far ?_ NB151_158.out _; (with_reducible repeat (first | refine blk_drewN ?_ _ | refine blk_drew ?_ | refine blk_alloc ?_ _)); refine blk_far ?_ NB151_158.out _; (with_reducible repeat (first | refine blk_drewN ?_ _ | refine blk_drew ?_ | refine blk_alloc ?_ _)); refine blk_far ?_ NB151_158.out _; (with_reducible repeat (first | refine blk_drewN ?_ _ | refine blk_drew ?_ | refine blk_alloc ?_ _)); refine blk_far ?_ NB151_158.out _; (with_reducible repeat (first | refine blk_drewN ?_ _ | refine blk_drew ?_ | refine blk_alloc ?_ _)); exact BK151.out⟩, ⟨by repeat (first | (with_reducible first | exact HB.out | apply below_alloc | apply pw_below_drewN | apply below_drew1 | refine below_set ?_ GE151.out | refine below_set ?_ GE158.out) | exact HB.out)⟩⟩
                                · rw [if_neg c23] at H
                                  have c23b0 : (((rd_T92 y153 x39_3).f0) == ((rd_T92 l0 x9_1).f0)) = false := beq_eq_false_iff_ne.mpr c23
                                  have c23b1 : (((rd_T92 y153 x39_3).f0) != ((rd_T92 l0 x9_1).f0)) = true := bne_iff_ne.mpr c23
                                  have H' := Aside0.mk H
                                  clear H
                                  have p157 : 0 ≤ (x39_3 : Int) := of_decide_eq_true (by first | (with_reducible assumption) | assumption)
                                  have q157 : x39_3 < (y153.length : Int) := of_decide_eq_true (by first | (with_reducible assumption) | assumption)
                                  obtain ⟨ad157, e157, hx157_0, hx157_1, hx157_2, hx157_3, hx157_4⟩ := at_T92 HR156.out x39_3 p157 q157
                                  obtain rfl : ad150 = ad157 := (by injection e157)
                                  replace hx157_0 := (HB.out.cell (World.block_lt_of_cell? w _ hx157_0)).trans hx157_0
                                  replace hx157_1 := (HB.out.cell (World.block_lt_of_cell? w _ hx157_1)).trans hx157_1
                                  replace hx157_2 := (HB.out.cell (World.block_lt_of_cell? w _ hx157_2)).trans hx157_2
                                  replace hx157_3 := (HB.out.cell (World.block_lt_of_cell? w _ hx157_3)).trans hx157_3
                                  replace hx157_4 := (HB.out.cell (World.block_lt_of_cell? w _ hx157_4)).trans hx157_4
                                  replace p157 := eq_true p157
                                  replace q157 := eq_true q157
                                  go_wp2_with (first | ((with_reducible refine gate_dst (N := 6) rfl ?_); refine box_event ?hg (N := 6) ?hd (cs := #[.int .i64 0, .int .i64 0, .int .i64 0, .bool false, .float .f64 0]) (t := 92) ?hr ?_; (case hd => rfl); (case hg => rfl); (case hr => first | (go_simp; done) | (go_simp; rfl)); intro gb158 hg w38 hbox hb; have n0_ := Aside0.mk (blk_below (g := gb151) (o := .cells #[.int .i64 ((rd_T92 l0 x9_1).f0), .int .i64 ((rd_T92 l0 x9_1).f1), .int .i64 ((rd_T92 l0 x9_1).f2), .bool ((rd_T92 l0 x9_1).f3), .float .f64 ((rd_T92 l0 x9_1).f4)] 92 (0, 0)) (by (with_reducible repeat (first | refine blk_drewN ?_ _ | refine blk_drew ?_ | refine blk_alloc ?_ _)); exact BK151.out) hb); have n1_ := Aside0.mk (below_step (by repeat (first | (with_reducible first | exact HB.out | apply below_alloc | apply pw_below_drewN | apply below_drew1 | refine below_set ?_ GE151.out) | exact HB.out)) hb); have n2_ := Aside0.mk (hbox); have n3_ := Aside0.mk ((by rw [hg]; exact (below_size (by repeat (first | (with_reducible first | exact HB.out | apply below_alloc | apply pw_below_drewN | apply below_drew1 | refine below_set ?_ GE151.out) | exact HB.out))) : w.heap.size ≤ gb158)); have n4_ := Aside0.mk ((by rw [hg]; exact (below_size (by repeat (first | (with_reducible first | exact HB.out | apply below_alloc | apply pw_below_drewN | apply below_drew1 | refine below_set ?_ GE151.out) | exact HB.out))) : w.heap.size ≤ gb158)); have n5_ := Aside0.mk ((by rw [hg]; exact Nat.ne_of_lt (blk_lt (g := gb151) (o := .cells #[.int .i64 ((rd_T92 l0 x9_1).f0), .int .i64 ((rd_T92 l0 x9_1).f1), .int .i64 ((rd_T92 l0 x9_1).f2), .bool ((rd_T92 l0 x9_1).f3), .float .f64 ((rd_T92 l0 x9_1).f4)] 92 (0, 0)) (by (with_reducible repeat (first | refine blk_drewN ?_ _ | refine blk_drew ?_ | refine blk_alloc ?_ _)); exact BK151.out)) : gb151 ≠ gb158)); have n6_ := Aside0.mk ((by rw [hg]; exact Nat.ne_of_gt (blk_lt (g := gb151) (o := .cells #[.int .i64 ((rd_T92 l0 x9_1).f0), .int .i64 ((rd_T92 l0 x9_1).f1), .int .i64 ((rd_T92 l0 x9_1).f2), .bool ((rd_T92 l0 x9_1).f3), .float .f64 ((rd_T92 l0 x9_1).f4)] 92 (0, 0)) (by (with_reducible repeat (first | refine blk_drewN ?_ _ | refine blk_drew ?_ | refine blk_alloc ?_ _)); exact BK151.out)) : gb158 ≠ gb151)); clear BK151; clear HB; have BK151 := n0_; have HB := n1_; have BK158 := n2_; have GW158 := n3_; have GE158 := n4_; have NB151_158 := n5_; have NB158_151 := n6_; clear n0_ n1_ n2_ n3_ n4_ n5_ n6_; clear hb hbox hg; have hnb39 := NB158_151.out; have hnc39 := NB151_158.out; have hcz40_0 : w38.cell? ⟨gb158, 0, none⟩ = some (.int .i64 0) := (blk_cell BK158.out 0).trans rfl; have hcz40_1 : w38.cell? ⟨gb158, 1, none⟩ = some (.int .i64 0) := (blk_cell BK158.out 1).trans rfl; have hcz40_2 : w38.cell? ⟨gb158, 2, none⟩ = some (.int .i64 0) := (blk_cell BK158.out 2).trans rfl; have hcz40_3 : w38.cell? ⟨gb158, 3, none⟩ = some (.bool false) := (blk_cell BK158.out 3).trans rfl; have hcz40_4 : w38.cell? ⟨gb158, 4, none⟩ = some (.float .f64 0) := (blk_cell BK158.out 4).trans rfl; have hfz40_0 := blk_frozen BK158.out 0; have hfz40_1 := blk_frozen BK158.out 1; have hfz40_2 := blk_frozen BK158.out 2; have hfz40_3 := blk_frozen BK158.out 3; have hfz40_4 := blk_frozen BK158.out 4; have hcz41_0 : w38.cell? ⟨gb151, 0, none⟩ = some (.int .i64 ((rd_T92 l0 x9_1).f0)) := (blk_cell BK151.out 0).trans rfl; have hcz41_1 : w38.cell? ⟨gb151, 1, none⟩ = some (.int .i64 ((rd_T92 l0 x9_1).f1)) := (blk_cell BK151.out 1).trans rfl; have hcz41_2 : w38.cell? ⟨gb151, 2, none⟩ = some (.int .i64 ((rd_T92 l0 x9_1).f2)) := (blk_cell BK151.out 2).trans rfl; have hcz41_3 : w38.cell? ⟨gb151, 3, none⟩ = some (.bool ((rd_T92 l0 x9_1).f3)) := (blk_cell BK151.out 3).trans rfl; have hcz41_4 : w38.cell? ⟨gb151, 4, none⟩ = some (.float .f64 ((rd_T92 l0 x9_1).f4)) := (blk_cell BK151.out 4).trans rfl; have hfz41_0 := blk_frozen BK151.out 0; have hfz41_1 := blk_frozen BK151.out 1; have hfz41_2 := blk_frozen BK151.out 2; have hfz41_3 := blk_frozen BK151.out 3; have hfz41_4 := blk_frozen BK151.out 4))
                                  go_roundg k3
                                  case measure => have := HK1.out; have := HJ4.out; have := HK3.out; omega
                                  case rel => exact ⟨(wrap64 (x39_3 + 1)), (by first | rfl | (simp; done) | (simp [*]; done)), H', ⟨by have := HK1.out; have := HJ4.out; have := HK3.out; omega⟩, ⟨by (with_reducible repeat (first | refine blk_drewN ?_ _ | refine blk_drew ?_ | refine blk_alloc ?_ _)); refine blk_far ?_ NB151_158.out _; (with_reducible repeat (first | refine blk_drewN ?_ _ | refine blk_drew ?_ | refine blk_alloc ?_ _)); refine blk_far ?_ NB151_158.out _; (with_reducible repeat (first | refine blk_drewN ?_ _ | refine blk_drew ?_ | refine blk_alloc ?_ _)); refine blk_far ?_ NB151_158.out _; (with_reducible repeat (first | refine blk_drewN ?_ _ | refine blk_drew ?_ | refine blk_alloc ?_ _)); refine blk_far ?_ NB151_158.out _; (with_reducible repeat (first | refine blk_drewN ?_ _ | refine blk_drew ?_ | refine blk_alloc ?_ _)); refine blk_far ?_ NB151_158.out _; (with_reducible repeat (first | refine blk_drewN ?_ _ | refine blk_drew ?_ | refine blk_alloc ?_ _)); exact BK151.out⟩, ⟨by repeat (first | (with_reducible first | exact HB.out | apply below_alloc | apply pw_below_drewN | apply below_drew1 | refine below_set ?_ GE151.out | refine below_set ?_ GE158.out) | exact HB.out)⟩⟩
                              · rw [if_neg c22] at H
                                exact absurd H (by simp)
                            · rw [if_neg c21] at H
                              exact absurd H (by simp)
                          · rw [if_neg c20] at H
                            have c20b0 : decide (x39_3 < (y153.length : Int)) = false := decide_eq_false c20
                            clear c20
                            have H' := Aside0.mk H
                            clear H
                            go_wp2
                            go_roundg k3
                            case measure => have := HK1.out; have := HJ4.out; have := HK3.out; omega
                            case rel => exact ⟨(wrap64 (x9_1 + 1)), (by first | rfl | (simp; done) | (simp [*]; done)), H', ⟨by have := HK1.out; have := HJ4.out; have := HK3.out; omega⟩, ⟨by repeat (first | (with_reducible first | exact HB.out | apply below_alloc | apply pw_below_drewN | apply below_drew1 | refine below_set ?_ GE151.out) | exact HB.out)⟩⟩
                    · rw [if_neg c18] at H
                      exact absurd H (by simp)
                  · rw [if_neg c17] at H
                    exact absurd H (by simp)
          · rw [if_neg c4] at H
            exact absurd H (by simp)
        · rw [if_neg c3] at H
          exact absurd H (by simp)
      · rw [if_neg c2] at H
        have c2b0 : decide (x9_1 < (l0.length : Int)) = false := decide_eq_false c2
        clear c2
        obtain rfl := Option.some.inj H
        go_wp2
        go_ret
        exact ⟨by first | rfl | (simp [errW_none, errW_some] <;> rfl) | (simp [*, errW_none, errW_some] <;> rfl), by repeat (first | (with_reducible first | exact HB.out | apply below_alloc | apply pw_below_drewN | apply below_drew1) | exact HB.out)⟩

/-! ### impl_Call_71: function 71 -/
def impl_Call_71.f (l0 : List (S92)) (a1 : Int) : Option (Bool) := (impl_in.f a1 0 (wrap64 ((l0.length : Int) - 1))).bind fun t159 => (some t159)
set_option maxHeartbeats 8000000 in
set_option maxRecDepth 100000 in
theorem impl_Call_71.calls (A0 : Option Addr) (c0 : Nat) (l0 : List (S92)) (a1 : Int) (r : Bool) (w : World) (hr0 : Kd.C k92 w A0 l0.length l0) (hc0 : l0.length ≤ c0) (h : impl_Call_71.f l0 a1 = some r) :
    Calls Try.prog 71 #[.slice A0 l0.length c0, .int .i64 a1] w fun e w' => e = .returned (.bool r) ∧ Drawn0 w w' := by
  have HR0 := Aside0.mk hr0
  have HC0 := Aside0.mk hc0
  clear hr0 hc0
  have H : ((impl_in.f a1 0 (wrap64 ((l0.length : Int) - 1))).bind fun t159 => (some t159)) = some r := h
  clear h
  replace H := Option.bind_eq_some_iff.mp H
  obtain ⟨t159, A30, H⟩ := H
  replace H : (some t159) = some r := H
  have A3 := Aside0.mk A30
  clear A30
  obtain rfl := Option.some.inj H
  go_enter Try.func71, Try.ntmps71
  go_wp2_with (first | ((with_reducible refine gate_callee (f := 67) rfl ?_); refine goesL_ (some 9) rfl rfl Try.func67 (by kernel_rfl) rfl #[.int .i64 a1, .int .i64 0, .int .i64 (wrap64 ((l0.length : Int) - 1))] rfl (by (try simp only [List.map_toArray, List.map_cons, List.map_nil]); first | done | rfl | (simp only [List.length_drop, List.length_take]; rfl)) ?_; (with_reducible refine (impl_in.calls a1 0 (wrap64 ((l0.length : Int) - 1)) t159 _ A3.out).mono ?_); rintro e w' ⟨rfl, ⟨nd, rfl⟩⟩; refine ⟨_, rfl, ?_⟩))
  go_ret
  exact ⟨by first | rfl | (simp; done) | (simp [*]; done), by repeat (first | exact Drawn0.refl _ | apply Drawn0.step)⟩

/-! ### impl_Call_73: function 73 (by hand, over the library's own text) -/
def impl_Call_73.f (l0 : List S92) (a1 : Int) (a2 : Int) : Option (List S92) := if 0 ≤ a1 then (if a1 < a2 then (if a2 ≤ (l0.length : Int) then ((some (l0.take a1.toNat ++ l0.drop a2.toNat))) else none) else none) else none
def impl_Call_73.rho : Go.Shelf.Ren := ⟨fun q => if q = 45 then 73 else 0, fun q => if q = 22 then 25 else if q = 23 then 92 else q, fun q => q⟩
theorem impl_Call_73.laid : Go.Proofs.Yteaahcofgnghaaa.MDelS.Laid Try.prog impl_Call_73.rho 5 #[(.int .i64 0), (.int .i64 0), (.int .i64 0), (.bool false), (.float .f64 0)] where
  mixed := by kernel_rfl
  f45 := ⟨ "slices.Delete[[]loop.example/g00696/impl.Call,loop.example/g00696/impl.Call]", by kernel_rfl, by kernel_rfl⟩
  t0 := by kernel_rfl
  a0 := fun w => by kernel_rfl
  z0 := fun w => by kernel_rfl
  v0 := fun w => by kernel_rfl
  t3 := by kernel_rfl
  a3 := fun w => by kernel_rfl
  z3 := fun w => by kernel_rfl
  v3 := fun w => by kernel_rfl
  t4 := by kernel_rfl
  a4 := fun w => by kernel_rfl
  z4 := fun w => by kernel_rfl
  v4 := fun w => by kernel_rfl
  t22 := by kernel_rfl
  a22 := fun w => by kernel_rfl
  z22 := fun w => by kernel_rfl
  v22 := fun w => by kernel_rfl
  a23 := fun w => by kernel_rfl
  z23 := fun w => by kernel_rfl
  v23 := fun w => by kernel_rfl
  i23 := by kernel_rfl
  s23 := by kernel_rfl
  c23 := by kernel_rfl
theorem impl_Call_73.calls (P0_ : Nat → Prop) (u9000_ : Value) (l0 : List S92) (a1 : Int) (a2 : Int) (r : List S92) (w0 w : World) (hB : Below w0.heap.size w0 w) (ho0 : Kd.R k92 92 w w0.heap.size P0_ u9000_ l0) (h : impl_Call_73.f l0 a1 a2 = some r) :
    Calls Try.prog 73 #[u9000_, .int .i64 a1, .int .i64 a2] w fun e w' => ∃ v0_ : Value, e = .returned (v0_) ∧ Kd.R k92 92 w' w0.heap.size (fun k_ => (P0_ k_ ∨ w.heap.size ≤ k_)) v0_ r ∧ Below w0.heap.size w0 w' ∧ Kept w w' (fun k_ => P0_ k_) := by
  unfold impl_Call_73.f at h
  by_cases c0 : 0 ≤ a1
  · rw [if_pos c0] at h
    by_cases c1 : a1 < a2
    · rw [if_pos c1] at h
      by_cases c2 : a2 ≤ (l0.length : Int)
      · rw [if_pos c2] at h
        obtain rfl := Option.some.inj h
        exact Go.Proofs.Yteaahcofgnghaaa.MDelS.R_delete k92 impl_Call_73.laid (by decide) P0_ u9000_ l0 92 a1 a2 w0 w hB ho0 c0 c1 c2
      · rw [if_neg c2] at h; cases h
    · rw [if_neg c1] at h; cases h
  · rw [if_neg c0] at h; cases h

/-! ### impl_Call_74: function 74 -/
def impl_Call_74.f (l0 : List (S92)) : Option ((List (S92))) := (some (([] : List (S92)) : List (S92))).bind fun y160 => (if y160.length + l0.length < 3518437208883 then (some (y160 ++ l0)) else (none))
set_option maxHeartbeats 8000000 in
set_option maxRecDepth 100000 in
theorem impl_Call_74.calls_some (A0 : Addr) (c0 : Nat) (l0 : List (S92)) (r : List (S92)) (w : World) (hr0 : Kd.C k92 w (some A0) l0.length l0) (hc0 : l0.length ≤ c0) (h : impl_Call_74.f l0 = some r) :
    Calls Try.prog 74 #[.slice (some A0) l0.length c0] w fun e w' => ∃ v0_ : Value, e = .returned (v0_) ∧ Kd.R k92 92 w' w.heap.size (fun _ => True) v0_ r ∧ Below w.heap.size w w' := by
  have HR0 := Aside0.mk hr0
  have HC0 := Aside0.mk hc0
  clear hr0 hc0
  have HB := Aside0.mk (Below.refl w.heap.size w)
  have H : ((some (([] : List (S92)) : List (S92))).bind fun y160 => (if y160.length + l0.length < 3518437208883 then (some (y160 ++ l0)) else (none))) = some r := h
  clear h
  obtain ⟨y160, hy160⟩ : ∃ y_ : List (S92), y_ = (([] : List (S92))) := ⟨_, rfl⟩
  replace H : (if y160.length + l0.length < 3518437208883 then (some (y160 ++ l0)) else (none)) = some r := by first | (rw [hy160]; with_reducible exact H) | (have H2_ := (Option.bind_some _ _).symm.trans H; rw [hy160]; with_reducible exact H2_) | (have H2_ := (Option.bind_some _ _).symm.trans H; with_reducible exact H2_) | with_reducible exact H | (rw [hy160]; exact H) | exact H
  have Ny160 := Aside0.mk hy160
  clear hy160
  by_cases c2 : y160.length + l0.length < 3518437208883
  · rw [if_pos c2] at H
    have LMc2 := Aside0.mk c2
    clear c2
    obtain ⟨y163, hy163⟩ : ∃ y_ : List (S92), y_ = (y160 ++ l0) := ⟨_, rfl⟩
    replace H : (some y163) = some r := by first | (rw [hy163]; with_reducible exact H) | (have H2_ := (Option.bind_some _ _).symm.trans H; rw [hy163]; with_reducible exact H2_) | (have H2_ := (Option.bind_some _ _).symm.trans H; with_reducible exact H2_) | with_reducible exact H | (rw [hy163]; exact H) | exact H
    have Ny163 := Aside0.mk hy163
    clear hy163
    obtain rfl := Option.some.inj H
    have q_ : ∀ (w : World) (a : Option Addr) (n c n' c' : Nat), (binOp .eql 25 (.slice a n c) (.slice none n' c')).run Try.prog w = .ok (.bool a.isNone) w := fun w a n c n' c' => Lib.run_eql_slice_nil w _ _ a n c n' c' Try.underlying25
    go_enter Try.func74, Try.ntmps74
    go_wp2_with (first | ((with_reducible refine gate_dst (N := 5) rfl ?_); refine Kd.R_lit k92 _ 92 ?hg (N := 5) ?hd (xs := ([] : List (S92))) (inner := []) (ok := fun _ => True) (okp := fun _ => True) ?hr ?hp (fun _ hk => hk) trivial (Below.refl _ _) (Nat.le_refl _) (by simp) ?_; (case hd => rfl); (case hg => rfl); (case hr => first | (go_simp; done) | (go_simp; rfl)); (case hp => exact (Reps.none _ _)); intro v161 w3 ho4 hb hg_ hnew_; clear hg_ hnew_; (first | rw [← Ny160.out] at ho4 | (simp only [Int.reduceToNat] at ho4; rw [← Ny160.out] at ho4)); have n0_ := Aside0.mk (Kd.R_lower ho4 (below_size (by repeat (first | (with_reducible first | exact HB.out | apply below_alloc | apply pw_below_drewN | apply below_drew1) | exact HB.out)))); have n1_ := Aside0.mk (below_step (by repeat (first | (with_reducible first | exact HB.out | apply below_alloc | apply pw_below_drewN | apply below_drew1) | exact HB.out)) hb); clear HB; have HO162 := n0_; have HB := n1_; clear n0_ n1_; clear hb ho4) | ((with_reducible refine gate_builtin (b := .append) (xs := #[.tmp 5, .tmp 6]) rfl ?_); at_builtin; refine Kd.R_append_rows k92 (w0 := w) w.heap.size rfl (.tmp 5) (.tmp 6) 25 92 (.agg #[(.int .i64 0), (.int .i64 0), (.int .i64 0), (.bool false), (.float .f64 0)]) 40 rfl Try.underlying25 info92 rfl (by decide) (by omega) v161 y160 l0 _ _ _ (fun _ => True) (fun _ => False) rfl rfl ?aO ?aR (fun _ _ h => h) (fun _ h => h.elim) ?aF ?aB ?aS ?aL ?_; (case aR => repeat (first | exact (Kd.C_below HR0.out HB.out) | (with_reducible refine Kd.C_alloc ?_ _) | (with_reducible refine Kd.C_drewN ?_ _) | (with_reducible refine Kd.C_drew ?_))); (case aB => exact (by repeat (first | (with_reducible first | exact HB.out | apply below_alloc | apply pw_below_drewN | apply below_drew1) | exact HB.out))); (case aF => exact (fun _ _ => trivial)); (case aO => exact (by (with_reducible repeat (first | apply Kd.R_alloc | apply Kd.R_drewN | apply Kd.R_drew)); exact HO162.out)); (case aS => exact (below_size (by repeat (first | (with_reducible first | exact HB.out | apply below_alloc | apply pw_below_drewN | apply below_drew1) | exact HB.out)))); (case aL => have := LMc2.out; omega); intro v164 w5 ho hb hg hat; rw [← Ny163.out] at ho; have n0_ := Aside0.mk (hb); have n1_ := Aside0.mk (ho); clear HB; clear HO162; have HB := n0_; have HO165 := n1_; clear n0_ n1_; clear ho hb hg hat))
    go_ret
    exact ⟨_, by first | rfl | (simp [errW_none, errW_some] <;> rfl) | (simp [*, errW_none, errW_some] <;> rfl), by (with_reducible repeat (first | apply Kd.R_alloc | apply Kd.R_drewN | apply Kd.R_drew)); exact HO165.out, by repeat (first | (with_reducible first | exact HB.out | apply below_alloc | apply pw_below_drewN | apply below_drew1) | exact HB.out)⟩
  · rw [if_neg c2] at H
    exact absurd H (by simp)
theorem impl_Call_74.calls (A0 : Option Addr) (c0 : Nat) (l0 : List (S92)) (r : List (S92)) (w : World) (hr0 : Kd.C k92 w A0 l0.length l0) (hc0 : l0.length ≤ c0) (h : impl_Call_74.f l0 = some r) :
    Calls Try.prog 74 #[.slice A0 l0.length c0] w fun e w' => ∃ v0_ : Value, e = .returned (v0_) ∧ Kd.R k92 92 w' w.heap.size (fun _ => True) v0_ r ∧ Below w.heap.size w w' := by
  cases A0 with
  | some a => exact impl_Call_74.calls_some a c0 l0 r w hr0 hc0 h
  | none =>
    have hl : l0 = [] := by
      cases l0 with
      | nil => rfl
      | cons x xs => obtain ⟨a, ha, _⟩ := hr0.2.2 (by simp); cases ha
    subst hl
    have hr : r = [] := by
      have h2 : impl_Call_74.f [] = some [] := rfl
      rw [h2] at h
      exact (Option.some.inj h).symm
    subst hr
    clear h hr0 hc0
    have q_ : ∀ (w : World) (a : Option Addr) (n c n' c' : Nat), (binOp .eql 25 (.slice a n c) (.slice none n' c')).run Try.prog w = .ok (.bool a.isNone) w := fun w a n c n' c' => Lib.run_eql_slice_nil w _ _ a n c n' c' Try.underlying25
    go_enter Try.func74, Try.ntmps74
    go_wp2
    go_ret
    exact ⟨_, rfl, Kd.R_nil _ _ _ _ _, by repeat (first | exact Below.refl _ _ | apply below_alloc | apply pw_below_drewN | apply below_drew1)⟩

/-! ### impl_WithoutCall: function 23 -/
def impl_WithoutCall.j0 : Nat → List (S92) → Int → Bool → Option ((List (S92)) × Bool)
  | 0, _, _, _ => none
  | k + 1, x0, x1, x14 => if x14 = true then (some (([] : List (S92)), false)) else ((impl_Call_74.f x0).bind fun t168 => ((impl_Call_73.f t168 x1 (wrap64 (x1 + 1))).bind fun t171 => (some (t171, true))))
def impl_WithoutCall.f (k : Nat) (l0 : List (S92)) (a1 : Int) : Option ((List (S92)) × Bool) := (impl_GoodHistory.f k l0).bind fun t166 => (if t166 = true then ((impl_Call_71.f l0 a1).bind fun t167 => (impl_WithoutCall.j0 k l0 a1 (!t167))) else (impl_WithoutCall.j0 k l0 a1 true))
theorem impl_WithoutCall.mono_l : ∀ k, (∀ y0 y1 y2, LeO (impl_WithoutCall.j0 k y0 y1 y2) (impl_WithoutCall.j0 (k + 1) y0 y1 y2))
  | 0 => fun _ _ _ r h => by simp [impl_WithoutCall.j0] at h
  | k + 1 => by
    have ih0 := impl_WithoutCall.mono_l k
    · intro y0 y1 y2
      unfold impl_WithoutCall.j0
      repeat' first
      | (with_reducible exact ih0 _ _ _)
      | (with_reducible exact impl_GoodHistory.mono _ _)
      | (with_reducible exact LeO.refl _)
      | (with_reducible exact LeO.none _)
      | (with_reducible refine LeO.ite ?_ ?_)
      | (with_reducible refine LeO.bind ?_ (fun _ => ?_))
      | exact ih0 _ _ _
      | exact impl_GoodHistory.mono _ _
      | exact LeO.none _
      | refine LeO.ite ?_ ?_
      | refine LeO.bind ?_ (fun _ => ?_)
theorem impl_WithoutCall.mono : ∀ a0 a1 k, LeO (impl_WithoutCall.f k a0 a1) (impl_WithoutCall.f (k + 1) a0 a1) := by
  intro a0 a1 k
  have ih0 := impl_WithoutCall.mono_l k
  unfold impl_WithoutCall.f
  repeat' first
      | (with_reducible exact ih0 _ _ _)
      | (with_reducible exact impl_GoodHistory.mono _ _)
      | (with_reducible exact LeO.refl _)
      | (with_reducible exact LeO.none _)
      | (with_reducible refine LeO.ite ?_ ?_)
      | (with_reducible refine LeO.bind ?_ (fun _ => ?_))
      | exact ih0 _ _ _
      | exact impl_GoodHistory.mono _ _
      | exact LeO.none _
      | refine LeO.ite ?_ ?_
      | refine LeO.bind ?_ (fun _ => ?_)
set_option maxHeartbeats 8000000 in
set_option maxRecDepth 100000 in
theorem impl_WithoutCall.calls (k : Nat) (A0 : Option Addr) (c0 : Nat) (l0 : List (S92)) (a1 : Int) (r1 : List (S92)) (r2 : Bool) (w : World) (hr0 : Kd.C k92 w A0 l0.length l0) (hc0 : l0.length ≤ c0) (h : impl_WithoutCall.f k l0 a1 = some (r1, r2)) :
    Calls Try.prog 23 #[.slice A0 l0.length c0, .int .i64 a1] w fun e w' => ∃ v0_ : Value, e = .returned (.tuple #[v0_, .bool r2]) ∧ Kd.R k92 92 w' w.heap.size (fun _ => True) v0_ r1 ∧ Below w.heap.size w w' := by
  have HR0 := Aside0.mk hr0
  have HC0 := Aside0.mk hc0
  clear hr0 hc0
  have HB := Aside0.mk (Below.refl w.heap.size w)
  have H : ((impl_GoodHistory.f k l0).bind fun t166 => (if t166 = true then ((impl_Call_71.f l0 a1).bind fun t167 => (impl_WithoutCall.j0 k l0 a1 (!t167))) else (impl_WithoutCall.j0 k l0 a1 true))) = some (r1, r2) := h
  clear h
  have HC3 := Aside0.mk H
  clear H
  go_enter Try.func23, Try.ntmps23
  go_upto_region 1 with (fail)
  go_cut [14] (fun v14 wc => ∃ (kq : Nat) (x14_2 : Bool), v14 = .bool x14_2 ∧ Aside0 (impl_WithoutCall.j0 kq l0 a1 x14_2 = some (r1, r2)) ∧ Aside0 (kq ≤ k) ∧ Aside0 (Below w.heap.size w wc))
  case first =>
    have H := HC3.out
    clear HC3
    replace H := Option.bind_eq_some_iff.mp H
    obtain ⟨t166, A40, H⟩ := H
    replace H : (if t166 = true then ((impl_Call_71.f l0 a1).bind fun t167 => (impl_WithoutCall.j0 k l0 a1 (!t167))) else (impl_WithoutCall.j0 k l0 a1 true)) = some (r1, r2) := H
    have A4 := Aside0.mk A40
    clear A40
    by_cases c5 : t166 = true
    · subst c5
      have H1 : ((impl_Call_71.f l0 a1).bind fun t167 => (impl_WithoutCall.j0 k l0 a1 (!t167))) = some (r1, r2) := by rw [if_pos rfl] at H; exact H
      clear H
      have H := H1
      clear H1
      replace H := Option.bind_eq_some_iff.mp H
      obtain ⟨t167, A60, H⟩ := H
      replace H : (impl_WithoutCall.j0 k l0 a1 (!t167)) = some (r1, r2) := H
      have A6 := Aside0.mk A60
      clear A60
      have H' := Aside0.mk H
      clear H
      go_wp2_with (first | ((with_reducible refine gate_callee (f := 18) rfl ?_); refine goesL_ (some 7) rfl rfl Try.func18 (by kernel_rfl) rfl #[.slice A0 l0.length c0] rfl (by (try simp only [List.map_toArray, List.map_cons, List.map_nil]); first | done | rfl | (simp only [List.length_drop, List.length_take]; rfl)) ?_; (with_reducible refine (impl_GoodHistory.calls k _ _ l0 true _ ?side1 ?side2 A4.out).mono ?_); (case side1 => repeat (first | exact (Kd.C_below HR0.out HB.out) | (with_reducible refine Kd.C_alloc ?_ _) | (with_reducible refine Kd.C_drewN ?_ _) | (with_reducible refine Kd.C_drew ?_))); (case side2 => exact HC0.out); rintro e w7 ⟨rfl, hb⟩; refine ⟨_, rfl, ?_⟩; have n0_ := Aside0.mk (below_step (by repeat (first | (with_reducible first | exact HB.out | apply below_alloc | apply pw_below_drewN | apply below_drew1) | exact HB.out)) hb); clear HB; have HB := n0_; clear n0_; (try clear hb); (try clear hb2); (try clear hk); (try clear hi)) | (go_at_call 71; (with_reducible refine (impl_Call_71.calls _ _ l0 a1 t167 _ ?side1 ?side2 A6.out).mono ?_); (case side1 => repeat (first | exact (Kd.C_below HR0.out HB.out) | (with_reducible refine Kd.C_alloc ?_ _) | (with_reducible refine Kd.C_drewN ?_ _) | (with_reducible refine Kd.C_drew ?_))); (case side2 => exact HC0.out); rintro e w' ⟨rfl, ⟨nd, rfl⟩⟩))
      go_meet
      case rel => exact ⟨_, (!t167), (by first | rfl | (simp; done) | (simp [*]; done)), H', ⟨by first | omega | exact Nat.le_refl _⟩, ⟨by repeat (first | (with_reducible first | exact HB.out | apply below_alloc | apply pw_below_drewN | apply below_drew1) | exact HB.out)⟩⟩
    · replace c5 := Bool.eq_false_iff.mpr c5
      subst c5
      have H1 : (impl_WithoutCall.j0 k l0 a1 true) = some (r1, r2) := by rw [if_neg (show ¬ (false = true) by decide)] at H; exact H
      clear H
      have H := H1
      clear H1
      have H' := Aside0.mk H
      clear H
      go_wp2_with (first | ((with_reducible refine gate_callee (f := 18) rfl ?_); refine goesL_ (some 7) rfl rfl Try.func18 (by kernel_rfl) rfl #[.slice A0 l0.length c0] rfl (by (try simp only [List.map_toArray, List.map_cons, List.map_nil]); first | done | rfl | (simp only [List.length_drop, List.length_take]; rfl)) ?_; (with_reducible refine (impl_GoodHistory.calls k _ _ l0 false _ ?side1 ?side2 A4.out).mono ?_); (case side1 => repeat (first | exact (Kd.C_below HR0.out HB.out) | (with_reducible refine Kd.C_alloc ?_ _) | (with_reducible refine Kd.C_drewN ?_ _) | (with_reducible refine Kd.C_drew ?_))); (case side2 => exact HC0.out); rintro e w8 ⟨rfl, hb⟩; refine ⟨_, rfl, ?_⟩; have n0_ := Aside0.mk (below_step (by repeat (first | (with_reducible first | exact HB.out | apply below_alloc | apply pw_below_drewN | apply below_drew1) | exact HB.out)) hb); clear HB; have HB := n0_; clear n0_; (try clear hb); (try clear hb2); (try clear hk); (try clear hi)))
      go_meet
      case rel => exact ⟨_, (true), (by first | rfl | (simp; done) | (simp [*]; done)), H', ⟨by first | omega | exact Nat.le_refl _⟩, ⟨by repeat (first | (with_reducible first | exact HB.out | apply below_alloc | apply pw_below_drewN | apply below_drew1) | exact HB.out)⟩⟩
  case rest =>
    clear HC3
    try clear c1
    try clear c2
    try clear p2
    try clear c5
    obtain ⟨kq, x14_2, rfl, HA, HJ2, HB⟩ := hcut
    cases kq with
    | zero => exact absurd HA.out (by simp [impl_WithoutCall.j0])
    | succ kj2 =>
      have H := HA.out
      clear HA
      simp only [impl_WithoutCall.j0] at H
      by_cases c9 : x14_2 = true
      · subst c9
        have H1 : (some (([] : List (S92)), false)) = some (r1, r2) := by rw [if_pos rfl] at H; exact H
        clear H
        have H := H1
        clear H1
        simp only [Option.some.injEq, Prod.mk.injEq] at H
        obtain ⟨rfl, rfl⟩ := H
        go_wp2
        go_ret2
        exact ⟨_, by first | rfl | (simp [errW_none, errW_some] <;> rfl) | (simp [*, errW_none, errW_some] <;> rfl), by first | exact Kd.R_nil _ _ _ _ _ | exact Kd.N_nil _ _ _ _ _ | exact Kd.V_nil _ _ _ _ _ | exact Kd.Q_nil _ _ _ _ _ | exact Kd.S_nil _ _ _ _ _, by repeat (first | (with_reducible first | exact HB.out | apply below_alloc | apply pw_below_drewN | apply below_drew1) | exact HB.out)⟩
      · replace c9 := Bool.eq_false_iff.mpr c9
        subst c9
        have H1 : ((impl_Call_74.f l0).bind fun t168 => ((impl_Call_73.f t168 a1 (wrap64 (a1 + 1))).bind fun t171 => (some (t171, true)))) = some (r1, r2) := by rw [if_neg (show ¬ (false = true) by decide)] at H; exact H
        clear H
        have H := H1
        clear H1
        replace H := Option.bind_eq_some_iff.mp H
        obtain ⟨t168, A100, H⟩ := H
        replace H : ((impl_Call_73.f t168 a1 (wrap64 (a1 + 1))).bind fun t171 => (some (t171, true))) = some (r1, r2) := H
        have A10 := Aside0.mk A100
        clear A100
        replace H := Option.bind_eq_some_iff.mp H
        obtain ⟨t171, A110, H⟩ := H
        replace H : (some (t171, true)) = some (r1, r2) := H
        have A11 := Aside0.mk A110
        clear A110
        simp only [Option.some.injEq, Prod.mk.injEq] at H
        obtain ⟨rfl, rfl⟩ := H
        go_wp2_with (first | ((with_reducible refine gate_callee (f := 74) rfl ?_); refine goesL_ (some 16) rfl rfl Try.func74 (by kernel_rfl) rfl #[.slice A0 l0.length c0] rfl (by (try simp only [List.map_toArray, List.map_cons, List.map_nil]); first | done | rfl | (simp only [List.length_drop, List.length_take]; rfl)) ?_; (with_reducible refine (impl_Call_74.calls _ _ l0 t168 _ ?side1 ?side2 A10.out).mono ?_); (case side1 => repeat (first | exact (Kd.C_below HR0.out HB.out) | (with_reducible refine Kd.C_alloc ?_ _) | (with_reducible refine Kd.C_drewN ?_ _) | (with_reducible refine Kd.C_drew ?_))); (case side2 => exact HC0.out); rintro e w12 ⟨v169, rfl, ho0, hb⟩; refine ⟨_, rfl, ?_⟩; have n0_ := Aside0.mk (Kd.R_lower ho0 (below_size (by repeat (first | (with_reducible first | exact HB.out | apply below_alloc | apply pw_below_drewN | apply below_drew1) | exact HB.out)))); have n1_ := Aside0.mk (below_step (by repeat (first | (with_reducible first | exact HB.out | apply below_alloc | apply pw_below_drewN | apply below_drew1) | exact HB.out)) hb); clear HB; have HO170 := n0_; have HB := n1_; clear n0_ n1_; (try clear hb); (try clear hb2); (try clear hk); (try clear hi); (try clear ho0); obtain ⟨Ao13, co13, eo13⟩ := Kd.R_slice HO170.out; subst eo13) | ((with_reducible refine gate_callee (f := 73) rfl ?_); refine goesL_ (some 20) rfl rfl Try.func73 (by kernel_rfl) rfl #[.slice Ao13 t168.length co13, .int .i64 a1, .int .i64 (wrap64 (a1 + 1))] rfl (by (try simp only [List.map_toArray, List.map_cons, List.map_nil]); first | done | rfl | (simp only [List.length_drop, List.length_take]; rfl)) ?_; (with_reducible refine (impl_Call_73.calls (fun k_ => some k_ = (.slice Ao13 t168.length co13 : Value).ownBlock) (.slice Ao13 t168.length co13) t168 a1 (wrap64 (a1 + 1)) t171 w _ ?side1 ?side2 A11.out).mono ?_); (case side1 => repeat (first | (with_reducible first | exact HB.out | apply below_alloc | apply pw_below_drewN | apply below_drew1) | exact HB.out)); (case side2 => exact Kd.R_tight rfl HO170.out); rintro e w14 ⟨v172, rfl, ho0, hb, hkp⟩; refine ⟨_, rfl, ?_⟩; have n0_ := Aside0.mk (Kd.R_mono (ok' := fun k_ => True) ho0 (fun k_ hk_ => trivial)); have n1_ := Aside0.mk (hb); clear HB; clear HO170; have HO173 := n0_; have HB := n1_; clear n0_ n1_; (try clear hb); (try clear hkp); (try clear ho0)))
        go_ret2
        exact ⟨_, by first | rfl | (simp [errW_none, errW_some] <;> rfl) | (simp [*, errW_none, errW_some] <;> rfl), by (with_reducible repeat (first | apply Kd.R_alloc | apply Kd.R_drewN | apply Kd.R_drew)); exact HO173.out, by repeat (first | (with_reducible first | exact HB.out | apply below_alloc | apply pw_below_drewN | apply below_drew1) | exact HB.out)⟩

end Go.Proofs.Yteaahcofgnghaaa.GWithoutCall

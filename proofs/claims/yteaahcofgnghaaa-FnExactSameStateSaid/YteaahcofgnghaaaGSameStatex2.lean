-- Printed by wip/tools/print2.py out of the translation: walks and plain functions; Lean checks them.
import Derived.Test.YteaahcofgnghaaaGSameStatex0
import Derived.Test.YteaahcofgnghaaaGSameStatex1
namespace Go.Proofs.Yteaahcofgnghaaa.GSameState
open Go.RowKit Go.Proofs.YteaahcofgnghaaaW.PrintWords Go.Proofs.YteaahcofgnghaaaW.PrintLast Go.Proofs.YteaahcofgnghaaaW.PrintMore
attribute [local go_sem] max2_int min2_int max_two min_two max_three min_three max_four min_four   -- for this text's walks alone
set_option linter.unusedVariables false
set_option linter.unusedSimpArgs false

/-! ### spec_SameState: function 55 -/
mutual
def spec_SameState.j0 : Nat → Bool → List (S135) → List Nat → List Int → Int → List (S135) → List Nat → List Int → Int → Option (Bool)
  | 0, _, _, _, _, _, _, _, _, _ => none
  | k + 1, x37, x121000, x121001, x121002, x121003, x122000, x122001, x122002, x122003 => if x37 = true then (some false) else (spec_SameState.l0 k x121000 (x121000.length : Int) 0 x122000 x122001 x122002 x122003)
def spec_SameState.l0 : Nat → List (S135) → Int → Int → List (S135) → List Nat → List Int → Int → Option (Bool)
  | 0, _, _, _, _, _, _, _ => none
  | k + 1, x39, x40, x41, x122000, x122001, x122002, x122003 => if x41 < x40 then (if 0 ≤ x41 then (if x41 < (x39.length : Int) then (if x41 < (x122000.length : Int) then (if ((rd_T135 x39 x41).f0) = ((rd_T135 x122000 x41).f0) then (if ((rd_T135 x39 x41).f1) = ((rd_T135 x122000 x41).f1) then (if ((rd_T135 x39 x41).f2) = ((rd_T135 x122000 x41).f2) then (if ((rd_T135 x39 x41).f3) = ((rd_T135 x122000 x41).f3) then (if ((rd_T135 x39 x41).f4) = ((rd_T135 x122000 x41).f4) then ((spec_l3SameNums.f k ((rd_T135 x39 x41).f5) ((rd_T135 x122000 x41).f5)).bind fun t128 => (if t128 = true then (spec_SameState.l0 k x39 x40 (wrap64 (x41 + 1)) x122000 x122001 x122002 x122003) else (some false))) else (some false)) else (some false)) else (some false)) else (some false)) else (some false)) else (none)) else (none)) else (none)) else (some true)
end
def spec_SameState.f (k : Nat) (l0_0 : List (S135)) (l0_1 : List Nat) (l0_2 : List Int) (a0_3 : Int) (l1_0 : List (S135)) (l1_1 : List Nat) (l1_2 : List Int) (a1_3 : Int) : Option (Bool) := if (l0_0.length : Int) = (l1_0.length : Int) then ((spec_l3SameNums.f k l0_1 l1_1).bind fun t122 => (if t122 = true then ((spec_l1Same.f k l0_2 l1_2).bind fun t123 => (if t123 = true then (spec_SameState.j0 k (a0_3 != a1_3) l0_0 l0_1 l0_2 a0_3 l1_0 l1_1 l1_2 a1_3) else (spec_SameState.j0 k true l0_0 l0_1 l0_2 a0_3 l1_0 l1_1 l1_2 a1_3))) else (spec_SameState.j0 k true l0_0 l0_1 l0_2 a0_3 l1_0 l1_1 l1_2 a1_3))) else (spec_SameState.j0 k true l0_0 l0_1 l0_2 a0_3 l1_0 l1_1 l1_2 a1_3)
theorem spec_SameState.mono_l : ∀ k, (∀ y0 y1 y2 y3 y4 y5 y6 y7 y8, LeO (spec_SameState.j0 k y0 y1 y2 y3 y4 y5 y6 y7 y8) (spec_SameState.j0 (k + 1) y0 y1 y2 y3 y4 y5 y6 y7 y8)) ∧ (∀ y0 y1 y2 y3 y4 y5 y6, LeO (spec_SameState.l0 k y0 y1 y2 y3 y4 y5 y6) (spec_SameState.l0 (k + 1) y0 y1 y2 y3 y4 y5 y6))
  | 0 => ⟨fun _ _ _ _ _ _ _ _ _ r h => by simp [spec_SameState.j0] at h, fun _ _ _ _ _ _ _ r h => by simp [spec_SameState.l0] at h⟩
  | k + 1 => by
    obtain ⟨ih0, ih1⟩ := spec_SameState.mono_l k
    refine ⟨?_, ?_⟩
    · intro y0 y1 y2 y3 y4 y5 y6 y7 y8
      unfold spec_SameState.j0
      repeat' first
      | (with_reducible exact ih0 _ _ _ _ _ _ _ _ _)
      | (with_reducible exact ih1 _ _ _ _ _ _ _)
      | (with_reducible exact spec_l1Same.mono _ _ _)
      | (with_reducible exact spec_l3SameNums.mono _ _ _)
      | (with_reducible exact LeO.refl _)
      | (with_reducible exact LeO.none _)
      | (with_reducible refine LeO.ite ?_ ?_)
      | (with_reducible refine LeO.bind ?_ (fun _ => ?_))
      | exact ih0 _ _ _ _ _ _ _ _ _
      | exact ih1 _ _ _ _ _ _ _
      | exact spec_l1Same.mono _ _ _
      | exact spec_l3SameNums.mono _ _ _
      | exact LeO.none _
      | refine LeO.ite ?_ ?_
      | refine LeO.bind ?_ (fun _ => ?_)
    · intro y0 y1 y2 y3 y4 y5 y6
      unfold spec_SameState.l0
      repeat' first
      | (with_reducible exact ih0 _ _ _ _ _ _ _ _ _)
      | (with_reducible exact ih1 _ _ _ _ _ _ _)
      | (with_reducible exact spec_l1Same.mono _ _ _)
      | (with_reducible exact spec_l3SameNums.mono _ _ _)
      | (with_reducible exact LeO.refl _)
      | (with_reducible exact LeO.none _)
      | (with_reducible refine LeO.ite ?_ ?_)
      | (with_reducible refine LeO.bind ?_ (fun _ => ?_))
      | exact ih0 _ _ _ _ _ _ _ _ _
      | exact ih1 _ _ _ _ _ _ _
      | exact spec_l1Same.mono _ _ _
      | exact spec_l3SameNums.mono _ _ _
      | exact LeO.none _
      | refine LeO.ite ?_ ?_
      | refine LeO.bind ?_ (fun _ => ?_)
theorem spec_SameState.mono : ∀ a0 a1 a2 a3 a4 a5 a6 a7 k, LeO (spec_SameState.f k a0 a1 a2 a3 a4 a5 a6 a7) (spec_SameState.f (k + 1) a0 a1 a2 a3 a4 a5 a6 a7) := by
  intro a0 a1 a2 a3 a4 a5 a6 a7 k
  obtain ⟨ih0, ih1⟩ := spec_SameState.mono_l k
  unfold spec_SameState.f
  repeat' first
      | (with_reducible exact ih0 _ _ _ _ _ _ _ _ _)
      | (with_reducible exact ih1 _ _ _ _ _ _ _)
      | (with_reducible exact spec_l1Same.mono _ _ _)
      | (with_reducible exact spec_l3SameNums.mono _ _ _)
      | (with_reducible exact LeO.refl _)
      | (with_reducible exact LeO.none _)
      | (with_reducible refine LeO.ite ?_ ?_)
      | (with_reducible refine LeO.bind ?_ (fun _ => ?_))
      | exact ih0 _ _ _ _ _ _ _ _ _
      | exact ih1 _ _ _ _ _ _ _
      | exact spec_l1Same.mono _ _ _
      | exact spec_l3SameNums.mono _ _ _
      | exact LeO.none _
      | refine LeO.ite ?_ ?_
      | refine LeO.bind ?_ (fun _ => ?_)
set_option maxHeartbeats 8000000 in
set_option maxRecDepth 100000 in
theorem spec_SameState.calls (k : Nat) (A0_0 : Option Addr) (c0_0 : Nat) (l0_0 : List (S135)) (A0_1 : Option Addr) (c0_1 : Nat) (l0_1 : List Nat) (A0_2 : Option Addr) (c0_2 : Nat) (l0_2 : List Int) (a0_3 : Int) (A1_0 : Option Addr) (c1_0 : Nat) (l1_0 : List (S135)) (A1_1 : Option Addr) (c1_1 : Nat) (l1_1 : List Nat) (A1_2 : Option Addr) (c1_2 : Nat) (l1_2 : List Int) (a1_3 : Int) (r : Bool) (w : World) (hr0_0 : Kd.C k135 w A0_0 l0_0.length l0_0) (hc0_0 : l0_0.length ≤ c0_0) (hr0_1 : Kd.C Kd.float w A0_1 l0_1.length l0_1) (hc0_1 : l0_1.length ≤ c0_1) (hr0_2 : Kd.C (Kd.int .i64) w A0_2 l0_2.length l0_2) (hc0_2 : l0_2.length ≤ c0_2) (hr1_0 : Kd.C k135 w A1_0 l1_0.length l1_0) (hc1_0 : l1_0.length ≤ c1_0) (hr1_1 : Kd.C Kd.float w A1_1 l1_1.length l1_1) (hc1_1 : l1_1.length ≤ c1_1) (hr1_2 : Kd.C (Kd.int .i64) w A1_2 l1_2.length l1_2) (hc1_2 : l1_2.length ≤ c1_2) (h : spec_SameState.f k l0_0 l0_1 l0_2 a0_3 l1_0 l1_1 l1_2 a1_3 = some r) :
    Calls Try.prog 55 #[.agg #[.slice A0_0 l0_0.length c0_0, .slice A0_1 l0_1.length c0_1, .slice A0_2 l0_2.length c0_2, .int .i64 a0_3], .agg #[.slice A1_0 l1_0.length c1_0, .slice A1_1 l1_1.length c1_1, .slice A1_2 l1_2.length c1_2, .int .i64 a1_3]] w fun e w' => e = .returned (.bool r) ∧ Below w.heap.size w w' := by
  have hu75 := Try.underlying75
  have hu135 := Try.underlying135
  have HR0_0 := Aside0.mk hr0_0
  have HC0_0 := Aside0.mk hc0_0
  clear hr0_0 hc0_0
  have HR0_1 := Aside0.mk hr0_1
  have HC0_1 := Aside0.mk hc0_1
  clear hr0_1 hc0_1
  have HR0_2 := Aside0.mk hr0_2
  have HC0_2 := Aside0.mk hc0_2
  clear hr0_2 hc0_2
  have HR1_0 := Aside0.mk hr1_0
  have HC1_0 := Aside0.mk hc1_0
  clear hr1_0 hc1_0
  have HR1_1 := Aside0.mk hr1_1
  have HC1_1 := Aside0.mk hc1_1
  clear hr1_1 hc1_1
  have HR1_2 := Aside0.mk hr1_2
  have HC1_2 := Aside0.mk hc1_2
  clear hr1_2 hc1_2
  have HB := Aside0.mk (Below.refl w.heap.size w)
  have H : (if (l0_0.length : Int) = (l1_0.length : Int) then ((spec_l3SameNums.f k l0_1 l1_1).bind fun t122 => (if t122 = true then ((spec_l1Same.f k l0_2 l1_2).bind fun t123 => (if t123 = true then (spec_SameState.j0 k (a0_3 != a1_3) l0_0 l0_1 l0_2 a0_3 l1_0 l1_1 l1_2 a1_3) else (spec_SameState.j0 k true l0_0 l0_1 l0_2 a0_3 l1_0 l1_1 l1_2 a1_3))) else (spec_SameState.j0 k true l0_0 l0_1 l0_2 a0_3 l1_0 l1_1 l1_2 a1_3))) else (spec_SameState.j0 k true l0_0 l0_1 l0_2 a0_3 l1_0 l1_1 l1_2 a1_3)) = some r := h
  clear h
  have HC3 := Aside0.mk H
  clear H
  go_enter Try.func55, Try.ntmps55
  go_upto_region 1 with (first | ((with_reducible refine gate_dst (N := 2) rfl ?_); refine box_event ?hg (N := 2) ?hd (cs := #[.slice A0_0 l0_0.length c0_0, .slice A0_1 l0_1.length c0_1, .slice A0_2 l0_2.length c0_2, .int .i64 a0_3]) (t := 75) ?hr ?_; (case hd => rfl); (case hg => rfl); (case hr => first | (go_simp; done) | (go_simp; rfl)); intro gb120 hg w4 hbox hb; have n0_ := Aside0.mk (below_step (by repeat (first | (with_reducible first|exact HB.out|apply vA_|apply vN_|apply vD_) | exact HB.out)) hb); have n1_ := Aside0.mk (hbox); have n2_ := Aside0.mk ((by rw [hg]; exact (below_size (by repeat (first | (with_reducible first|exact HB.out|apply vA_|apply vN_|apply vD_) | exact HB.out))) : w.heap.size ≤ gb120)); have n3_ := Aside0.mk ((by rw [hg]; exact (below_size (by repeat (first | (with_reducible first|exact HB.out|apply vA_|apply vN_|apply vD_) | exact HB.out))) : w.heap.size ≤ gb120)); clear HB; have HB := n0_; have BK120 := n1_; have GW120 := n2_; have GE120 := n3_; clear n0_ n1_ n2_ n3_; clear hb hbox hg) | ((with_reducible refine gate_dst (N := 3) rfl ?_); refine box_event ?hg (N := 3) ?hd (cs := #[.slice A1_0 l1_0.length c1_0, .slice A1_1 l1_1.length c1_1, .slice A1_2 l1_2.length c1_2, .int .i64 a1_3]) (t := 75) ?hr ?_; (case hd => rfl); (case hg => rfl); (case hr => first | (go_simp; done) | (go_simp; rfl)); intro gb121 hg w5 hbox hb; have n0_ := Aside0.mk (blk_below (by (with_reducible repeat first|apply qN_|apply qD_|apply qA_); exact BK120.out) hb); have n1_ := Aside0.mk (below_step (by repeat (first | (with_reducible first|exact HB.out|apply vA_|apply vN_|apply vD_ | refine vS_ ?_ GE120.out) | exact HB.out)) hb); have n2_ := Aside0.mk (hbox); have n3_ := Aside0.mk ((by rw [hg]; exact (below_size (by repeat (first | (with_reducible first|exact HB.out|apply vA_|apply vN_|apply vD_ | refine vS_ ?_ GE120.out) | exact HB.out))) : w.heap.size ≤ gb121)); have n4_ := Aside0.mk ((by rw [hg]; exact (below_size (by repeat (first | (with_reducible first|exact HB.out|apply vA_|apply vN_|apply vD_ | refine vS_ ?_ GE120.out) | exact HB.out))) : w.heap.size ≤ gb121)); have n5_ := Aside0.mk ((by rw [hg]; exact Nat.ne_of_lt (blk_lt (g := gb120) (o := .cells #[.slice A0_0 l0_0.length c0_0, .slice A0_1 l0_1.length c0_1, .slice A0_2 l0_2.length c0_2, .int .i64 a0_3] 75 (0, 0)) (by (with_reducible repeat first|apply qN_|apply qD_|apply qA_); exact BK120.out)) : gb120 ≠ gb121)); have n6_ := Aside0.mk ((by rw [hg]; exact Nat.ne_of_gt (blk_lt (g := gb120) (o := .cells #[.slice A0_0 l0_0.length c0_0, .slice A0_1 l0_1.length c0_1, .slice A0_2 l0_2.length c0_2, .int .i64 a0_3] 75 (0, 0)) (by (with_reducible repeat first|apply qN_|apply qD_|apply qA_); exact BK120.out)) : gb121 ≠ gb120)); clear BK120; clear HB; have BK120 := n0_; have HB := n1_; have BK121 := n2_; have GW121 := n3_; have GE121 := n4_; have NB120_121 := n5_; have NB121_120 := n6_; clear n0_ n1_ n2_ n3_ n4_ n5_ n6_; clear hb hbox hg))
  (try simp only [Act.put, List.setIfInBounds_toArray, List.set_cons_zero, List.set_cons_succ])
  go_cut [37] (fun v37 wc => ∃ (kq : Nat) (x37_2 : Bool), v37 = .bool x37_2 ∧ Aside0 (spec_SameState.j0 kq x37_2 l0_0 l0_1 l0_2 a0_3 l1_0 l1_1 l1_2 a1_3 = some r) ∧ Aside0 (kq ≤ k) ∧ Aside0 (wc.heap[gb120]? = some (.cells #[(.slice A0_0 l0_0.length c0_0), (.slice A0_1 l0_1.length c0_1), (.slice A0_2 l0_2.length c0_2), .int .i64 a0_3] 75 (0, 0))) ∧ Aside0 (wc.heap[gb121]? = some (.cells #[(.slice A1_0 l1_0.length c1_0), (.slice A1_1 l1_1.length c1_1), (.slice A1_2 l1_2.length c1_2), .int .i64 a1_3] 75 (0, 0))) ∧ Aside0 (Below w.heap.size w wc))
  case first =>
    have H := HC3.out
    clear HC3
    by_cases c6 : (l0_0.length : Int) = (l1_0.length : Int)
    · rw [if_pos c6] at H
      have c6b0 : ((l0_0.length : Int) == (l1_0.length : Int)) = true := beq_iff_eq.mpr c6
      have c6b1 : ((l0_0.length : Int) != (l1_0.length : Int)) = false := bne_eq_false_iff_eq.mpr c6
      have c6b2 : (l0_0.length == l1_0.length) = true := by first | simpa using c6 | (simp at c6 ⊢; omega)
      clear c6
      (first | rw [c6b0] | (simp only [i64_w, i32_w]; rw [c6b0]) | skip)
      replace H := Option.bind_eq_some_iff.mp H
      obtain ⟨t122, A70, H⟩ := H
      replace H : (if t122 = true then ((spec_l1Same.f k l0_2 l1_2).bind fun t123 => (if t123 = true then (spec_SameState.j0 k (a0_3 != a1_3) l0_0 l0_1 l0_2 a0_3 l1_0 l1_1 l1_2 a1_3) else (spec_SameState.j0 k true l0_0 l0_1 l0_2 a0_3 l1_0 l1_1 l1_2 a1_3))) else (spec_SameState.j0 k true l0_0 l0_1 l0_2 a0_3 l1_0 l1_1 l1_2 a1_3)) = some r := H
      have A7 := Aside0.mk A70
      clear A70
      by_cases c8 : t122 = true
      · subst c8
        have H1 : ((spec_l1Same.f k l0_2 l1_2).bind fun t123 => (if t123 = true then (spec_SameState.j0 k (a0_3 != a1_3) l0_0 l0_1 l0_2 a0_3 l1_0 l1_1 l1_2 a1_3) else (spec_SameState.j0 k true l0_0 l0_1 l0_2 a0_3 l1_0 l1_1 l1_2 a1_3))) = some r := by rw [if_pos rfl] at H; exact H
        clear H
        have H := H1
        clear H1
        replace H := Option.bind_eq_some_iff.mp H
        obtain ⟨t123, A90, H⟩ := H
        replace H : (if t123 = true then (spec_SameState.j0 k (a0_3 != a1_3) l0_0 l0_1 l0_2 a0_3 l1_0 l1_1 l1_2 a1_3) else (spec_SameState.j0 k true l0_0 l0_1 l0_2 a0_3 l1_0 l1_1 l1_2 a1_3)) = some r := H
        have A9 := Aside0.mk A90
        clear A90
        by_cases c10 : t123 = true
        · subst c10
          have H1 : (spec_SameState.j0 k (a0_3 != a1_3) l0_0 l0_1 l0_2 a0_3 l1_0 l1_1 l1_2 a1_3) = some r := by rw [if_pos rfl] at H; exact H
          clear H
          have H := H1
          clear H1
          have H' := Aside0.mk H
          clear H
          have hnb11 := NB120_121.out
          have hnc11 := NB121_120.out
          have hcz12_0 : w5.cell? ⟨gb120, 0, none⟩ = some (.slice A0_0 l0_0.length c0_0) := (blk_cell BK120.out 0).trans rfl
          have hcz12_1 : w5.cell? ⟨gb120, 1, none⟩ = some (.slice A0_1 l0_1.length c0_1) := (blk_cell BK120.out 1).trans rfl
          have hcz12_2 : w5.cell? ⟨gb120, 2, none⟩ = some (.slice A0_2 l0_2.length c0_2) := (blk_cell BK120.out 2).trans rfl
          have hcz12_3 : w5.cell? ⟨gb120, 3, none⟩ = some (.int .i64 a0_3) := (blk_cell BK120.out 3).trans rfl
          have hfz12_0 := blk_frozen BK120.out 0
          have hfz12_1 := blk_frozen BK120.out 1
          have hfz12_2 := blk_frozen BK120.out 2
          have hfz12_3 := blk_frozen BK120.out 3
          have hcz13_0 : w5.cell? ⟨gb121, 0, none⟩ = some (.slice A1_0 l1_0.length c1_0) := (blk_cell BK121.out 0).trans rfl
          have hcz13_1 : w5.cell? ⟨gb121, 1, none⟩ = some (.slice A1_1 l1_1.length c1_1) := (blk_cell BK121.out 1).trans rfl
          have hcz13_2 : w5.cell? ⟨gb121, 2, none⟩ = some (.slice A1_2 l1_2.length c1_2) := (blk_cell BK121.out 2).trans rfl
          have hcz13_3 : w5.cell? ⟨gb121, 3, none⟩ = some (.int .i64 a1_3) := (blk_cell BK121.out 3).trans rfl
          have hfz13_0 := blk_frozen BK121.out 0
          have hfz13_1 := blk_frozen BK121.out 1
          have hfz13_2 := blk_frozen BK121.out 2
          have hfz13_3 := blk_frozen BK121.out 3
          go_wp2_with (first | (go_at_call 105; (with_reducible refine (spec_l3SameNums.calls k _ _ l0_1 _ _ l1_1 true _ ?side1 ?side2 ?side3 ?side4 A7.out).mono ?_); (case side1 => repeat (first | exact (Kd.C_below HR0_1.out HB.out) | with_reducible apply cA_|with_reducible apply cN_|with_reducible apply cD_)); (case side2 => exact HC0_1.out); (case side3 => repeat (first | exact (Kd.C_below HR1_1.out HB.out) | with_reducible apply cA_|with_reducible apply cN_|with_reducible apply cD_)); (case side4 => exact HC1_1.out); rintro e w' ⟨rfl, ⟨nd, rfl⟩⟩) | (go_at_call 106; (with_reducible refine (spec_l1Same.calls k _ _ l0_2 _ _ l1_2 true _ ?side1 ?side2 ?side3 ?side4 A9.out).mono ?_); (case side1 => repeat (first | exact (Kd.C_below HR0_2.out (by repeat (first | (with_reducible first|exact HB.out|apply vA_|apply vN_|apply vD_ | refine vS_ ?_ GE120.out | refine vS_ ?_ GE121.out) | exact HB.out))) | with_reducible apply cA_|with_reducible apply cN_|with_reducible apply cD_)); (case side2 => exact HC0_2.out); (case side3 => repeat (first | exact (Kd.C_below HR1_2.out (by repeat (first | (with_reducible first|exact HB.out|apply vA_|apply vN_|apply vD_ | refine vS_ ?_ GE120.out | refine vS_ ?_ GE121.out) | exact HB.out))) | with_reducible apply cA_|with_reducible apply cN_|with_reducible apply cD_)); (case side4 => exact HC1_2.out); rintro e w' ⟨rfl, ⟨nd, rfl⟩⟩))
          go_meet
          case rel => exact ⟨_, ((a0_3 != a1_3)), (by first | rfl | (simp; done) | (simp [*]; done)), H', ⟨by first | omega | exact Nat.le_refl _⟩, ⟨by (with_reducible repeat first|apply qN_|apply qD_|apply qA_); exact BK120.out⟩, ⟨by (with_reducible repeat first|apply qN_|apply qD_|apply qA_); exact BK121.out⟩, ⟨by repeat (first | (with_reducible first|exact HB.out|apply vA_|apply vN_|apply vD_ | refine vS_ ?_ GE120.out | refine vS_ ?_ GE121.out) | exact HB.out)⟩⟩
        · replace c10 := Bool.eq_false_iff.mpr c10
          subst c10
          have H1 : (spec_SameState.j0 k true l0_0 l0_1 l0_2 a0_3 l1_0 l1_1 l1_2 a1_3) = some r := by rw [if_neg (show ¬ (false = true) by decide)] at H; exact H
          clear H
          have H := H1
          clear H1
          have H' := Aside0.mk H
          clear H
          have hnb14 := NB120_121.out
          have hnc14 := NB121_120.out
          have hcz15_0 : w5.cell? ⟨gb120, 0, none⟩ = some (.slice A0_0 l0_0.length c0_0) := (blk_cell BK120.out 0).trans rfl
          have hcz15_1 : w5.cell? ⟨gb120, 1, none⟩ = some (.slice A0_1 l0_1.length c0_1) := (blk_cell BK120.out 1).trans rfl
          have hcz15_2 : w5.cell? ⟨gb120, 2, none⟩ = some (.slice A0_2 l0_2.length c0_2) := (blk_cell BK120.out 2).trans rfl
          have hcz15_3 : w5.cell? ⟨gb120, 3, none⟩ = some (.int .i64 a0_3) := (blk_cell BK120.out 3).trans rfl
          have hfz15_0 := blk_frozen BK120.out 0
          have hfz15_1 := blk_frozen BK120.out 1
          have hfz15_2 := blk_frozen BK120.out 2
          have hfz15_3 := blk_frozen BK120.out 3
          have hcz16_0 : w5.cell? ⟨gb121, 0, none⟩ = some (.slice A1_0 l1_0.length c1_0) := (blk_cell BK121.out 0).trans rfl
          have hcz16_1 : w5.cell? ⟨gb121, 1, none⟩ = some (.slice A1_1 l1_1.length c1_1) := (blk_cell BK121.out 1).trans rfl
          have hcz16_2 : w5.cell? ⟨gb121, 2, none⟩ = some (.slice A1_2 l1_2.length c1_2) := (blk_cell BK121.out 2).trans rfl
          have hcz16_3 : w5.cell? ⟨gb121, 3, none⟩ = some (.int .i64 a1_3) := (blk_cell BK121.out 3).trans rfl
          have hfz16_0 := blk_frozen BK121.out 0
          have hfz16_1 := blk_frozen BK121.out 1
          have hfz16_2 := blk_frozen BK121.out 2
          have hfz16_3 := blk_frozen BK121.out 3
          go_wp2_with (first | (go_at_call 105; (with_reducible refine (spec_l3SameNums.calls k _ _ l0_1 _ _ l1_1 true _ ?side1 ?side2 ?side3 ?side4 A7.out).mono ?_); (case side1 => repeat (first | exact (Kd.C_below HR0_1.out HB.out) | with_reducible apply cA_|with_reducible apply cN_|with_reducible apply cD_)); (case side2 => exact HC0_1.out); (case side3 => repeat (first | exact (Kd.C_below HR1_1.out HB.out) | with_reducible apply cA_|with_reducible apply cN_|with_reducible apply cD_)); (case side4 => exact HC1_1.out); rintro e w' ⟨rfl, ⟨nd, rfl⟩⟩) | (go_at_call 106; (with_reducible refine (spec_l1Same.calls k _ _ l0_2 _ _ l1_2 false _ ?side1 ?side2 ?side3 ?side4 A9.out).mono ?_); (case side1 => repeat (first | exact (Kd.C_below HR0_2.out (by repeat (first | (with_reducible first|exact HB.out|apply vA_|apply vN_|apply vD_ | refine vS_ ?_ GE120.out | refine vS_ ?_ GE121.out) | exact HB.out))) | with_reducible apply cA_|with_reducible apply cN_|with_reducible apply cD_)); (case side2 => exact HC0_2.out); (case side3 => repeat (first | exact (Kd.C_below HR1_2.out (by repeat (first | (with_reducible first|exact HB.out|apply vA_|apply vN_|apply vD_ | refine vS_ ?_ GE120.out | refine vS_ ?_ GE121.out) | exact HB.out))) | with_reducible apply cA_|with_reducible apply cN_|with_reducible apply cD_)); (case side4 => exact HC1_2.out); rintro e w' ⟨rfl, ⟨nd, rfl⟩⟩))
          go_meet
          case rel => exact ⟨_, (true), (by first | rfl | (simp; done) | (simp [*]; done)), H', ⟨by first | omega | exact Nat.le_refl _⟩, ⟨by (with_reducible repeat first|apply qN_|apply qD_|apply qA_); exact BK120.out⟩, ⟨by (with_reducible repeat first|apply qN_|apply qD_|apply qA_); exact BK121.out⟩, ⟨by repeat (first | (with_reducible first|exact HB.out|apply vA_|apply vN_|apply vD_ | refine vS_ ?_ GE120.out | refine vS_ ?_ GE121.out) | exact HB.out)⟩⟩
      · replace c8 := Bool.eq_false_iff.mpr c8
        subst c8
        have H1 : (spec_SameState.j0 k true l0_0 l0_1 l0_2 a0_3 l1_0 l1_1 l1_2 a1_3) = some r := by rw [if_neg (show ¬ (false = true) by decide)] at H; exact H
        clear H
        have H := H1
        clear H1
        have H' := Aside0.mk H
        clear H
        have hnb17 := NB120_121.out
        have hnc17 := NB121_120.out
        have hcz18_0 : w5.cell? ⟨gb120, 0, none⟩ = some (.slice A0_0 l0_0.length c0_0) := (blk_cell BK120.out 0).trans rfl
        have hcz18_1 : w5.cell? ⟨gb120, 1, none⟩ = some (.slice A0_1 l0_1.length c0_1) := (blk_cell BK120.out 1).trans rfl
        have hcz18_2 : w5.cell? ⟨gb120, 2, none⟩ = some (.slice A0_2 l0_2.length c0_2) := (blk_cell BK120.out 2).trans rfl
        have hcz18_3 : w5.cell? ⟨gb120, 3, none⟩ = some (.int .i64 a0_3) := (blk_cell BK120.out 3).trans rfl
        have hfz18_0 := blk_frozen BK120.out 0
        have hfz18_1 := blk_frozen BK120.out 1
        have hfz18_2 := blk_frozen BK120.out 2
        have hfz18_3 := blk_frozen BK120.out 3
        have hcz19_0 : w5.cell? ⟨gb121, 0, none⟩ = some (.slice A1_0 l1_0.length c1_0) := (blk_cell BK121.out 0).trans rfl
        have hcz19_1 : w5.cell? ⟨gb121, 1, none⟩ = some (.slice A1_1 l1_1.length c1_1) := (blk_cell BK121.out 1).trans rfl
        have hcz19_2 : w5.cell? ⟨gb121, 2, none⟩ = some (.slice A1_2 l1_2.length c1_2) := (blk_cell BK121.out 2).trans rfl
        have hcz19_3 : w5.cell? ⟨gb121, 3, none⟩ = some (.int .i64 a1_3) := (blk_cell BK121.out 3).trans rfl
        have hfz19_0 := blk_frozen BK121.out 0
        have hfz19_1 := blk_frozen BK121.out 1
        have hfz19_2 := blk_frozen BK121.out 2
        have hfz19_3 := blk_frozen BK121.out 3
        go_wp2_with (first | (go_at_call 105; (with_reducible refine (spec_l3SameNums.calls k _ _ l0_1 _ _ l1_1 false _ ?side1 ?side2 ?side3 ?side4 A7.out).mono ?_); (case side1 => repeat (first | exact (Kd.C_below HR0_1.out HB.out) | with_reducible apply cA_|with_reducible apply cN_|with_reducible apply cD_)); (case side2 => exact HC0_1.out); (case side3 => repeat (first | exact (Kd.C_below HR1_1.out HB.out) | with_reducible apply cA_|with_reducible apply cN_|with_reducible apply cD_)); (case side4 => exact HC1_1.out); rintro e w' ⟨rfl, ⟨nd, rfl⟩⟩))
        go_meet
        case rel => exact ⟨_, (true), (by first | rfl | (simp; done) | (simp [*]; done)), H', ⟨by first | omega | exact Nat.le_refl _⟩, ⟨by (with_reducible repeat first|apply qN_|apply qD_|apply qA_); exact BK120.out⟩, ⟨by (with_reducible repeat first|apply qN_|apply qD_|apply qA_); exact BK121.out⟩, ⟨by repeat (first | (with_reducible first|exact HB.out|apply vA_|apply vN_|apply vD_ | refine vS_ ?_ GE120.out | refine vS_ ?_ GE121.out) | exact HB.out)⟩⟩
    · rw [if_neg c6] at H
      have c6b0 : ((l0_0.length : Int) == (l1_0.length : Int)) = false := beq_eq_false_iff_ne.mpr c6
      have c6b1 : ((l0_0.length : Int) != (l1_0.length : Int)) = true := bne_iff_ne.mpr c6
      have c6b2 : (l0_0.length == l1_0.length) = false := by first | simpa using c6 | (simp at c6 ⊢; omega)
      (first | rw [c6b0] | (simp only [i64_w, i32_w]; rw [c6b0]) | skip)
      have H' := Aside0.mk H
      clear H
      have hnb20 := NB120_121.out
      have hnc20 := NB121_120.out
      have hcz21_0 : w5.cell? ⟨gb120, 0, none⟩ = some (.slice A0_0 l0_0.length c0_0) := (blk_cell BK120.out 0).trans rfl
      have hcz21_1 : w5.cell? ⟨gb120, 1, none⟩ = some (.slice A0_1 l0_1.length c0_1) := (blk_cell BK120.out 1).trans rfl
      have hcz21_2 : w5.cell? ⟨gb120, 2, none⟩ = some (.slice A0_2 l0_2.length c0_2) := (blk_cell BK120.out 2).trans rfl
      have hcz21_3 : w5.cell? ⟨gb120, 3, none⟩ = some (.int .i64 a0_3) := (blk_cell BK120.out 3).trans rfl
      have hfz21_0 := blk_frozen BK120.out 0
      have hfz21_1 := blk_frozen BK120.out 1
      have hfz21_2 := blk_frozen BK120.out 2
      have hfz21_3 := blk_frozen BK120.out 3
      have hcz22_0 : w5.cell? ⟨gb121, 0, none⟩ = some (.slice A1_0 l1_0.length c1_0) := (blk_cell BK121.out 0).trans rfl
      have hcz22_1 : w5.cell? ⟨gb121, 1, none⟩ = some (.slice A1_1 l1_1.length c1_1) := (blk_cell BK121.out 1).trans rfl
      have hcz22_2 : w5.cell? ⟨gb121, 2, none⟩ = some (.slice A1_2 l1_2.length c1_2) := (blk_cell BK121.out 2).trans rfl
      have hcz22_3 : w5.cell? ⟨gb121, 3, none⟩ = some (.int .i64 a1_3) := (blk_cell BK121.out 3).trans rfl
      have hfz22_0 := blk_frozen BK121.out 0
      have hfz22_1 := blk_frozen BK121.out 1
      have hfz22_2 := blk_frozen BK121.out 2
      have hfz22_3 := blk_frozen BK121.out 3
      go_wp2
      go_meet
      case rel => exact ⟨_, (true), (by first | rfl | (simp; done) | (simp [*]; done)), H', ⟨by first | omega | exact Nat.le_refl _⟩, ⟨by (with_reducible repeat first|apply qN_|apply qD_|apply qA_); exact BK120.out⟩, ⟨by (with_reducible repeat first|apply qN_|apply qD_|apply qA_); exact BK121.out⟩, ⟨by repeat (first | (with_reducible first|exact HB.out|apply vA_|apply vN_|apply vD_ | refine vS_ ?_ GE120.out | refine vS_ ?_ GE121.out) | exact HB.out)⟩⟩
  case rest =>
    clear HC3
    try clear c1
    try clear c2
    try clear p2
    try clear c5
    try clear c6
    try clear c6b0
    try clear c6b1
    try clear c6b2
    try clear c8
    try clear c10
    try clear c11
    try clear c14
    try clear c17
    try clear c20
    try clear hcz12_0
    try clear hcz12_1
    try clear hcz12_2
    try clear hcz12_3
    try clear hcz13_0
    try clear hcz13_1
    try clear hcz13_2
    try clear hcz13_3
    try clear hcz15_0
    try clear hcz15_1
    try clear hcz15_2
    try clear hcz15_3
    try clear hcz16_0
    try clear hcz16_1
    try clear hcz16_2
    try clear hcz16_3
    try clear hcz18_0
    try clear hcz18_1
    try clear hcz18_2
    try clear hcz18_3
    try clear hcz19_0
    try clear hcz19_1
    try clear hcz19_2
    try clear hcz19_3
    try clear hcz21_0
    try clear hcz21_1
    try clear hcz21_2
    try clear hcz21_3
    try clear hcz22_0
    try clear hcz22_1
    try clear hcz22_2
    try clear hcz22_3
    try clear hfz12_0
    try clear hfz12_1
    try clear hfz12_2
    try clear hfz12_3
    try clear hfz13_0
    try clear hfz13_1
    try clear hfz13_2
    try clear hfz13_3
    try clear hfz15_0
    try clear hfz15_1
    try clear hfz15_2
    try clear hfz15_3
    try clear hfz16_0
    try clear hfz16_1
    try clear hfz16_2
    try clear hfz16_3
    try clear hfz18_0
    try clear hfz18_1
    try clear hfz18_2
    try clear hfz18_3
    try clear hfz19_0
    try clear hfz19_1
    try clear hfz19_2
    try clear hfz19_3
    try clear hfz21_0
    try clear hfz21_1
    try clear hfz21_2
    try clear hfz21_3
    try clear hfz22_0
    try clear hfz22_1
    try clear hfz22_2
    try clear hfz22_3
    obtain ⟨kq, x37_2, rfl, HA, HJ2, BK120, BK121, HB⟩ := hcut
    cases kq with
    | zero => exact absurd HA.out (by simp [spec_SameState.j0])
    | succ kj2 =>
      have H := HA.out
      clear HA
      simp only [spec_SameState.j0] at H
      by_cases c23 : x37_2 = true
      · subst c23
        have H1 : (some false) = some r := by rw [if_pos rfl] at H; exact H
        clear H
        have H := H1
        clear H1
        obtain rfl := Option.some.inj H
        go_wp2
        go_ret
        exact ⟨by first | rfl | (simp [errW_none, errW_some] <;> rfl) | (simp [*, errW_none, errW_some] <;> rfl), by repeat (first | (with_reducible first|exact HB.out|apply vA_|apply vN_|apply vD_ | refine vS_ ?_ GE120.out | refine vS_ ?_ GE121.out) | exact HB.out)⟩
      · replace c23 := Bool.eq_false_iff.mpr c23
        subst c23
        have H1 : (spec_SameState.l0 kj2 l0_0 (l0_0.length : Int) 0 l1_0 l1_1 l1_2 a1_3) = some r := by rw [if_neg (show ¬ (false = true) by decide)] at H; exact H
        clear H
        have H := H1
        clear H1
        have H' := Aside0.mk H
        clear H
        have hnb24 := NB120_121.out
        have hnc24 := NB121_120.out
        have hcz25_0 : wc.cell? ⟨gb120, 0, none⟩ = some (.slice A0_0 l0_0.length c0_0) := (blk_cell BK120.out 0).trans rfl
        have hcz25_1 : wc.cell? ⟨gb120, 1, none⟩ = some (.slice A0_1 l0_1.length c0_1) := (blk_cell BK120.out 1).trans rfl
        have hcz25_2 : wc.cell? ⟨gb120, 2, none⟩ = some (.slice A0_2 l0_2.length c0_2) := (blk_cell BK120.out 2).trans rfl
        have hcz25_3 : wc.cell? ⟨gb120, 3, none⟩ = some (.int .i64 a0_3) := (blk_cell BK120.out 3).trans rfl
        have hfz25_0 := blk_frozen BK120.out 0
        have hfz25_1 := blk_frozen BK120.out 1
        have hfz25_2 := blk_frozen BK120.out 2
        have hfz25_3 := blk_frozen BK120.out 3
        go_wp2
        go_loopg [41] kj2 (fun kq v41 w' => ∃ (x41_2 : Int), v41 = .int .i64 x41_2 ∧ Aside0 (spec_SameState.l0 kq l0_0 (l0_0.length : Int) x41_2 l1_0 l1_1 l1_2 a1_3 = some r) ∧ Aside0 (kq ≤ kj2) ∧ Aside0 (w'.heap[gb120]? = some (.cells #[(.slice A0_0 l0_0.length c0_0), (.slice A0_1 l0_1.length c0_1), (.slice A0_2 l0_2.length c0_2), .int .i64 a0_3] 75 (0, 0))) ∧ Aside0 (w'.heap[gb121]? = some (.cells #[(.slice A1_0 l1_0.length c1_0), (.slice A1_1 l1_1.length c1_1), (.slice A1_2 l1_2.length c1_2), .int .i64 a1_3] 75 (0, 0))) ∧ Aside0 (Below w.heap.size w w'))
        case atStart => exact ⟨(0), (by first | rfl | (simp; done) | (simp [*]; done)), H', ⟨Nat.le_refl _⟩, ⟨by (with_reducible repeat first|apply qN_|apply qD_|apply qA_); exact BK120.out⟩, ⟨by (with_reducible repeat first|apply qN_|apply qD_|apply qA_); exact BK121.out⟩, ⟨by repeat (first | (with_reducible first|exact HB.out|apply vA_|apply vN_|apply vD_ | refine vS_ ?_ GE120.out | refine vS_ ?_ GE121.out) | exact HB.out)⟩⟩
        case round =>
          clear H'
          try clear c1
          try clear c2
          try clear p2
          try clear c5
          try clear c6
          try clear c6b0
          try clear c6b1
          try clear c6b2
          try clear c8
          try clear c10
          try clear c11
          try clear c14
          try clear c17
          try clear c20
          try clear c23
          try clear c24
          try clear hcz12_0
          try clear hcz12_1
          try clear hcz12_2
          try clear hcz12_3
          try clear hcz13_0
          try clear hcz13_1
          try clear hcz13_2
          try clear hcz13_3
          try clear hcz15_0
          try clear hcz15_1
          try clear hcz15_2
          try clear hcz15_3
          try clear hcz16_0
          try clear hcz16_1
          try clear hcz16_2
          try clear hcz16_3
          try clear hcz18_0
          try clear hcz18_1
          try clear hcz18_2
          try clear hcz18_3
          try clear hcz19_0
          try clear hcz19_1
          try clear hcz19_2
          try clear hcz19_3
          try clear hcz21_0
          try clear hcz21_1
          try clear hcz21_2
          try clear hcz21_3
          try clear hcz22_0
          try clear hcz22_1
          try clear hcz22_2
          try clear hcz22_3
          try clear hcz25_0
          try clear hcz25_1
          try clear hcz25_2
          try clear hcz25_3
          try clear hfz12_0
          try clear hfz12_1
          try clear hfz12_2
          try clear hfz12_3
          try clear hfz13_0
          try clear hfz13_1
          try clear hfz13_2
          try clear hfz13_3
          try clear hfz15_0
          try clear hfz15_1
          try clear hfz15_2
          try clear hfz15_3
          try clear hfz16_0
          try clear hfz16_1
          try clear hfz16_2
          try clear hfz16_3
          try clear hfz18_0
          try clear hfz18_1
          try clear hfz18_2
          try clear hfz18_3
          try clear hfz19_0
          try clear hfz19_1
          try clear hfz19_2
          try clear hfz19_3
          try clear hfz21_0
          try clear hfz21_1
          try clear hfz21_2
          try clear hfz21_3
          try clear hfz22_0
          try clear hfz22_1
          try clear hfz22_2
          try clear hfz22_3
          try clear hfz25_0
          try clear hfz25_1
          try clear hfz25_2
          try clear hfz25_3
          try clear p2
          obtain ⟨x41_2, rfl, HA, HK2, BK120, BK121, HB⟩ := hrel
          cases gk with
          | zero => exact absurd HA.out (by simp [spec_SameState.l0])
          | succ k2 =>
            have H := HA.out
            clear HA
            simp only [spec_SameState.l0] at H
            by_cases c26 : x41_2 < (l0_0.length : Int)
            · rw [if_pos c26] at H
              have c26b0 : decide (x41_2 < (l0_0.length : Int)) = true := decide_eq_true c26
              clear c26
              by_cases c27 : 0 ≤ x41_2
              · rw [if_pos c27] at H
                have c27b0 : decide (0 ≤ x41_2) = true := decide_eq_true c27
                clear c27
                by_cases c28 : x41_2 < (l0_0.length : Int)
                · rw [if_pos c28] at H
                  have c28b0 : decide (x41_2 < (l0_0.length : Int)) = true := decide_eq_true c28
                  clear c28
                  by_cases c29 : x41_2 < (l1_0.length : Int)
                  · rw [if_pos c29] at H
                    have c29b0 : decide (x41_2 < (l1_0.length : Int)) = true := decide_eq_true c29
                    clear c29
                    have p124 : 0 ≤ (x41_2 : Int) := of_decide_eq_true (by first | (with_reducible assumption) | assumption)
                    have q124 : x41_2 < (l0_0.length : Int) := of_decide_eq_true (by first | (with_reducible assumption) | assumption)
                    obtain ⟨ad124, A124_5, c124_5, e124, hx124_0, hx124_1, hx124_2, hx124_3, hx124_4, hx124_5, hl124_5, hi124_5⟩ := at_T135 HR0_0.out x41_2 p124 q124
                    cases e124
                    replace hx124_0 := (HB.out.cell (World.block_lt_of_cell? w _ hx124_0)).trans hx124_0
                    replace hx124_1 := (HB.out.cell (World.block_lt_of_cell? w _ hx124_1)).trans hx124_1
                    replace hx124_2 := (HB.out.cell (World.block_lt_of_cell? w _ hx124_2)).trans hx124_2
                    replace hx124_3 := (HB.out.cell (World.block_lt_of_cell? w _ hx124_3)).trans hx124_3
                    replace hx124_4 := (HB.out.cell (World.block_lt_of_cell? w _ hx124_4)).trans hx124_4
                    replace hx124_5 := (HB.out.cell (World.block_lt_of_cell? w _ hx124_5)).trans hx124_5
                    have HR124_5 := Aside0.mk hi124_5
                    have HC124_5 := Aside0.mk hl124_5
                    clear hi124_5 hl124_5
                    replace p124 := eq_true p124
                    replace q124 := eq_true q124
                    go_upto_region 7 with (first | ((with_reducible refine gate_dst (N := 6) rfl ?_); refine box_event ?hg (N := 6) ?hd (cs := #[.int .i64 0, .int .i64 0, .int .i64 0, .int .i64 0, .int .i64 0, .slice none 0 0]) (t := 135) ?hr ?_; (case hd => rfl); (case hg => rfl); (case hr => first | (go_simp; done) | (go_simp; rfl)); intro gb125 hg w37 hbox hb; have n0_ := Aside0.mk (blk_below (by (with_reducible repeat first|apply qN_|apply qD_|apply qA_); exact BK120.out) hb); have n1_ := Aside0.mk (blk_below (by (with_reducible repeat first|apply qN_|apply qD_|apply qA_); exact BK121.out) hb); have n2_ := Aside0.mk (below_step (by repeat (first | (with_reducible first|exact HB.out|apply vA_|apply vN_|apply vD_ | refine vS_ ?_ GE120.out | refine vS_ ?_ GE121.out) | exact HB.out)) hb); have n3_ := Aside0.mk (hbox); have n4_ := Aside0.mk ((by rw [hg]; exact (below_size (by repeat (first | (with_reducible first|exact HB.out|apply vA_|apply vN_|apply vD_ | refine vS_ ?_ GE120.out | refine vS_ ?_ GE121.out) | exact HB.out))) : w.heap.size ≤ gb125)); have n5_ := Aside0.mk ((by rw [hg]; exact (below_size (by repeat (first | (with_reducible first|exact HB.out|apply vA_|apply vN_|apply vD_ | refine vS_ ?_ GE120.out | refine vS_ ?_ GE121.out) | exact HB.out))) : w.heap.size ≤ gb125)); have n6_ := Aside0.mk ((by rw [hg]; exact Nat.ne_of_lt (blk_lt (g := gb120) (o := .cells #[.slice (some ad124) l0_0.length c0_0, .slice A0_1 l0_1.length c0_1, .slice A0_2 l0_2.length c0_2, .int .i64 a0_3] 75 (0, 0)) (by (with_reducible repeat first|apply qN_|apply qD_|apply qA_); exact BK120.out)) : gb120 ≠ gb125)); have n7_ := Aside0.mk ((by rw [hg]; exact Nat.ne_of_gt (blk_lt (g := gb120) (o := .cells #[.slice (some ad124) l0_0.length c0_0, .slice A0_1 l0_1.length c0_1, .slice A0_2 l0_2.length c0_2, .int .i64 a0_3] 75 (0, 0)) (by (with_reducible repeat first|apply qN_|apply qD_|apply qA_); exact BK120.out)) : gb125 ≠ gb120)); have n8_ := Aside0.mk ((by rw [hg]; exact Nat.ne_of_lt (blk_lt (g := gb121) (o := .cells #[.slice A1_0 l1_0.length c1_0, .slice A1_1 l1_1.length c1_1, .slice A1_2 l1_2.length c1_2, .int .i64 a1_3] 75 (0, 0)) (by (with_reducible repeat first|apply qN_|apply qD_|apply qA_); exact BK121.out)) : gb121 ≠ gb125)); have n9_ := Aside0.mk ((by rw [hg]; exact Nat.ne_of_gt (blk_lt (g := gb121) (o := .cells #[.slice A1_0 l1_0.length c1_0, .slice A1_1 l1_1.length c1_1, .slice A1_2 l1_2.length c1_2, .int .i64 a1_3] 75 (0, 0)) (by (with_reducible repeat first|apply qN_|apply qD_|apply qA_); exact BK121.out)) : gb125 ≠ gb121)); clear BK120; clear BK121; clear HB; have BK120 := n0_; have BK121 := n1_; have HB := n2_; have BK125 := n3_; have GW125 := n4_; have GE125 := n5_; have NB120_125 := n6_; have NB125_120 := n7_; have NB121_125 := n8_; have NB125_121 := n9_; clear n0_ n1_ n2_ n3_ n4_ n5_ n6_ n7_ n8_ n9_; clear hb hbox hg; have hnb38 := NB125_120.out; have hnc38 := NB120_125.out; have hnb39 := NB125_121.out; have hnc39 := NB121_125.out; have hcz40_0 : w37.cell? ⟨gb125, 0, none⟩ = some (.int .i64 0) := (blk_cell BK125.out 0).trans rfl; have hcz40_1 : w37.cell? ⟨gb125, 1, none⟩ = some (.int .i64 0) := (blk_cell BK125.out 1).trans rfl; have hcz40_2 : w37.cell? ⟨gb125, 2, none⟩ = some (.int .i64 0) := (blk_cell BK125.out 2).trans rfl; have hcz40_3 : w37.cell? ⟨gb125, 3, none⟩ = some (.int .i64 0) := (blk_cell BK125.out 3).trans rfl; have hcz40_4 : w37.cell? ⟨gb125, 4, none⟩ = some (.int .i64 0) := (blk_cell BK125.out 4).trans rfl; have hcz40_5 : w37.cell? ⟨gb125, 5, none⟩ = some (.slice none 0 0) := (blk_cell BK125.out 5).trans rfl; have hfz40_0 := blk_frozen BK125.out 0; have hfz40_1 := blk_frozen BK125.out 1; have hfz40_2 := blk_frozen BK125.out 2; have hfz40_3 := blk_frozen BK125.out 3; have hfz40_4 := blk_frozen BK125.out 4; have hfz40_5 := blk_frozen BK125.out 5; have hnb41 := NB121_120.out; have hnc41 := NB120_121.out; have hcz42_0 : w37.cell? ⟨gb121, 0, none⟩ = some (.slice A1_0 l1_0.length c1_0) := (blk_cell BK121.out 0).trans rfl; have hcz42_1 : w37.cell? ⟨gb121, 1, none⟩ = some (.slice A1_1 l1_1.length c1_1) := (blk_cell BK121.out 1).trans rfl; have hcz42_2 : w37.cell? ⟨gb121, 2, none⟩ = some (.slice A1_2 l1_2.length c1_2) := (blk_cell BK121.out 2).trans rfl; have hcz42_3 : w37.cell? ⟨gb121, 3, none⟩ = some (.int .i64 a1_3) := (blk_cell BK121.out 3).trans rfl; have hfz42_0 := blk_frozen BK121.out 0; have hfz42_1 := blk_frozen BK121.out 1; have hfz42_2 := blk_frozen BK121.out 2; have hfz42_3 := blk_frozen BK121.out 3; have p126 : 0 ≤ (x41_2 : Int) := of_decide_eq_true (by first | (with_reducible assumption) | assumption); have q126 : x41_2 < (l1_0.length : Int) := of_decide_eq_true (by first | (with_reducible assumption) | assumption); obtain ⟨ad126, A126_5, c126_5, e126, hx126_0, hx126_1, hx126_2, hx126_3, hx126_4, hx126_5, hl126_5, hi126_5⟩ := at_T135 HR1_0.out x41_2 p126 q126; cases e126; have hn126_0 : ad126.block ≠ gb125 := Nat.ne_of_lt (Nat.lt_of_lt_of_le (by have := World.block_lt_of_cell? _ _ hx126_0; first | rwa [add_block] at this | exact this) GW125.out); have hn126_1 : ad126.block ≠ gb125 := Nat.ne_of_lt (Nat.lt_of_lt_of_le (by have := World.block_lt_of_cell? _ _ hx126_0; first | rwa [add_block] at this | exact this) GW125.out); have hn126_2 : ad126.block ≠ gb125 := Nat.ne_of_lt (Nat.lt_of_lt_of_le (by have := World.block_lt_of_cell? _ _ hx126_0; first | rwa [add_block] at this | exact this) GW125.out); have hn126_3 : ad126.block ≠ gb125 := Nat.ne_of_lt (Nat.lt_of_lt_of_le (by have := World.block_lt_of_cell? _ _ hx126_0; first | rwa [add_block] at this | exact this) GW125.out); have hn126_4 : ad126.block ≠ gb125 := Nat.ne_of_lt (Nat.lt_of_lt_of_le (by have := World.block_lt_of_cell? _ _ hx126_0; first | rwa [add_block] at this | exact this) GW125.out); have hn126_5 : ad126.block ≠ gb125 := Nat.ne_of_lt (Nat.lt_of_lt_of_le (by have := World.block_lt_of_cell? _ _ hx126_0; first | rwa [add_block] at this | exact this) GW125.out); replace hx126_0 := (HB.out.cell (World.block_lt_of_cell? w _ hx126_0)).trans hx126_0; replace hx126_1 := (HB.out.cell (World.block_lt_of_cell? w _ hx126_1)).trans hx126_1; replace hx126_2 := (HB.out.cell (World.block_lt_of_cell? w _ hx126_2)).trans hx126_2; replace hx126_3 := (HB.out.cell (World.block_lt_of_cell? w _ hx126_3)).trans hx126_3; replace hx126_4 := (HB.out.cell (World.block_lt_of_cell? w _ hx126_4)).trans hx126_4; replace hx126_5 := (HB.out.cell (World.block_lt_of_cell? w _ hx126_5)).trans hx126_5; have HR126_5 := Aside0.mk hi126_5; have HC126_5 := Aside0.mk hl126_5; clear hi126_5 hl126_5; replace hx126_0 := (cell_far (p := ⟨gb125, 0, none⟩) (by first | (rw [add_block]; exact hn126_0) | (show (Addr.add _ _).block ≠ _; rw [add_block]; exact hn126_0) | exact hn126_0) (.int .i64 ((rd_T135 l0_0 x41_2).f0))).trans hx126_0; replace hx126_1 := (cell_far (p := ⟨gb125, 0, none⟩) (by first | (rw [add_block]; exact hn126_0) | (show (Addr.add _ _).block ≠ _; rw [add_block]; exact hn126_0) | exact hn126_0) (.int .i64 ((rd_T135 l0_0 x41_2).f0))).trans hx126_1; replace hx126_2 := (cell_far (p := ⟨gb125, 0, none⟩) (by first | (rw [add_block]; exact hn126_0) | (show (Addr.add _ _).block ≠ _; rw [add_block]; exact hn126_0) | exact hn126_0) (.int .i64 ((rd_T135 l0_0 x41_2).f0))).trans hx126_2; replace hx126_3 := (cell_far (p := ⟨gb125, 0, none⟩) (by first | (rw [add_block]; exact hn126_0) | (show (Addr.add _ _).block ≠ _; rw [add_block]; exact hn126_0) | exact hn126_0) (.int .i64 ((rd_T135 l0_0 x41_2).f0))).trans hx126_3; replace hx126_4 := (cell_far (p := ⟨gb125, 0, none⟩) (by first | (rw [add_block]; exact hn126_0) | (show (Addr.add _ _).block ≠ _; rw [add_block]; exact hn126_0) | exact hn126_0) (.int .i64 ((rd_T135 l0_0 x41_2).f0))).trans hx126_4; replace hx126_5 := (cell_far (p := ⟨gb125, 0, none⟩) (by first | (rw [add_block]; exact hn126_0) | (show (Addr.add _ _).block ≠ _; rw [add_block]; exact hn126_0) | exact hn126_0) (.int .i64 ((rd_T135 l0_0 x41_2).f0))).trans hx126_5; replace hx126_0 := (cell_far (p := ⟨gb125, 1, none⟩) (by first | (rw [add_block]; exact hn126_1) | (show (Addr.add _ _).block ≠ _; rw [add_block]; exact hn126_1) | exact hn126_1) (.int .i64 ((rd_T135 l0_0 x41_2).f1))).trans hx126_0; replace hx126_1 := (cell_far (p := ⟨gb125, 1, none⟩) (by first | (rw [add_block]; exact hn126_1) | (show (Addr.add _ _).block ≠ _; rw [add_block]; exact hn126_1) | exact hn126_1) (.int .i64 ((rd_T135 l0_0 x41_2).f1))).trans hx126_1; replace hx126_2 := (cell_far (p := ⟨gb125, 1, none⟩) (by first | (rw [add_block]; exact hn126_1) | (show (Addr.add _ _).block ≠ _; rw [add_block]; exact hn126_1) | exact hn126_1) (.int .i64 ((rd_T135 l0_0 x41_2).f1))).trans hx126_2; replace hx126_3 := (cell_far (p := ⟨gb125, 1, none⟩) (by first | (rw [add_block]; exact hn126_1) | (show (Addr.add _ _).block ≠ _; rw [add_block]; exact hn126_1) | exact hn126_1) (.int .i64 ((rd_T135 l0_0 x41_2).f1))).trans hx126_3; replace hx126_4 := (cell_far (p := ⟨gb125, 1, none⟩) (by first | (rw [add_block]; exact hn126_1) | (show (Addr.add _ _).block ≠ _; rw [add_block]; exact hn126_1) | exact hn126_1) (.int .i64 ((rd_T135 l0_0 x41_2).f1))).trans hx126_4; replace hx126_5 := (cell_far (p := ⟨gb125, 1, none⟩) (by first | (rw [add_block]; exact hn126_1) | (show (Addr.add _ _).block ≠ _; rw [add_block]; exact hn126_1) | exact hn126_1) (.int .i64 ((rd_T135 l0_0 x41_2).f1))).trans hx126_5; replace hx126_0 := (cell_far (p := ⟨gb125, 2, none⟩) (by first | (rw [add_block]; exact hn126_2) | (show (Addr.add _ _).block ≠ _; rw [add_block]; exact hn126_2) | exact hn126_2) (.int .i64 ((rd_T135 l0_0 x41_2).f2))).trans hx126_0; replace hx126_1 := (cell_far (p := ⟨gb125, 2, none⟩) (by first | (rw [add_block]; exact hn126_2) | (show (Addr.add _ _).block ≠ _; rw [add_block]; exact hn126_2) | exact hn126_2) (.int .i64 ((rd_T135 l0_0 x41_2).f2))).trans hx126_1; replace hx126_2 := (cell_far (p := ⟨gb125, 2, none⟩) (by first | (rw [add_block]; exact hn126_2) | (show (Addr.add _ _).block ≠ _; rw [add_block]; exact hn126_2) | exact hn126_2) (.int .i64 ((rd_T135 l0_0 x41_2).f2))).trans hx126_2; replace hx126_3 := (cell_far (p := ⟨gb125, 2, none⟩) (by first | (rw [add_block]; exact hn126_2) | (show (Addr.add _ _).block ≠ _; rw [add_block]; exact hn126_2) | exact hn126_2) (.int .i64 ((rd_T135 l0_0 x41_2).f2))).trans hx126_3; replace hx126_4 := (cell_far (p := ⟨gb125, 2, none⟩) (by first | (rw [add_block]; exact hn126_2) | (show (Addr.add _ _).block ≠ _; rw [add_block]; exact hn126_2) | exact hn126_2) (.int .i64 ((rd_T135 l0_0 x41_2).f2))).trans hx126_4; replace hx126_5 := (cell_far (p := ⟨gb125, 2, none⟩) (by first | (rw [add_block]; exact hn126_2) | (show (Addr.add _ _).block ≠ _; rw [add_block]; exact hn126_2) | exact hn126_2) (.int .i64 ((rd_T135 l0_0 x41_2).f2))).trans hx126_5; replace hx126_0 := (cell_far (p := ⟨gb125, 3, none⟩) (by first | (rw [add_block]; exact hn126_3) | (show (Addr.add _ _).block ≠ _; rw [add_block]; exact hn126_3) | exact hn126_3) (.int .i64 ((rd_T135 l0_0 x41_2).f3))).trans hx126_0; replace hx126_1 := (cell_far (p := ⟨gb125, 3, none⟩) (by first | (rw [add_block]; exact hn126_3) | (show (Addr.add _ _).block ≠ _; rw [add_block]; exact hn126_3) | exact hn126_3) (.int .i64 ((rd_T135 l0_0 x41_2).f3))).trans hx126_1; replace hx126_2 := (cell_far (p := ⟨gb125, 3, none⟩) (by first | (rw [add_block]; exact hn126_3) | (show (Addr.add _ _).block ≠ _; rw [add_block]; exact hn126_3) | exact hn126_3) (.int .i64 ((rd_T135 l0_0 x41_2).f3))).trans hx126_2; replace hx126_3 := (cell_far (p := ⟨gb125, 3, none⟩) (by first | (rw [add_block]; exact hn126_3) | (show (Addr.add _ _).block ≠ _; rw [add_block]; exact hn126_3) | exact hn126_3) (.int .i64 ((rd_T135 l0_0 x41_2).f3))).trans hx126_3; replace hx126_4 := (cell_far (p := ⟨gb125, 3, none⟩) (by first | (rw [add_block]; exact hn126_3) | (show (Addr.add _ _).block ≠ _; rw [add_block]; exact hn126_3) | exact hn126_3) (.int .i64 ((rd_T135 l0_0 x41_2).f3))).trans hx126_4; replace hx126_5 := (cell_far (p := ⟨gb125, 3, none⟩) (by first | (rw [add_block]; exact hn126_3) | (show (Addr.add _ _).block ≠ _; rw [add_block]; exact hn126_3) | exact hn126_3) (.int .i64 ((rd_T135 l0_0 x41_2).f3))).trans hx126_5; replace hx126_0 := (cell_far (p := ⟨gb125, 4, none⟩) (by first | (rw [add_block]; exact hn126_4) | (show (Addr.add _ _).block ≠ _; rw [add_block]; exact hn126_4) | exact hn126_4) (.int .i64 ((rd_T135 l0_0 x41_2).f4))).trans hx126_0; replace hx126_1 := (cell_far (p := ⟨gb125, 4, none⟩) (by first | (rw [add_block]; exact hn126_4) | (show (Addr.add _ _).block ≠ _; rw [add_block]; exact hn126_4) | exact hn126_4) (.int .i64 ((rd_T135 l0_0 x41_2).f4))).trans hx126_1; replace hx126_2 := (cell_far (p := ⟨gb125, 4, none⟩) (by first | (rw [add_block]; exact hn126_4) | (show (Addr.add _ _).block ≠ _; rw [add_block]; exact hn126_4) | exact hn126_4) (.int .i64 ((rd_T135 l0_0 x41_2).f4))).trans hx126_2; replace hx126_3 := (cell_far (p := ⟨gb125, 4, none⟩) (by first | (rw [add_block]; exact hn126_4) | (show (Addr.add _ _).block ≠ _; rw [add_block]; exact hn126_4) | exact hn126_4) (.int .i64 ((rd_T135 l0_0 x41_2).f4))).trans hx126_3; replace hx126_4 := (cell_far (p := ⟨gb125, 4, none⟩) (by first | (rw [add_block]; exact hn126_4) | (show (Addr.add _ _).block ≠ _; rw [add_block]; exact hn126_4) | exact hn126_4) (.int .i64 ((rd_T135 l0_0 x41_2).f4))).trans hx126_4; replace hx126_5 := (cell_far (p := ⟨gb125, 4, none⟩) (by first | (rw [add_block]; exact hn126_4) | (show (Addr.add _ _).block ≠ _; rw [add_block]; exact hn126_4) | exact hn126_4) (.int .i64 ((rd_T135 l0_0 x41_2).f4))).trans hx126_5; replace hx126_0 := (cell_far (p := ⟨gb125, 5, none⟩) (by first | (rw [add_block]; exact hn126_5) | (show (Addr.add _ _).block ≠ _; rw [add_block]; exact hn126_5) | exact hn126_5) (.slice A124_5 ((rd_T135 l0_0 x41_2).f5).length c124_5)).trans hx126_0; replace hx126_1 := (cell_far (p := ⟨gb125, 5, none⟩) (by first | (rw [add_block]; exact hn126_5) | (show (Addr.add _ _).block ≠ _; rw [add_block]; exact hn126_5) | exact hn126_5) (.slice A124_5 ((rd_T135 l0_0 x41_2).f5).length c124_5)).trans hx126_1; replace hx126_2 := (cell_far (p := ⟨gb125, 5, none⟩) (by first | (rw [add_block]; exact hn126_5) | (show (Addr.add _ _).block ≠ _; rw [add_block]; exact hn126_5) | exact hn126_5) (.slice A124_5 ((rd_T135 l0_0 x41_2).f5).length c124_5)).trans hx126_2; replace hx126_3 := (cell_far (p := ⟨gb125, 5, none⟩) (by first | (rw [add_block]; exact hn126_5) | (show (Addr.add _ _).block ≠ _; rw [add_block]; exact hn126_5) | exact hn126_5) (.slice A124_5 ((rd_T135 l0_0 x41_2).f5).length c124_5)).trans hx126_3; replace hx126_4 := (cell_far (p := ⟨gb125, 5, none⟩) (by first | (rw [add_block]; exact hn126_5) | (show (Addr.add _ _).block ≠ _; rw [add_block]; exact hn126_5) | exact hn126_5) (.slice A124_5 ((rd_T135 l0_0 x41_2).f5).length c124_5)).trans hx126_4; replace hx126_5 := (cell_far (p := ⟨gb125, 5, none⟩) (by first | (rw [add_block]; exact hn126_5) | (show (Addr.add _ _).block ≠ _; rw [add_block]; exact hn126_5) | exact hn126_5) (.slice A124_5 ((rd_T135 l0_0 x41_2).f5).length c124_5)).trans hx126_5; clear hn126_0; clear hn126_1; clear hn126_2; clear hn126_3; clear hn126_4; clear hn126_5; replace p126 := eq_true p126; replace q126 := eq_true q126) | ((with_reducible refine gate_dst (N := 7) rfl ?_); refine box_event ?hg (N := 7) ?hd (cs := #[.int .i64 0, .int .i64 0, .int .i64 0, .int .i64 0, .int .i64 0, .slice none 0 0]) (t := 135) ?hr ?_; (case hd => rfl); (case hg => rfl); (case hr => first | (go_simp; done) | (go_simp; rfl)); intro gb127 hg w43 hbox hb; have n0_ := Aside0.mk (blk_below (g := gb120) (o := .cells #[.slice (some ad124) l0_0.length c0_0, .slice A0_1 l0_1.length c0_1, .slice A0_2 l0_2.length c0_2, .int .i64 a0_3] 75 (0, 0)) (by (with_reducible repeat first|apply qN_|apply qD_|apply qA_); refine blk_far ?_ NB120_125.out _; (with_reducible repeat first|apply qN_|apply qD_|apply qA_); refine blk_far ?_ NB120_125.out _; (with_reducible repeat first|apply qN_|apply qD_|apply qA_); refine blk_far ?_ NB120_125.out _; (with_reducible repeat first|apply qN_|apply qD_|apply qA_); refine blk_far ?_ NB120_125.out _; (with_reducible repeat first|apply qN_|apply qD_|apply qA_); refine blk_far ?_ NB120_125.out _; (with_reducible repeat first|apply qN_|apply qD_|apply qA_); refine blk_far ?_ NB120_125.out _; (with_reducible repeat first|apply qN_|apply qD_|apply qA_); exact BK120.out) hb); have n1_ := Aside0.mk (blk_below (g := gb121) (o := .cells #[.slice (some ad126) l1_0.length c1_0, .slice A1_1 l1_1.length c1_1, .slice A1_2 l1_2.length c1_2, .int .i64 a1_3] 75 (0, 0)) (by (with_reducible repeat first|apply qN_|apply qD_|apply qA_); refine blk_far ?_ NB121_125.out _; (with_reducible repeat first|apply qN_|apply qD_|apply qA_); refine blk_far ?_ NB121_125.out _; (with_reducible repeat first|apply qN_|apply qD_|apply qA_); refine blk_far ?_ NB121_125.out _; (with_reducible repeat first|apply qN_|apply qD_|apply qA_); refine blk_far ?_ NB121_125.out _; (with_reducible repeat first|apply qN_|apply qD_|apply qA_); refine blk_far ?_ NB121_125.out _; (with_reducible repeat first|apply qN_|apply qD_|apply qA_); refine blk_far ?_ NB121_125.out _; (with_reducible repeat first|apply qN_|apply qD_|apply qA_); exact BK121.out) hb); have n2_ := Aside0.mk (blk_below (g := gb125) (o := .cells #[.int .i64 ((rd_T135 l0_0 x41_2).f0), .int .i64 ((rd_T135 l0_0 x41_2).f1), .int .i64 ((rd_T135 l0_0 x41_2).f2), .int .i64 ((rd_T135 l0_0 x41_2).f3), .int .i64 ((rd_T135 l0_0 x41_2).f4), .slice A124_5 ((rd_T135 l0_0 x41_2).f5).length c124_5] 135 (0, 0)) (by (with_reducible repeat first|apply qN_|apply qD_|apply qA_); refine blk_put (cs := #[.int .i64 ((rd_T135 l0_0 x41_2).f0), .int .i64 ((rd_T135 l0_0 x41_2).f1), .int .i64 ((rd_T135 l0_0 x41_2).f2), .int .i64 ((rd_T135 l0_0 x41_2).f3), .int .i64 ((rd_T135 l0_0 x41_2).f4), .slice none 0 0]) ?_ 5 _ rfl; (with_reducible repeat first|apply qN_|apply qD_|apply qA_); refine blk_put (cs := #[.int .i64 ((rd_T135 l0_0 x41_2).f0), .int .i64 ((rd_T135 l0_0 x41_2).f1), .int .i64 ((rd_T135 l0_0 x41_2).f2), .int .i64 ((rd_T135 l0_0 x41_2).f3), .int .i64 0, .slice none 0 0]) ?_ 4 _ rfl; (with_reducible repeat first|apply qN_|apply qD_|apply qA_); refine blk_put (cs := #[.int .i64 ((rd_T135 l0_0 x41_2).f0), .int .i64 ((rd_T135 l0_0 x41_2).f1), .int .i64 ((rd_T135 l0_0 x41_2).f2), .int .i64 0, .int .i64 0, .slice none 0 0]) ?_ 3 _ rfl; (with_reducible repeat first|apply qN_|apply qD_|apply qA_); refine blk_put (cs := #[.int .i64 ((rd_T135 l0_0 x41_2).f0), .int .i64 ((rd_T135 l0_0 x41_2).f1), .int .i64 0, .int .i64 0, .int .i64 0, .slice none 0 0]) ?_ 2 _ rfl; (with_reducible repeat first|apply qN_|apply qD_|apply qA_); refine blk_put (cs := #[.int .i64 ((rd_T135 l0_0 x41_2).f0), .int .i64 0, .int .i64 0, .int .i64 0, .int .i64 0, .slice none 0 0]) ?_ 1 _ rfl; (with_reducible repeat first|apply qN_|apply qD_|apply qA_); refine blk_put (cs := #[.int .i64 0, .int .i64 0, .int .i64 0, .int .i64 0, .int .i64 0, .slice none 0 0]) ?_ 0 _ rfl; (with_reducible repeat first|apply qN_|apply qD_|apply qA_); exact BK125.out) hb); have n3_ := Aside0.mk (below_step (by repeat (first | (with_reducible first|exact HB.out|apply vA_|apply vN_|apply vD_ | refine vS_ ?_ GE120.out | refine vS_ ?_ GE121.out | refine vS_ ?_ GE125.out) | exact HB.out)) hb); have n4_ := Aside0.mk (hbox); have n5_ := Aside0.mk ((by rw [hg]; exact (below_size (by repeat (first | (with_reducible first|exact HB.out|apply vA_|apply vN_|apply vD_ | refine vS_ ?_ GE120.out | refine vS_ ?_ GE121.out | refine vS_ ?_ GE125.out) | exact HB.out))) : w.heap.size ≤ gb127)); have n6_ := Aside0.mk ((by rw [hg]; exact (below_size (by repeat (first | (with_reducible first|exact HB.out|apply vA_|apply vN_|apply vD_ | refine vS_ ?_ GE120.out | refine vS_ ?_ GE121.out | refine vS_ ?_ GE125.out) | exact HB.out))) : w.heap.size ≤ gb127)); have n7_ := Aside0.mk ((by rw [hg]; exact Nat.ne_of_lt (blk_lt (g := gb120) (o := .cells #[.slice (some ad124) l0_0.length c0_0, .slice A0_1 l0_1.length c0_1, .slice A0_2 l0_2.length c0_2, .int .i64 a0_3] 75 (0, 0)) (by (with_reducible repeat first|apply qN_|apply qD_|apply qA_); refine blk_far ?_ NB120_125.out _; (with_reducible repeat first|apply qN_|apply qD_|apply qA_); refine blk_far ?_ NB120_125.out _; (with_reducible repeat first|apply qN_|apply qD_|apply qA_); refine blk_far ?_ NB120_125.out _; (with_reducible repeat first|apply qN_|apply qD_|apply qA_); refine blk_far ?_ NB120_125.out _; (with_reducible repeat first|apply qN_|apply qD_|apply qA_); refine blk_far ?_ NB120_125.out _; (with_reducible repeat first|apply qN_|apply qD_|apply qA_); refine blk_far ?_ NB120_125.out _; (with_reducible repeat first|apply qN_|apply qD_|apply qA_); exact BK120.out)) : gb120 ≠ gb127)); have n8_ := Aside0.mk ((by rw [hg]; exact Nat.ne_of_gt (blk_lt (g := gb120) (o := .cells #[.slice (some ad124) l0_0.length c0_0, .slice A0_1 l0_1.length c0_1, .slice A0_2 l0_2.length c0_2, .int .i64 a0_3] 75 (0, 0)) (by (with_reducible repeat first|apply qN_|apply qD_|apply qA_); refine blk_far ?_ NB120_125.out _; (with_reducible repeat first|apply qN_|apply qD_|apply qA_); refine blk_far ?_ NB120_125.out _; (with_reducible repeat first|apply qN_|apply qD_|apply qA_); refine blk_far ?_ NB120_125.out _; (with_reducible repeat first|apply qN_|apply qD_|apply qA_); refine blk_far ?_ NB120_125.out _; (with_reducible repeat first|apply qN_|apply qD_|apply qA_); refine blk_far ?_ NB120_125.out _; (with_reducible repeat first|apply qN_|apply qD_|apply qA_); refine blk_far ?_ NB120_125.out _; (with_reducible repeat first|apply qN_|apply qD_|apply qA_); exact BK120.out)) : gb127 ≠ gb120)); have n9_ := Aside0.mk ((by rw [hg]; exact Nat.ne_of_lt (blk_lt (g := gb121) (o := .cells #[.slice (some ad126) l1_0.length c1_0, .slice A1_1 l1_1.length c1_1, .slice A1_2 l1_2.length c1_2, .int .i64 a1_3] 75 (0, 0)) (by (with_reducible repeat first|apply qN_|apply qD_|apply qA_); refine blk_far ?_ NB121_125.out _; (with_reducible repeat first|apply qN_|apply qD_|apply qA_); refine blk_far ?_ NB121_125.out _; (with_reducible repeat first|apply qN_|apply qD_|apply qA_); refine blk_far ?_ NB121_125.out _; (with_reducible repeat first|apply qN_|apply qD_|apply qA_); refine blk_far ?_ NB121_125.out _; (with_reducible repeat first|apply qN_|apply qD_|apply qA_); refine blk_far ?_ NB121_125.out _; (with_reducible repeat first|apply qN_|apply qD_|apply qA_); refine blk_far ?_ NB121_125.out _; (with_reducible repeat first|apply qN_|apply qD_|apply qA_); exact BK121.out)) : gb121 ≠ gb127)); have n10_ := Aside0.mk ((by rw [hg]; exact Nat.ne_of_gt (blk_lt (g := gb121) (o := .cells #[.slice (some ad126) l1_0.length c1_0, .slice A1_1 l1_1.length c1_1, .slice A1_2 l1_2.length c1_2, .int .i64 a1_3] 75 (0, 0)) (by (with_reducible repeat first|apply qN_|apply qD_|apply qA_); refine blk_far ?_ NB121_125.out _; (with_reducible repeat first|apply qN_|apply qD_|apply qA_); refine blk_far ?_ NB121_125.out _; (with_reducible repeat first|apply qN_|apply qD_|apply qA_); refine blk_far ?_ NB121_125.out _; (with_reducible repeat first|apply qN_|apply qD_|apply qA_); refine blk_far ?_ NB121_125.out _; (with_reducible repeat first|apply qN_|apply qD_|apply qA_); refine blk_far ?_ NB121_125.out _; (with_reducible repeat first|apply qN_|apply qD_|apply qA_); refine blk_far ?_ NB121_125.out _; (with_reducible repeat first|apply qN_|apply qD_|apply qA_); exact BK121.out)) : gb127 ≠ gb121)); have n11_ := Aside0.mk ((by rw [hg]; exact Nat.ne_of_lt (blk_lt (g := gb125) (o := .cells #[.int .i64 ((rd_T135 l0_0 x41_2).f0), .int .i64 ((rd_T135 l0_0 x41_2).f1), .int .i64 ((rd_T135 l0_0 x41_2).f2), .int .i64 ((rd_T135 l0_0 x41_2).f3), .int .i64 ((rd_T135 l0_0 x41_2).f4), .slice A124_5 ((rd_T135 l0_0 x41_2).f5).length c124_5] 135 (0, 0)) (by (with_reducible repeat first|apply qN_|apply qD_|apply qA_); refine blk_put (cs := #[.int .i64 ((rd_T135 l0_0 x41_2).f0), .int .i64 ((rd_T135 l0_0 x41_2).f1), .int .i64 ((rd_T135 l0_0 x41_2).f2), .int .i64 ((rd_T135 l0_0 x41_2).f3), .int .i64 ((rd_T135 l0_0 x41_2).f4), .slice none 0 0]) ?_ 5 _ rfl; (with_reducible repeat first|apply qN_|apply qD_|apply qA_); refine blk_put (cs := #[.int .i64 ((rd_T135 l0_0 x41_2).f0), .int .i64 ((rd_T135 l0_0 x41_2).f1), .int .i64 ((rd_T135 l0_0 x41_2).f2), .int .i64 ((rd_T135 l0_0 x41_2).f3), .int .i64 0, .slice none 0 0]) ?_ 4 _ rfl; (with_reducible repeat first|apply qN_|apply qD_|apply qA_); refine blk_put (cs := #[.int .i64 ((rd_T135 l0_0 x41_2).f0), .int .i64 ((rd_T135 l0_0 x41_2).f1), .int .i64 ((rd_T135 l0_0 x41_2).f2), .int .i64 0, .int .i64 0, .slice none 0 0]) ?_ 3 _ rfl; (with_reducible repeat first|apply qN_|apply qD_|apply qA_); refine blk_put (cs := #[.int .i64 ((rd_T135 l0_0 x41_2).f0), .int .i64 ((rd_T135 l0_0 x41_2).f1), .int .i64 0, .int .i64 0, .int .i64 0, .slice none 0 0]) ?_ 2 _ rfl; (with_reducible repeat first|apply qN_|apply qD_|apply qA_); refine blk_put (cs := #[.int .i64 ((rd_T135 l0_0 x41_2).f0), .int .i64 0, .int .i64 0, .int .i64 0, .int .i64 0, .slice none 0 0]) ?_ 1 _ rfl; (with_reducible repeat first|apply qN_|apply qD_|apply qA_); refine blk_put (cs := #[.int .i64 0, .int .i64 0, .int .i64 0, .int .i64 0, .int .i64 0, .slice none 0 0]) ?_ 0 _ rfl; (with_reducible repeat first|apply qN_|apply qD_|apply qA_); exact BK125.out)) : gb125 ≠ gb127)); have n12_ := Aside0.mk ((by rw [hg]; exact Nat.ne_of_gt (blk_lt (g := gb125) (o := .cells #[.int .i64 ((rd_T135 l0_0 x41_2).f0), .int .i64 ((rd_T135 l0_0 x41_2).f1), .int .i64 ((rd_T135 l0_0 x41_2).f2), .int .i64 ((rd_T135 l0_0 x41_2).f3), .int .i64 ((rd_T135 l0_0 x41_2).f4), .slice A124_5 ((rd_T135 l0_0 x41_2).f5).length c124_5] 135 (0, 0)) (by (with_reducible repeat first|apply qN_|apply qD_|apply qA_); refine blk_put (cs := #[.int .i64 ((rd_T135 l0_0 x41_2).f0), .int .i64 ((rd_T135 l0_0 x41_2).f1), .int .i64 ((rd_T135 l0_0 x41_2).f2), .int .i64 ((rd_T135 l0_0 x41_2).f3), .int .i64 ((rd_T135 l0_0 x41_2).f4), .slice none 0 0]) ?_ 5 _ rfl; (with_reducible repeat first|apply qN_|apply qD_|apply qA_); refine blk_put (cs := #[.int .i64 ((rd_T135 l0_0 x41_2).f0), .int .i64 ((rd_T135 l0_0 x41_2).f1), .int .i64 ((rd_T135 l0_0 x41_2).f2), .int .i64 ((rd_T135 l0_0 x41_2).f3), .int .i64 0, .slice none 0 0]) ?_ 4 _ rfl; (with_reducible repeat first|apply qN_|apply qD_|apply qA_); refine blk_put (cs := #[.int .i64 ((rd_T135 l0_0 x41_2).f0), .int .i64 ((rd_T135 l0_0 x41_2).f1), .int .i64 ((rd_T135 l0_0 x41_2).f2), .int .i64 0, .int .i64 0, .slice none 0 0]) ?_ 3 _ rfl; (with_reducible repeat first|apply qN_|apply qD_|apply qA_); refine blk_put (cs := #[.int .i64 ((rd_T135 l0_0 x41_2).f0), .int .i64 ((rd_T135 l0_0 x41_2).f1), .int .i64 0, .int .i64 0, .int .i64 0, .slice none 0 0]) ?_ 2 _ rfl; (with_reducible repeat first|apply qN_|apply qD_|apply qA_); refine blk_put (cs := #[.int .i64 ((rd_T135 l0_0 x41_2).f0), .int .i64 0, .int .i64 0, .int .i64 0, .int .i64 0, .slice none 0 0]) ?_ 1 _ rfl; (with_reducible repeat first|apply qN_|apply qD_|apply qA_); refine blk_put (cs := #[.int .i64 0, .int .i64 0, .int .i64 0, .int .i64 0, .int .i64 0, .slice none 0 0]) ?_ 0 _ rfl; (with_reducible repeat first|apply qN_|apply qD_|apply qA_); exact BK125.out)) : gb127 ≠ gb125)); clear BK120; clear BK121; clear BK125; clear HB; have BK120 := n0_; have BK121 := n1_; have BK125 := n2_; have HB := n3_; have BK127 := n4_; have GW127 := n5_; have GE127 := n6_; have NB120_127 := n7_; have NB127_120 := n8_; have NB121_127 := n9_; have NB127_121 := n10_; have NB125_127 := n11_; have NB127_125 := n12_; clear n0_ n1_ n2_ n3_ n4_ n5_ n6_ n7_ n8_ n9_ n10_ n11_ n12_; clear hb hbox hg; have hnb44 := NB127_120.out; have hnc44 := NB120_127.out; have hnb45 := NB127_121.out; have hnc45 := NB121_127.out; have hnb46 := NB127_125.out; have hnc46 := NB125_127.out; have hcz47_0 : w43.cell? ⟨gb127, 0, none⟩ = some (.int .i64 0) := (blk_cell BK127.out 0).trans rfl; have hcz47_1 : w43.cell? ⟨gb127, 1, none⟩ = some (.int .i64 0) := (blk_cell BK127.out 1).trans rfl; have hcz47_2 : w43.cell? ⟨gb127, 2, none⟩ = some (.int .i64 0) := (blk_cell BK127.out 2).trans rfl; have hcz47_3 : w43.cell? ⟨gb127, 3, none⟩ = some (.int .i64 0) := (blk_cell BK127.out 3).trans rfl; have hcz47_4 : w43.cell? ⟨gb127, 4, none⟩ = some (.int .i64 0) := (blk_cell BK127.out 4).trans rfl; have hcz47_5 : w43.cell? ⟨gb127, 5, none⟩ = some (.slice none 0 0) := (blk_cell BK127.out 5).trans rfl; have hfz47_0 := blk_frozen BK127.out 0; have hfz47_1 := blk_frozen BK127.out 1; have hfz47_2 := blk_frozen BK127.out 2; have hfz47_3 := blk_frozen BK127.out 3; have hfz47_4 := blk_frozen BK127.out 4; have hfz47_5 := blk_frozen BK127.out 5; have hcz48_0 : w43.cell? ⟨gb125, 0, none⟩ = some (.int .i64 ((rd_T135 l0_0 x41_2).f0)) := (blk_cell BK125.out 0).trans rfl; have hcz48_1 : w43.cell? ⟨gb125, 1, none⟩ = some (.int .i64 ((rd_T135 l0_0 x41_2).f1)) := (blk_cell BK125.out 1).trans rfl; have hcz48_2 : w43.cell? ⟨gb125, 2, none⟩ = some (.int .i64 ((rd_T135 l0_0 x41_2).f2)) := (blk_cell BK125.out 2).trans rfl; have hcz48_3 : w43.cell? ⟨gb125, 3, none⟩ = some (.int .i64 ((rd_T135 l0_0 x41_2).f3)) := (blk_cell BK125.out 3).trans rfl; have hcz48_4 : w43.cell? ⟨gb125, 4, none⟩ = some (.int .i64 ((rd_T135 l0_0 x41_2).f4)) := (blk_cell BK125.out 4).trans rfl; have hcz48_5 : w43.cell? ⟨gb125, 5, none⟩ = some (.slice A124_5 ((rd_T135 l0_0 x41_2).f5).length c124_5) := (blk_cell BK125.out 5).trans rfl; have hfz48_0 := blk_frozen BK125.out 0; have hfz48_1 := blk_frozen BK125.out 1; have hfz48_2 := blk_frozen BK125.out 2; have hfz48_3 := blk_frozen BK125.out 3; have hfz48_4 := blk_frozen BK125.out 4; have hfz48_5 := blk_frozen BK125.out 5))
                    by_cases c30 : ((rd_T135 l0_0 x41_2).f0) = ((rd_T135 l1_0 x41_2).f0)
                    · rw [if_pos c30] at H
                      have c30b0 : (((rd_T135 l0_0 x41_2).f0) == ((rd_T135 l1_0 x41_2).f0)) = true := beq_iff_eq.mpr c30
                      have c30b1 : (((rd_T135 l0_0 x41_2).f0) != ((rd_T135 l1_0 x41_2).f0)) = false := bne_eq_false_iff_eq.mpr c30
                      clear c30
                      by_cases c31 : ((rd_T135 l0_0 x41_2).f1) = ((rd_T135 l1_0 x41_2).f1)
                      · rw [if_pos c31] at H
                        have c31b0 : (((rd_T135 l0_0 x41_2).f1) == ((rd_T135 l1_0 x41_2).f1)) = true := beq_iff_eq.mpr c31
                        have c31b1 : (((rd_T135 l0_0 x41_2).f1) != ((rd_T135 l1_0 x41_2).f1)) = false := bne_eq_false_iff_eq.mpr c31
                        clear c31
                        by_cases c32 : ((rd_T135 l0_0 x41_2).f2) = ((rd_T135 l1_0 x41_2).f2)
                        · rw [if_pos c32] at H
                          have c32b0 : (((rd_T135 l0_0 x41_2).f2) == ((rd_T135 l1_0 x41_2).f2)) = true := beq_iff_eq.mpr c32
                          have c32b1 : (((rd_T135 l0_0 x41_2).f2) != ((rd_T135 l1_0 x41_2).f2)) = false := bne_eq_false_iff_eq.mpr c32
                          clear c32
                          by_cases c33 : ((rd_T135 l0_0 x41_2).f3) = ((rd_T135 l1_0 x41_2).f3)
                          · rw [if_pos c33] at H
                            have c33b0 : (((rd_T135 l0_0 x41_2).f3) == ((rd_T135 l1_0 x41_2).f3)) = true := beq_iff_eq.mpr c33
                            have c33b1 : (((rd_T135 l0_0 x41_2).f3) != ((rd_T135 l1_0 x41_2).f3)) = false := bne_eq_false_iff_eq.mpr c33
                            clear c33
                            by_cases c34 : ((rd_T135 l0_0 x41_2).f4) = ((rd_T135 l1_0 x41_2).f4)
                            · rw [if_pos c34] at H
                              have c34b0 : (((rd_T135 l0_0 x41_2).f4) == ((rd_T135 l1_0 x41_2).f4)) = true := beq_iff_eq.mpr c34
                              have c34b1 : (((rd_T135 l0_0 x41_2).f4) != ((rd_T135 l1_0 x41_2).f4)) = false := bne_eq_false_iff_eq.mpr c34
                              clear c34
                              replace H := Option.bind_eq_some_iff.mp H
                              obtain ⟨t128, A350, H⟩ := H
                              replace H : (if t128 = true then (spec_SameState.l0 k2 l0_0 (l0_0.length : Int) (wrap64 (x41_2 + 1)) l1_0 l1_1 l1_2 a1_3) else (some false)) = some r := H
                              have A35 := Aside0.mk A350
                              clear A350
                              by_cases c36 : t128 = true
                              · subst c36
                                have H1 : (spec_SameState.l0 k2 l0_0 (l0_0.length : Int) (wrap64 (x41_2 + 1)) l1_0 l1_1 l1_2 a1_3) = some r := by rw [if_pos rfl] at H; exact H
                                clear H
                                have H := H1
                                clear H1
                                have H' := Aside0.mk H
                                clear H
                                go_wp2_with (first | (go_at_call 105; (with_reducible refine (spec_l3SameNums.calls k2 _ _ ((rd_T135 l0_0 x41_2).f5) _ _ ((rd_T135 l1_0 x41_2).f5) true _ ?side1 ?side2 ?side3 ?side4 A35.out).mono ?_); (case side1 => exact Kd.C_below HR124_5.out (by repeat (first | (with_reducible first|exact HB.out|apply vA_|apply vN_|apply vD_ | refine vS_ ?_ GE120.out | refine vS_ ?_ GE121.out | refine vS_ ?_ GE125.out | refine vS_ ?_ GE127.out) | exact HB.out))); (case side2 => exact HC124_5.out); (case side3 => exact Kd.C_below HR126_5.out (by repeat (first | (with_reducible first|exact HB.out|apply vA_|apply vN_|apply vD_ | refine vS_ ?_ GE120.out | refine vS_ ?_ GE121.out | refine vS_ ?_ GE125.out | refine vS_ ?_ GE127.out) | exact HB.out))); (case side4 => exact HC126_5.out); rintro e w' ⟨rfl, ⟨nd, rfl⟩⟩))
                                go_roundg k2
                                case measure => have := HJ2.out; have := HK2.out; omega
                                case rel => exact ⟨(wrap64 (x41_2 + 1)), (by first | rfl | (simp; done) | (simp [*]; done)), H', ⟨by have := HJ2.out; have := HK2.out; omega⟩, ⟨by (with_reducible repeat first|apply qN_|apply qD_|apply qA_); refine blk_far ?_ NB120_127.out _; (with_reducible repeat first|apply qN_|apply qD_|apply qA_); refine blk_far ?_ NB120_127.out _; (with_reducible repeat first|apply qN_|apply qD_|apply qA_); refine blk_far ?_ NB120_127.out _; (with_reducible repeat first|apply qN_|apply qD_|apply qA_); refine blk_far ?_ NB120_127.out _; (with_reducible repeat first|apply qN_|apply qD_|apply qA_); refine blk_far ?_ NB120_127.out _; (with_reducible repeat first|apply qN_|apply qD_|apply qA_); refine blk_far ?_ NB120_127.out _; (with_reducible repeat first|apply qN_|apply qD_|apply qA_); exact BK120.out⟩, ⟨by (with_reducible repeat first|apply qN_|apply qD_|apply qA_); refine blk_far ?_ NB121_127.out _; (with_reducible repeat first|apply qN_|apply qD_|apply qA_); refine blk_far ?_ NB121_127.out _; (with_reducible repeat first|apply qN_|apply qD_|apply qA_); refine blk_far ?_ NB121_127.out _; (with_reducible repeat first|apply qN_|apply qD_|apply qA_); refine blk_far ?_ NB121_127.out _; (with_reducible repeat first|apply qN_|apply qD_|apply qA_); refine blk_far ?_ NB121_127.out _; (with_reducible repeat first|apply qN_|apply qD_|apply qA_); refine blk_far ?_ NB121_127.out _; (with_reducible repeat first|apply qN_|apply qD_|apply qA_); exact BK121.out⟩, ⟨by repeat (first | (with_reducible first|exact HB.out|apply vA_|apply vN_|apply vD_ | refine vS_ ?_ GE120.out | refine vS_ ?_ GE121.out | refine vS_ ?_ GE125.out | refine vS_ ?_ GE127.out) | exact HB.out)⟩⟩
                              · replace c36 := Bool.eq_false_iff.mpr c36
                                subst c36
                                have H1 : (some false) = some r := by rw [if_neg (show ¬ (false = true) by decide)] at H; exact H
                                clear H
                                have H := H1
                                clear H1
                                obtain rfl := Option.some.inj H
                                go_wp2_with (first | (go_at_call 105; (with_reducible refine (spec_l3SameNums.calls k2 _ _ ((rd_T135 l0_0 x41_2).f5) _ _ ((rd_T135 l1_0 x41_2).f5) false _ ?side1 ?side2 ?side3 ?side4 A35.out).mono ?_); (case side1 => exact Kd.C_below HR124_5.out (by repeat (first | (with_reducible first|exact HB.out|apply vA_|apply vN_|apply vD_ | refine vS_ ?_ GE120.out | refine vS_ ?_ GE121.out | refine vS_ ?_ GE125.out | refine vS_ ?_ GE127.out) | exact HB.out))); (case side2 => exact HC124_5.out); (case side3 => exact Kd.C_below HR126_5.out (by repeat (first | (with_reducible first|exact HB.out|apply vA_|apply vN_|apply vD_ | refine vS_ ?_ GE120.out | refine vS_ ?_ GE121.out | refine vS_ ?_ GE125.out | refine vS_ ?_ GE127.out) | exact HB.out))); (case side4 => exact HC126_5.out); rintro e w' ⟨rfl, ⟨nd, rfl⟩⟩))
                                go_ret
                                exact ⟨by first | rfl | (simp [errW_none, errW_some] <;> rfl) | (simp [*, errW_none, errW_some] <;> rfl), by repeat (first | (with_reducible first|exact HB.out|apply vA_|apply vN_|apply vD_ | refine vS_ ?_ GE120.out | refine vS_ ?_ GE121.out | refine vS_ ?_ GE125.out | refine vS_ ?_ GE127.out) | exact HB.out)⟩
                            · rw [if_neg c34] at H
                              have c34b0 : (((rd_T135 l0_0 x41_2).f4) == ((rd_T135 l1_0 x41_2).f4)) = false := beq_eq_false_iff_ne.mpr c34
                              have c34b1 : (((rd_T135 l0_0 x41_2).f4) != ((rd_T135 l1_0 x41_2).f4)) = true := bne_iff_ne.mpr c34
                              obtain rfl := Option.some.inj H
                              try go_wp2
                              go_ret
                              exact ⟨by first | rfl | (simp [errW_none, errW_some] <;> rfl) | (simp [*, errW_none, errW_some] <;> rfl), by repeat (first | (with_reducible first|exact HB.out|apply vA_|apply vN_|apply vD_ | refine vS_ ?_ GE120.out | refine vS_ ?_ GE121.out | refine vS_ ?_ GE125.out | refine vS_ ?_ GE127.out) | exact HB.out)⟩
                          · rw [if_neg c33] at H
                            have c33b0 : (((rd_T135 l0_0 x41_2).f3) == ((rd_T135 l1_0 x41_2).f3)) = false := beq_eq_false_iff_ne.mpr c33
                            have c33b1 : (((rd_T135 l0_0 x41_2).f3) != ((rd_T135 l1_0 x41_2).f3)) = true := bne_iff_ne.mpr c33
                            obtain rfl := Option.some.inj H
                            try go_wp2
                            go_ret
                            exact ⟨by first | rfl | (simp [errW_none, errW_some] <;> rfl) | (simp [*, errW_none, errW_some] <;> rfl), by repeat (first | (with_reducible first|exact HB.out|apply vA_|apply vN_|apply vD_ | refine vS_ ?_ GE120.out | refine vS_ ?_ GE121.out | refine vS_ ?_ GE125.out | refine vS_ ?_ GE127.out) | exact HB.out)⟩
                        · rw [if_neg c32] at H
                          have c32b0 : (((rd_T135 l0_0 x41_2).f2) == ((rd_T135 l1_0 x41_2).f2)) = false := beq_eq_false_iff_ne.mpr c32
                          have c32b1 : (((rd_T135 l0_0 x41_2).f2) != ((rd_T135 l1_0 x41_2).f2)) = true := bne_iff_ne.mpr c32
                          obtain rfl := Option.some.inj H
                          try go_wp2
                          go_ret
                          exact ⟨by first | rfl | (simp [errW_none, errW_some] <;> rfl) | (simp [*, errW_none, errW_some] <;> rfl), by repeat (first | (with_reducible first|exact HB.out|apply vA_|apply vN_|apply vD_ | refine vS_ ?_ GE120.out | refine vS_ ?_ GE121.out | refine vS_ ?_ GE125.out | refine vS_ ?_ GE127.out) | exact HB.out)⟩
                      · rw [if_neg c31] at H
                        have c31b0 : (((rd_T135 l0_0 x41_2).f1) == ((rd_T135 l1_0 x41_2).f1)) = false := beq_eq_false_iff_ne.mpr c31
                        have c31b1 : (((rd_T135 l0_0 x41_2).f1) != ((rd_T135 l1_0 x41_2).f1)) = true := bne_iff_ne.mpr c31
                        obtain rfl := Option.some.inj H
                        try go_wp2
                        go_ret
                        exact ⟨by first | rfl | (simp [errW_none, errW_some] <;> rfl) | (simp [*, errW_none, errW_some] <;> rfl), by repeat (first | (with_reducible first|exact HB.out|apply vA_|apply vN_|apply vD_ | refine vS_ ?_ GE120.out | refine vS_ ?_ GE121.out | refine vS_ ?_ GE125.out | refine vS_ ?_ GE127.out) | exact HB.out)⟩
                    · rw [if_neg c30] at H
                      have c30b0 : (((rd_T135 l0_0 x41_2).f0) == ((rd_T135 l1_0 x41_2).f0)) = false := beq_eq_false_iff_ne.mpr c30
                      have c30b1 : (((rd_T135 l0_0 x41_2).f0) != ((rd_T135 l1_0 x41_2).f0)) = true := bne_iff_ne.mpr c30
                      obtain rfl := Option.some.inj H
                      try go_wp2
                      go_ret
                      exact ⟨by first | rfl | (simp [errW_none, errW_some] <;> rfl) | (simp [*, errW_none, errW_some] <;> rfl), by repeat (first | (with_reducible first|exact HB.out|apply vA_|apply vN_|apply vD_ | refine vS_ ?_ GE120.out | refine vS_ ?_ GE121.out | refine vS_ ?_ GE125.out | refine vS_ ?_ GE127.out) | exact HB.out)⟩
                  · rw [if_neg c29] at H
                    exact absurd H (by simp)
                · rw [if_neg c28] at H
                  exact absurd H (by simp)
              · rw [if_neg c27] at H
                exact absurd H (by simp)
            · rw [if_neg c26] at H
              have c26b0 : decide (x41_2 < (l0_0.length : Int)) = false := decide_eq_false c26
              clear c26
              obtain rfl := Option.some.inj H
              go_wp2
              go_ret
              exact ⟨by first | rfl | (simp [errW_none, errW_some] <;> rfl) | (simp [*, errW_none, errW_some] <;> rfl), by repeat (first | (with_reducible first|exact HB.out|apply vA_|apply vN_|apply vD_ | refine vS_ ?_ GE120.out | refine vS_ ?_ GE121.out) | exact HB.out)⟩

/-! ### laws_toIntS: function 27 -/
def laws_toIntS.l0 : Nat → List Int → List Int → Int → Option (List Int)
  | 0, _, _, _ => none
  | k + 1, x0, x3, x4 => if x4 < (x0.length : Int) then (if 0 ≤ x4 then (if x4 < (x3.length : Int) then (laws_toIntS.l0 k x0 (x3.set (x4 : Int).toNat (rd x0 x4)) (wrap64 (x4 + 1))) else (none)) else (none)) else (some x3)
def laws_toIntS.f (k : Nat) (l0 : List Int) : Option (List Int) := if 0 ≤ (l0.length : Int) then (if ((l0.length : Int) : Int).toNat ≤ 35184372088832 then (laws_toIntS.l0 k l0 (List.replicate ((l0.length : Int) : Int).toNat 0) 0) else (none)) else (none)
theorem laws_toIntS.mono_l : ∀ k, (∀ y0 y1 y2, LeO (laws_toIntS.l0 k y0 y1 y2) (laws_toIntS.l0 (k + 1) y0 y1 y2))
  | 0 => fun _ _ _ r h => by simp [laws_toIntS.l0] at h
  | k + 1 => by
    have ih0 := laws_toIntS.mono_l k
    · intro y0 y1 y2
      unfold laws_toIntS.l0
      repeat' first
      | (with_reducible exact ih0 _ _ _)
      | (with_reducible exact LeO.refl _)
      | (with_reducible exact LeO.none _)
      | (with_reducible refine LeO.ite ?_ ?_)
      | (with_reducible refine LeO.bind ?_ (fun _ => ?_))
      | exact ih0 _ _ _
      | exact LeO.none _
      | refine LeO.ite ?_ ?_
      | refine LeO.bind ?_ (fun _ => ?_)
theorem laws_toIntS.mono : ∀ a0 k, LeO (laws_toIntS.f k a0) (laws_toIntS.f (k + 1) a0) := by
  intro a0 k
  have ih0 := laws_toIntS.mono_l k
  unfold laws_toIntS.f
  repeat' first
      | (with_reducible exact ih0 _ _ _)
      | (with_reducible exact LeO.refl _)
      | (with_reducible exact LeO.none _)
      | (with_reducible refine LeO.ite ?_ ?_)
      | (with_reducible refine LeO.bind ?_ (fun _ => ?_))
      | exact ih0 _ _ _
      | exact LeO.none _
      | refine LeO.ite ?_ ?_
      | refine LeO.bind ?_ (fun _ => ?_)
set_option maxHeartbeats 8000000 in
set_option maxRecDepth 100000 in
theorem laws_toIntS.calls (k : Nat) (A0 : Option Addr) (c0 : Nat) (l0 : List Int) (r : List Int) (w : World) (hr0 : Kd.C (Kd.int .i64) w A0 l0.length l0) (hc0 : l0.length ≤ c0) (h : laws_toIntS.f k l0 = some r) :
    Calls Try.prog 27 #[.slice A0 l0.length c0] w fun e w' => ∃ v0_ : Value, e = .returned (v0_) ∧ Kd.R (Kd.int .i64) 3 w' w.heap.size (fun _ => True) v0_ r ∧ Below w.heap.size w w' := by
  have HR0 := Aside0.mk hr0
  have HC0 := Aside0.mk hc0
  clear hr0 hc0
  have HB := Aside0.mk (Below.refl w.heap.size w)
  have H : (if 0 ≤ (l0.length : Int) then (if ((l0.length : Int) : Int).toNat ≤ 35184372088832 then (laws_toIntS.l0 k l0 (List.replicate ((l0.length : Int) : Int).toNat 0) 0) else (none)) else (none)) = some r := h
  clear h
  by_cases c2 : 0 ≤ (l0.length : Int)
  · rw [if_pos c2] at H
    have c2b0 := eq_true c2
    have c2b1 : decide (0 ≤ (l0.length : Int)) = true := decide_eq_true c2
    clear c2
    by_cases c3 : ((l0.length : Int) : Int).toNat ≤ 35184372088832
    · rw [if_pos c3] at H
      have c3b0 := eq_true c3
      have c3b1 : decide (((l0.length : Int) : Int).toNat ≤ 35184372088832) = true := decide_eq_true c3
      clear c3
      obtain ⟨y129, hy129⟩ : ∃ y_ : List Int, y_ = (List.replicate ((l0.length : Int) : Int).toNat 0) := ⟨_, rfl⟩
      replace H : (laws_toIntS.l0 k l0 y129 0) = some r := by first | (rw [hy129]; with_reducible exact H) | (have H2_ := (Option.bind_some _ _).symm.trans H; rw [hy129]; with_reducible exact H2_) | (have H2_ := (Option.bind_some _ _).symm.trans H; with_reducible exact H2_) | with_reducible exact H | (rw [hy129]; exact H) | exact H
      have Ny129 := Aside0.mk hy129
      clear hy129
      have H' := Aside0.mk H
      clear H
      go_enter Try.func27, Try.ntmps27
      go_wp2_with (first | ((with_reducible refine gate_dst (N := 7) rfl ?_); refine Kd.R_make (Kd.int .i64) _ 3 rfl (N := 7) rfl 36 _ _ rfl (l0.length : Int) rfl rfl Try.underlying36 (.int .i64 0) 8 info3 rfl (by decide) (by omega) 0 (ok := fun _ => True) (okp := fun _ => True) rfl (fun _ hk => hk) trivial (of_decide_eq_true (by first | (with_reducible assumption) | assumption)) (Nat.le_trans (Nat.mul_le_mul_right _ (of_decide_eq_true (by first | (with_reducible assumption) | assumption) : (l0.length : Int).toNat ≤ 35184372088832)) (by omega)) (Below.refl _ _) (Nat.le_refl _) ?_; intro v130 w4 ho5 hb hg_ hnew_; clear hg_ hnew_; (first | rw [← Ny129.out] at ho5 | (simp only [Int.reduceToNat] at ho5; rw [← Ny129.out] at ho5)); have n0_ := Aside0.mk (Kd.R_lower ho5 (below_size (by repeat (first | (with_reducible first|exact HB.out|apply vA_|apply vN_|apply vD_) | exact HB.out)))); have n1_ := Aside0.mk (below_step (by repeat (first | (with_reducible first|exact HB.out|apply vA_|apply vN_|apply vD_) | exact HB.out)) hb); clear HB; have HO131 := n0_; have HB := n1_; clear n0_ n1_; clear hb ho5))
      go_loopg [4] k (fun kq v4 w' => ∃ (x3_1 : List Int) (x4_1 : Int), v4 = .int .i64 x4_1 ∧ Aside0 (laws_toIntS.l0 kq l0 x3_1 x4_1 = some r) ∧ Aside0 (kq ≤ k) ∧ Aside0 (Kd.R (Kd.int .i64) 3 w' w.heap.size (fun _ => True) v130 x3_1) ∧ Aside0 (Below w.heap.size w w'))
      case atStart => exact ⟨(y129), (0), (by first | rfl | (simp; done) | (simp [*]; done)), H', ⟨Nat.le_refl _⟩, ⟨by (with_reducible repeat first|apply rA_|apply rN_|apply rD_); exact HO131.out⟩, ⟨by repeat (first | (with_reducible first|exact HB.out|apply vA_|apply vN_|apply vD_) | exact HB.out)⟩⟩
      case round =>
        clear H'
        try clear c2
        try clear c2b0
        try clear c2b1
        try clear p2
        try clear c3
        try clear c3b0
        try clear c3b1
        obtain ⟨x3_1, x4_1, rfl, HA, HK1, HO_3, HB⟩ := hrel
        cases gk with
        | zero => exact absurd HA.out (by simp [laws_toIntS.l0])
        | succ k1 =>
          have H := HA.out
          clear HA
          simp only [laws_toIntS.l0] at H
          by_cases c6 : x4_1 < (l0.length : Int)
          · rw [if_pos c6] at H
            have c6b0 : decide (x4_1 < (l0.length : Int)) = true := decide_eq_true c6
            clear c6
            by_cases c7 : 0 ≤ x4_1
            · rw [if_pos c7] at H
              have c7b0 : decide (0 ≤ x4_1) = true := decide_eq_true c7
              clear c7
              by_cases c8 : x4_1 < (x3_1.length : Int)
              · rw [if_pos c8] at H
                have c8b0 : decide (x4_1 < (x3_1.length : Int)) = true := decide_eq_true c8
                clear c8
                obtain ⟨y133, hy133⟩ : ∃ y_ : List Int, y_ = (x3_1.set (x4_1 : Int).toNat (rd l0 x4_1)) := ⟨_, rfl⟩
                replace H : (laws_toIntS.l0 k1 l0 y133 (wrap64 (x4_1 + 1))) = some r := by first | (rw [hy133]; with_reducible exact H) | (have H2_ := (Option.bind_some _ _).symm.trans H; rw [hy133]; with_reducible exact H2_) | (have H2_ := (Option.bind_some _ _).symm.trans H; with_reducible exact H2_) | with_reducible exact H | (rw [hy133]; exact H) | exact H
                have Ny133 := Aside0.mk hy133
                clear hy133
                have H' := Aside0.mk H
                clear H
                have p132 : 0 ≤ (x4_1 : Int) := of_decide_eq_true (by first | (with_reducible assumption) | assumption)
                have q132 : x4_1 < (l0.length : Int) := of_decide_eq_true (by first | (with_reducible assumption) | assumption)
                obtain ⟨ad132, e132, hx132_0⟩ := Kd.at_int HR0.out x4_1 p132 q132
                cases e132
                replace hx132_0 := (HB.out.cell (World.block_lt_of_cell? w _ hx132_0)).trans hx132_0
                replace p132 := eq_true p132
                replace q132 := eq_true q132
                have p9 : 0 ≤ (x4_1 : Int) := of_decide_eq_true (by first | (with_reducible assumption) | assumption)
                have q9 : (x4_1 : Int) < ((x3_1.length : Int) : Int) := of_decide_eq_true (by first | (with_reducible assumption) | assumption)
                obtain ⟨go9, co9, eo9, gb9, gl9, cl9, HG9⟩ := Kd.R_form HO_3.out (by omega)
                (first | cases eo9 | (injection eo9 with ea_ en_ ec_; (first | subst ea_ | (injection ea_ with ea_; subst ea_)); subst ec_; clear en_))
                have GB9 := Aside0.mk gb9
                have GG9 := Aside0.mk HG9
                clear gb9 gl9 HG9
                obtain ⟨hx9_0, hf9_0⟩ := Kd.R_celln 0 HO_3.out (x4_1 : Int) p9 q9
                replace p9 := eq_true p9
                replace q9 := eq_true q9
                have HP10 := Kd.R_putg HO_3.out (x4_1 : Int) (rd l0 x4_1)
                go_wp2_with (first | ((with_reducible refine gate_store (t := 3) (p := 20) rfl ?_); refine store_event (t := 3) (p := 20) (v := ?vo_w11) (w1 := (wr.setCell ⟨go9, (x4_1 : Int).toNat, none⟩ (.int .i64 (rd l0 x4_1)))) ?hg ?ho ?hn ?hr ?_; (case ho => rfl); (case hg => rfl); (case hn => rfl); (case hr => first | (go_simp; done) | (go_simp; rfl)); intro w11 hw; have hg : wr.grownBy w11 (some go9) := (by rw [hw]; exact HP10.2); have hp_ : Kd.R (Kd.int .i64) 3 w11 w.heap.size (fun _ => True) (.slice (some ⟨go9, 0, none⟩) x3_1.length co9) y133 := (by rw [hw, Ny133.out]; exact HP10.1); clear HP10; have n0_ := Aside0.mk (hp_); have n1_ := Aside0.mk ((by rw [hw]; exact below_set (HB.out) GB9.out : Below w.heap.size w w11)); clear HO_3; clear HB; have HO_3 := n0_; have HB := n1_; clear n0_ n1_; clear hg hw hp_))
                go_roundg k1
                case measure => have := HK1.out; omega
                case rel => exact ⟨(y133), (wrap64 (x4_1 + 1)), (by first | rfl | (simp; done) | (simp [*]; done)), H', ⟨by have := HK1.out; omega⟩, ⟨by (with_reducible repeat first|apply rA_|apply rN_|apply rD_); exact HO_3.out⟩, ⟨by repeat (first | (with_reducible first|exact HB.out|apply vA_|apply vN_|apply vD_) | exact HB.out)⟩⟩
              · rw [if_neg c8] at H
                exact absurd H (by simp)
            · rw [if_neg c7] at H
              exact absurd H (by simp)
          · rw [if_neg c6] at H
            have c6b0 : decide (x4_1 < (l0.length : Int)) = false := decide_eq_false c6
            clear c6
            obtain rfl := Option.some.inj H
            go_wp2
            go_ret
            exact ⟨_, by first | rfl | (simp [errW_none, errW_some] <;> rfl) | (simp [*, errW_none, errW_some] <;> rfl), by (with_reducible repeat first|apply rA_|apply rN_|apply rD_); exact HO_3.out, by repeat (first | (with_reducible first|exact HB.out|apply vA_|apply vN_|apply vD_) | exact HB.out)⟩
    · rw [if_neg c3] at H
      exact absurd H (by simp)
  · rw [if_neg c2] at H
    exact absurd H (by simp)

end Go.Proofs.Yteaahcofgnghaaa.GSameState

-- Printed by wip/tools/print2.py out of the translation: walks and plain functions; Lean checks them.
import Derived.Test.YtpfbiopcfbokbaaGNewPairsx0
import Derived.Test.YtpfbiopcfbokbaaGNewPairsx1
import Derived.Test.YtpfbiopcfbokbaaGNewPairsx2
namespace Go.Proofs.Ytpfbiopcfbokbaa.GNewPairs
open Go.RowKit Go.Proofs.YtpfbiopcfbokbaaW.PrintWords Go.Proofs.YtpfbiopcfbokbaaW.PrintLast Go.Proofs.YtpfbiopcfbokbaaW.PrintMore
attribute [local go_sem] max2_int min2_int max_two min_two max_three min_three max_four min_four   -- for this text's walks alone
set_option linter.unusedVariables false
set_option linter.unusedSimpArgs false

attribute [local go_sem high] eqA105
/-! ### spec_l11Add: function 121 -/
def spec_l11Add.l0 : Nat → List (S105) → List (S105) → Bool → List (S105) → Int → Int → Int → Int → Int → Option ((List (S105)))
  | 0, _, _, _, _, _, _, _, _, _ => none
  | k + 1, x0, x5, x6, x9, x10, x11, x117000, x117001, x117002 => if x11 < x10 then (if 0 ≤ x11 then (if x11 < (x9.length : Int) then (if (((rd_T105 x9 x11).f0) == x117000 && (((rd_T105 x9 x11).f1) == x117001 && (((rd_T105 x9 x11).f2) == x117002))) = true then (some x0) else (if x6 = true then (if x5.length < 5864062014805 then (spec_l11Add.l0 k x0 (x5 ++ [(⟨(rd_T105 x9 x11).f0, (rd_T105 x9 x11).f1, (rd_T105 x9 x11).f2⟩ : S105)]) x6 x9 x10 (wrap64 (x11 + 1)) x117000 x117001 x117002) else (none)) else ((spec_l11Key.f x117000 x117001 x117002).bind fun t125 => ((spec_l11Key.f ((rd_T105 x9 x11).f0) ((rd_T105 x9 x11).f1) ((rd_T105 x9 x11).f2)).bind fun t126 => (if t125 < t126 then (if x5.length < 5864062014805 then ((some (x5 ++ [(⟨x117000, x117001, x117002⟩ : S105)] : List (S105))).bind fun y127 => (if y127.length < 5864062014805 then (spec_l11Add.l0 k x0 (y127 ++ [(⟨(rd_T105 x9 x11).f0, (rd_T105 x9 x11).f1, (rd_T105 x9 x11).f2⟩ : S105)]) true x9 x10 (wrap64 (x11 + 1)) x117000 x117001 x117002) else (none))) else (none)) else (if x5.length < 5864062014805 then (spec_l11Add.l0 k x0 (x5 ++ [(⟨(rd_T105 x9 x11).f0, (rd_T105 x9 x11).f1, (rd_T105 x9 x11).f2⟩ : S105)]) x6 x9 x10 (wrap64 (x11 + 1)) x117000 x117001 x117002) else (none))))))) else (none)) else (none)) else (if x6 = true then (some x5) else (if x5.length < 5864062014805 then (some (x5 ++ [(⟨x117000, x117001, x117002⟩ : S105)])) else (none)))
def spec_l11Add.f (k : Nat) (l0 : List (S105)) (a1_0 : Int) (a1_1 : Int) (a1_2 : Int) : Option ((List (S105))) := spec_l11Add.l0 k l0 ([] : List (S105)) false l0 (l0.length : Int) 0 a1_0 a1_1 a1_2
theorem spec_l11Add.mono_l : ∀ k, (∀ y0 y1 y2 y3 y4 y5 y6 y7 y8, LeO (spec_l11Add.l0 k y0 y1 y2 y3 y4 y5 y6 y7 y8) (spec_l11Add.l0 (k + 1) y0 y1 y2 y3 y4 y5 y6 y7 y8))
  | 0 => fun _ _ _ _ _ _ _ _ _ r h => by simp [spec_l11Add.l0] at h
  | k + 1 => by
    have ih0 := spec_l11Add.mono_l k
    · intro y0 y1 y2 y3 y4 y5 y6 y7 y8
      unfold spec_l11Add.l0
      repeat' first
      | (with_reducible exact ih0 _ _ _ _ _ _ _ _ _)
      | (with_reducible exact LeO.refl _)
      | (with_reducible exact LeO.none _)
      | (with_reducible refine LeO.ite ?_ ?_)
      | (with_reducible refine LeO.bind ?_ (fun _ => ?_))
      | exact ih0 _ _ _ _ _ _ _ _ _
      | exact LeO.none _
      | refine LeO.ite ?_ ?_
      | refine LeO.bind ?_ (fun _ => ?_)
theorem spec_l11Add.mono : ∀ a0 a1 a2 a3 k, LeO (spec_l11Add.f k a0 a1 a2 a3) (spec_l11Add.f (k + 1) a0 a1 a2 a3) := by
  intro a0 a1 a2 a3 k
  have ih0 := spec_l11Add.mono_l k
  unfold spec_l11Add.f
  repeat' first
      | (with_reducible exact ih0 _ _ _ _ _ _ _ _ _)
      | (with_reducible exact LeO.refl _)
      | (with_reducible exact LeO.none _)
      | (with_reducible refine LeO.ite ?_ ?_)
      | (with_reducible refine LeO.bind ?_ (fun _ => ?_))
      | exact ih0 _ _ _ _ _ _ _ _ _
      | exact LeO.none _
      | refine LeO.ite ?_ ?_
      | refine LeO.bind ?_ (fun _ => ?_)
def spec_l11Add.T8 : Bool × List (List Nat × List Nat) := (true, [([], []), ([0], [0]), ([1], [1]), ([2], [2]), ([3, 2, 2], [2, 3]), ([2], [2]), ([5, 4, 2], [2, 5]), ([4, 6, 2], [2, 4, 6]), ([2, 7], [2, 7])])
def spec_l11Add.B8 : List Nat := [0, 1, 3, 7, 15, 7, 63, 127, 255]
theorem spec_l11Add.tab8 : rtab .any (opsOf Try.f121 8) = spec_l11Add.T8 := by kernel_rfl
theorem spec_l11Add.bits8 : waitsOk spec_l11Add.T8.2 spec_l11Add.B8 = true := by kernel_rfl
set_option maxHeartbeats 8000000 in
set_option maxRecDepth 100000 in
theorem spec_l11Add.calls (k : Nat) (P0_ : Nat → Prop) (A0 : Option Addr) (c0 : Nat) (l0 : List (S105)) (a1_0 : Int) (a1_1 : Int) (a1_2 : Int) (r : List (S105)) (w : World) (hs0 : Kd.V k105 105 w w.heap.size (fun k_ => P0_ k_) (.slice A0 l0.length c0) l0) (h : spec_l11Add.f k l0 a1_0 a1_1 a1_2 = some r) :
    Calls Try.prog 121 #[.slice A0 l0.length c0, .agg #[.int .i64 a1_0, .int .i64 a1_1, .int .i64 a1_2]] w fun e w' => ∃ v0_ : Value, e = .returned (v0_) ∧ Kd.V k105 105 w' w.heap.size (fun k_ => (P0_ k_ ∨ w.heap.size ≤ k_)) v0_ r ∧ Below w.heap.size w w' := by
  have hu105 := Try.underlying105
  have HO0 := Aside0.mk (show Kd.V k105 105 w w.heap.size (fun k_ => (P0_ k_ ∨ w.heap.size ≤ k_)) (.slice A0 l0.length c0) l0 from Kd.V_mono hs0 (fun k_ hk => .inl hk))
  have HB := Aside0.mk (Below.refl w.heap.size w)
  have H : (spec_l11Add.l0 k l0 ([] : List (S105)) false l0 (l0.length : Int) 0 a1_0 a1_1 a1_2) = some r := h
  clear h
  have H' := Aside0.mk H
  clear H
  go_enter Try.func121, Try.ntmps121
  go_wp2_with (first | ((with_reducible refine gate_dst (N := 3) rfl ?_); refine box_event ?hg (N := 3) ?hd (cs := #[.int .i64 a1_0, .int .i64 a1_1, .int .i64 a1_2]) (t := 105) ?hr ?_; (case hd => rfl); (case hg => rfl); (case hr => first | (go_simp; done) | (go_simp; rfl)); intro gb116 hg w3 hbox hb; have n0_ := Aside0.mk (Kd.V_below (Kd.V_elderB (by (with_reducible repeat (first | apply Kd.V_alloc | apply Kd.V_drewN | apply Kd.V_drew)); exact HO0.out) gb116 (Nat.le_of_eq hg.symm)) hb); have n1_ := Aside0.mk (below_step (by repeat (first | (with_reducible first|exact HB.out|apply vA_|apply vN_|apply vD_) | exact HB.out)) hb); have n2_ := Aside0.mk (hbox); have n3_ := Aside0.mk ((by rw [hg]; exact (below_size (by repeat (first | (with_reducible first|exact HB.out|apply vA_|apply vN_|apply vD_) | exact HB.out))) : w.heap.size ≤ gb116)); have n4_ := Aside0.mk ((by rw [hg]; exact (below_size (by repeat (first | (with_reducible first|exact HB.out|apply vA_|apply vN_|apply vD_) | exact HB.out))) : w.heap.size ≤ gb116)); clear HO0; clear HB; have HO0 := n0_; have HB := n1_; have BK116 := n2_; have GW116 := n3_; have GE116 := n4_; clear n0_ n1_ n2_ n3_ n4_; clear hb hbox hg))
  go_loopg [5, 6, 11] k (fun kq v5 v6 v11 w' => ∃ (x5_1 : List (S105)) (x6_1 : Bool) (x11_1 : Int), v6 = .bool x6_1 ∧ v11 = .int .i64 x11_1 ∧ Aside0 (spec_l11Add.l0 kq l0 x5_1 x6_1 l0 (l0.length : Int) x11_1 a1_0 a1_1 a1_2 = some r) ∧ Aside0 (kq ≤ k) ∧ Aside0 (Kd.V k105 105 w' w.heap.size (fun k_ => (P0_ k_ ∨ w.heap.size ≤ k_) ∧ some k_ ≠ (v5 : Value).ownBlock ∧ k_ ≠ gb116) (.slice A0 l0.length c0) l0) ∧ Aside0 (Kd.R k105 105 w' w.heap.size (fun k_ => (w.heap.size ≤ k_) ∧ k_ ≠ gb116) v5 x5_1) ∧ Aside0 (Kd.V k105 105 w' w.heap.size (fun k_ => (P0_ k_ ∨ w.heap.size ≤ k_) ∧ some k_ ≠ (v5 : Value).ownBlock ∧ k_ ≠ gb116) (.slice A0 l0.length c0) l0) ∧ Aside0 (w'.heap[gb116]? = some (.cells #[.int .i64 a1_0, .int .i64 a1_1, .int .i64 a1_2] 105 (0, 0))) ∧ Aside0 (Below w.heap.size w w'))
  case atStart => exact ⟨(([] : List (S105))), (false), (0), (by first | rfl | (simp; done) | (simp [*]; done)), (by first | rfl | (simp; done) | (simp [*]; done)), H', ⟨Nat.le_refl _⟩, ⟨by (with_reducible repeat (first | apply Kd.V_alloc | apply Kd.V_drewN | apply Kd.V_drew)); exact Kd.V_mono HO0.out (fun _ hk => ⟨hk.1, ⟨(by simp [Value.ownBlock]), hk.2⟩⟩)⟩, ⟨by first | exact Kd.R_nil _ _ _ _ _ | exact Kd.N_nil _ _ _ _ _ | exact Kd.V_nil _ _ _ _ _ | exact Kd.Q_nil _ _ _ _ _ | exact Kd.S_nil _ _ _ _ _⟩, ⟨by (with_reducible repeat (first | apply Kd.V_alloc | apply Kd.V_drewN | apply Kd.V_drew)); exact Kd.V_mono HO0.out (fun _ hk => ⟨hk.1, ⟨(by simp [Value.ownBlock]), hk.2⟩⟩)⟩, ⟨by (with_reducible repeat first|apply qN_|apply qD_|apply qA_); exact BK116.out⟩, ⟨by repeat (first | (with_reducible first|exact HB.out|apply vA_|apply vN_|apply vD_ | refine vS_ ?_ GE116.out) | exact HB.out)⟩⟩
  case round =>
    clear H'
    try clear c1
    try clear p2
    obtain ⟨x5_1, x6_1, x11_1, rfl, rfl, HA, HK1, HO_0, HO_5, HO_9, BK116, HB⟩ := hrel
    cases gk with
    | zero => exact absurd HA.out (by simp [spec_l11Add.l0])
    | succ k1 =>
      have H := HA.out
      clear HA
      simp only [spec_l11Add.l0] at H
      by_cases c4 : x11_1 < (l0.length : Int)
      · rw [if_pos c4] at H
        have c4b0 : decide (x11_1 < (l0.length : Int)) = true := decide_eq_true c4
        clear c4
        by_cases c5 : 0 ≤ x11_1
        · rw [if_pos c5] at H
          have c5b0 : decide (0 ≤ x11_1) = true := decide_eq_true c5
          clear c5
          by_cases c6 : x11_1 < (l0.length : Int)
          · rw [if_pos c6] at H
            have c6b0 : decide (x11_1 < (l0.length : Int)) = true := decide_eq_true c6
            clear c6
            by_cases c7 : (((rd_T105 l0 x11_1).f0) == a1_0 && (((rd_T105 l0 x11_1).f1) == a1_1 && (((rd_T105 l0 x11_1).f2) == a1_2))) = true
            · rw [if_pos c7] at H
              have c7b0 : (((rd_T105 l0 x11_1).f0) == a1_0 && (((rd_T105 l0 x11_1).f1) == a1_1 && (((rd_T105 l0 x11_1).f2) == a1_2))) = true := c7
              (try (have c7b1 : decide (((rd_T105 l0 x11_1).f0) = a1_0 && (((rd_T105 l0 x11_1).f1) == a1_1 && (((rd_T105 l0 x11_1).f2) == a1_2))) = true := by simpa using c7))
              (try (have c7b2 : (((rd_T105 l0 x11_1).f0) == a1_0 && (((rd_T105 l0 x11_1).f1) == a1_1 && (((rd_T105 l0 x11_1).f2) == a1_2))) = true := by simpa using c7))
              clear c7
              obtain rfl := Option.some.inj H
              have p120 : 0 ≤ (x11_1 : Int) := of_decide_eq_true (by first | (with_reducible assumption) | assumption)
              have q120 : x11_1 < (l0.length : Int) := of_decide_eq_true (by first | (with_reducible assumption) | assumption)
              obtain ⟨ad120, e120, hx120_0, hx120_1, hx120_2⟩ := at_T105 (Kd.V_reads' HO_9.out).2.2 x11_1 p120 q120
              cases e120
              replace p120 := eq_true p120
              replace q120 := eq_true q120
              go_wp2_with (first | ((with_reducible refine gate_dst (N := 8) rfl ?_); refine box_event ?hg (N := 8) ?hd (cs := #[.int .i64 0, .int .i64 0, .int .i64 0]) (t := 105) ?hr ?_; (case hd => rfl); (case hg => rfl); (case hr => first | (go_simp; done) | (go_simp; rfl)); intro gb121 hg w8 hbox hb; have n0_ := Aside0.mk (Kd.V_below (Kd.V_elderB (by (with_reducible repeat (first | apply Kd.V_alloc | apply Kd.V_drewN | apply Kd.V_drew)); exact HO_0.out) gb121 (Nat.le_of_eq hg.symm)) hb); have n1_ := Aside0.mk (Kd.R_below (Kd.R_elderB (by (with_reducible repeat first|apply rA_|apply rN_|apply rD_); exact HO_5.out) gb121 (Nat.le_of_eq hg.symm)) hb); have n2_ := Aside0.mk (Kd.V_below (Kd.V_elderB (by (with_reducible repeat (first | apply Kd.V_alloc | apply Kd.V_drewN | apply Kd.V_drew)); exact HO_9.out) gb121 (Nat.le_of_eq hg.symm)) hb); have n3_ := Aside0.mk (blk_below (by (with_reducible repeat first|apply qN_|apply qD_|apply qA_); exact BK116.out) hb); have n4_ := Aside0.mk (below_step (by repeat (first | (with_reducible first|exact HB.out|apply vA_|apply vN_|apply vD_ | refine vS_ ?_ GE116.out) | exact HB.out)) hb); have n5_ := Aside0.mk (hbox); have n6_ := Aside0.mk ((by rw [hg]; exact (below_size (by repeat (first | (with_reducible first|exact HB.out|apply vA_|apply vN_|apply vD_ | refine vS_ ?_ GE116.out) | exact HB.out))) : w.heap.size ≤ gb121)); have n7_ := Aside0.mk ((by rw [hg]; exact (below_size (by repeat (first | (with_reducible first|exact HB.out|apply vA_|apply vN_|apply vD_ | refine vS_ ?_ GE116.out) | exact HB.out))) : w.heap.size ≤ gb121)); have n8_ := Aside0.mk ((by rw [hg]; exact Nat.ne_of_lt (blk_lt (g := gb116) (o := .cells #[.int .i64 a1_0, .int .i64 a1_1, .int .i64 a1_2] 105 (0, 0)) (by (with_reducible repeat first|apply qN_|apply qD_|apply qA_); exact BK116.out)) : gb116 ≠ gb121)); have n9_ := Aside0.mk ((by rw [hg]; exact Nat.ne_of_gt (blk_lt (g := gb116) (o := .cells #[.int .i64 a1_0, .int .i64 a1_1, .int .i64 a1_2] 105 (0, 0)) (by (with_reducible repeat first|apply qN_|apply qD_|apply qA_); exact BK116.out)) : gb121 ≠ gb116)); clear HO_0; clear HO_5; clear HO_9; clear BK116; clear HB; have HO_0 := n0_; have HO_5 := n1_; have HO_9 := n2_; have BK116 := n3_; have HB := n4_; have BK121 := n5_; have GW121 := n6_; have GE121 := n7_; have NB116_121 := n8_; have NB121_116 := n9_; clear n0_ n1_ n2_ n3_ n4_ n5_ n6_ n7_ n8_ n9_; clear hb hbox hg; have hnb9 := NB121_116.out; have hnc9 := NB116_121.out; have hcz10_0 : w8.cell? ⟨gb121, 0, none⟩ = some (.int .i64 0) := (blk_cell BK121.out 0).trans rfl; have hcz10_1 : w8.cell? ⟨gb121, 1, none⟩ = some (.int .i64 0) := (blk_cell BK121.out 1).trans rfl; have hcz10_2 : w8.cell? ⟨gb121, 2, none⟩ = some (.int .i64 0) := (blk_cell BK121.out 2).trans rfl; have hfz10_0 := blk_frozen BK121.out 0; have hfz10_1 := blk_frozen BK121.out 1; have hfz10_2 := blk_frozen BK121.out 2; have hcz11_0 : w8.cell? ⟨gb116, 0, none⟩ = some (.int .i64 a1_0) := (blk_cell BK116.out 0).trans rfl; have hcz11_1 : w8.cell? ⟨gb116, 1, none⟩ = some (.int .i64 a1_1) := (blk_cell BK116.out 1).trans rfl; have hcz11_2 : w8.cell? ⟨gb116, 2, none⟩ = some (.int .i64 a1_2) := (blk_cell BK116.out 2).trans rfl; have hfz11_0 := blk_frozen BK116.out 0; have hfz11_1 := blk_frozen BK116.out 1; have hfz11_2 := blk_frozen BK116.out 2))
              go_ret
              exact ⟨_, by first | rfl | (simp [errW_none, errW_some] <;> rfl) | (simp [*, errW_none, errW_some] <;> rfl), by (with_reducible repeat (first | apply Kd.V_alloc | apply Kd.V_drewN | apply Kd.V_drew)); exact Kd.V_mono (Kd.V_far (p := ⟨gb121, 2, none⟩) (Kd.V_far (p := ⟨gb121, 1, none⟩) (Kd.V_far (p := ⟨gb121, 0, none⟩) (Kd.V_mono HO_0.out (fun k_ hk => (⟨hk, hk.2⟩ : _ ∧ k_ ≠ gb121))) (fun _ hk => hk.2) (.int .i64 ((rd_T105 l0 x11_1).f0))) (fun _ hk => hk.2) (.int .i64 ((rd_T105 l0 x11_1).f1))) (fun _ hk => hk.2) (.int .i64 ((rd_T105 l0 x11_1).f2))) (fun _ hk => hk.1.1.1), by repeat (first | (with_reducible first|exact HB.out|apply vA_|apply vN_|apply vD_ | refine vS_ ?_ GE116.out | refine vS_ ?_ GE121.out) | exact HB.out)⟩
            · rw [if_neg c7] at H
              have c7b0 : (((rd_T105 l0 x11_1).f0) == a1_0 && (((rd_T105 l0 x11_1).f1) == a1_1 && (((rd_T105 l0 x11_1).f2) == a1_2))) = false := by simpa using c7
              (try (have c7b1 : decide (((rd_T105 l0 x11_1).f0) = a1_0 && (((rd_T105 l0 x11_1).f1) == a1_1 && (((rd_T105 l0 x11_1).f2) == a1_2))) = false := by simpa using c7))
              (try (have c7b2 : (((rd_T105 l0 x11_1).f0) == a1_0 && (((rd_T105 l0 x11_1).f1) == a1_1 && (((rd_T105 l0 x11_1).f2) == a1_2))) = false := by simpa using c7))
              (try (have c7b3 : ¬ (((rd_T105 l0 x11_1).f0) = a1_0 && (((rd_T105 l0 x11_1).f1) == a1_1 && (((rd_T105 l0 x11_1).f2) == a1_2))) := by simpa using c7))
              clear c7
              by_cases c12 : x6_1 = true
              · subst c12
                have H1 : (if x5_1.length < 5864062014805 then (spec_l11Add.l0 k1 l0 (x5_1 ++ [(⟨(rd_T105 l0 x11_1).f0, (rd_T105 l0 x11_1).f1, (rd_T105 l0 x11_1).f2⟩ : S105)]) true l0 (l0.length : Int) (wrap64 (x11_1 + 1)) a1_0 a1_1 a1_2) else (none)) = some r := by rw [if_pos rfl] at H; exact H
                clear H
                have H := H1
                clear H1
                by_cases c13 : x5_1.length < 5864062014805
                · rw [if_pos c13] at H
                  have LMc13 := Aside0.mk c13
                  clear c13
                  obtain ⟨y122, hy122⟩ : ∃ y_ : List (S105), y_ = (x5_1 ++ [(⟨(rd_T105 l0 x11_1).f0, (rd_T105 l0 x11_1).f1, (rd_T105 l0 x11_1).f2⟩ : S105)]) := ⟨_, rfl⟩
                  replace H : (spec_l11Add.l0 k1 l0 y122 true l0 (l0.length : Int) (wrap64 (x11_1 + 1)) a1_0 a1_1 a1_2) = some r := by first | (rw [hy122]; with_reducible exact H) | (have H2_ := (Option.bind_some _ _).symm.trans H; rw [hy122]; with_reducible exact H2_) | (have H2_ := (Option.bind_some _ _).symm.trans H; with_reducible exact H2_) | with_reducible exact H | (rw [hy122]; exact H) | exact H
                  have Ny122 := Aside0.mk hy122
                  clear hy122
                  have H' := Aside0.mk H
                  clear H
                  have p120 : 0 ≤ (x11_1 : Int) := of_decide_eq_true (by first | (with_reducible assumption) | assumption)
                  have q120 : x11_1 < (l0.length : Int) := of_decide_eq_true (by first | (with_reducible assumption) | assumption)
                  obtain ⟨ad120, e120, hx120_0, hx120_1, hx120_2⟩ := at_T105 (Kd.V_reads' HO_9.out).2.2 x11_1 p120 q120
                  cases e120
                  replace p120 := eq_true p120
                  replace q120 := eq_true q120
                  try go_wp2_with (first | ((with_reducible refine gate_dst (N := 8) rfl ?_); refine box_event ?hg (N := 8) ?hd (cs := #[.int .i64 0, .int .i64 0, .int .i64 0]) (t := 105) ?hr ?_; (case hd => rfl); (case hg => rfl); (case hr => first | (go_simp; done) | (go_simp; rfl)); intro gb121 hg w14 hbox hb; have n0_ := Aside0.mk (Kd.V_below (Kd.V_elderB (by (with_reducible repeat (first | apply Kd.V_alloc | apply Kd.V_drewN | apply Kd.V_drew)); exact HO_0.out) gb121 (Nat.le_of_eq hg.symm)) hb); have n1_ := Aside0.mk (Kd.R_below (Kd.R_elderB (by (with_reducible repeat first|apply rA_|apply rN_|apply rD_); exact HO_5.out) gb121 (Nat.le_of_eq hg.symm)) hb); have n2_ := Aside0.mk (Kd.V_below (Kd.V_elderB (by (with_reducible repeat (first | apply Kd.V_alloc | apply Kd.V_drewN | apply Kd.V_drew)); exact HO_9.out) gb121 (Nat.le_of_eq hg.symm)) hb); have n3_ := Aside0.mk (blk_below (by (with_reducible repeat first|apply qN_|apply qD_|apply qA_); exact BK116.out) hb); have n4_ := Aside0.mk (below_step (by repeat (first | (with_reducible first|exact HB.out|apply vA_|apply vN_|apply vD_ | refine vS_ ?_ GE116.out) | exact HB.out)) hb); have n5_ := Aside0.mk (hbox); have n6_ := Aside0.mk ((by rw [hg]; exact (below_size (by repeat (first | (with_reducible first|exact HB.out|apply vA_|apply vN_|apply vD_ | refine vS_ ?_ GE116.out) | exact HB.out))) : w.heap.size ≤ gb121)); have n7_ := Aside0.mk ((by rw [hg]; exact (below_size (by repeat (first | (with_reducible first|exact HB.out|apply vA_|apply vN_|apply vD_ | refine vS_ ?_ GE116.out) | exact HB.out))) : w.heap.size ≤ gb121)); have n8_ := Aside0.mk ((by rw [hg]; exact Nat.ne_of_lt (blk_lt (g := gb116) (o := .cells #[.int .i64 a1_0, .int .i64 a1_1, .int .i64 a1_2] 105 (0, 0)) (by (with_reducible repeat first|apply qN_|apply qD_|apply qA_); exact BK116.out)) : gb116 ≠ gb121)); have n9_ := Aside0.mk ((by rw [hg]; exact Nat.ne_of_gt (blk_lt (g := gb116) (o := .cells #[.int .i64 a1_0, .int .i64 a1_1, .int .i64 a1_2] 105 (0, 0)) (by (with_reducible repeat first|apply qN_|apply qD_|apply qA_); exact BK116.out)) : gb121 ≠ gb116)); clear HO_0; clear HO_5; clear HO_9; clear BK116; clear HB; have HO_0 := n0_; have HO_5 := n1_; have HO_9 := n2_; have BK116 := n3_; have HB := n4_; have BK121 := n5_; have GW121 := n6_; have GE121 := n7_; have NB116_121 := n8_; have NB121_116 := n9_; clear n0_ n1_ n2_ n3_ n4_ n5_ n6_ n7_ n8_ n9_; clear hb hbox hg; have hnb15 := NB121_116.out; have hnc15 := NB116_121.out; have hcz16_0 : w14.cell? ⟨gb121, 0, none⟩ = some (.int .i64 0) := (blk_cell BK121.out 0).trans rfl; have hcz16_1 : w14.cell? ⟨gb121, 1, none⟩ = some (.int .i64 0) := (blk_cell BK121.out 1).trans rfl; have hcz16_2 : w14.cell? ⟨gb121, 2, none⟩ = some (.int .i64 0) := (blk_cell BK121.out 2).trans rfl; have hfz16_0 := blk_frozen BK121.out 0; have hfz16_1 := blk_frozen BK121.out 1; have hfz16_2 := blk_frozen BK121.out 2; have hcz17_0 : w14.cell? ⟨gb116, 0, none⟩ = some (.int .i64 a1_0) := (blk_cell BK116.out 0).trans rfl; have hcz17_1 : w14.cell? ⟨gb116, 1, none⟩ = some (.int .i64 a1_1) := (blk_cell BK116.out 1).trans rfl; have hcz17_2 : w14.cell? ⟨gb116, 2, none⟩ = some (.int .i64 a1_2) := (blk_cell BK116.out 2).trans rfl; have hfz17_0 := blk_frozen BK116.out 0; have hfz17_1 := blk_frozen BK116.out 1; have hfz17_2 := blk_frozen BK116.out 2))
                  have n0_ : Aside0 (Kd.V k105 105 (((w14.setCell ⟨gb121, 0, none⟩ (.int .i64 ((rd_T105 l0 x11_1).f0))).setCell ⟨gb121, 1, none⟩ (.int .i64 ((rd_T105 l0 x11_1).f1))).setCell ⟨gb121, 2, none⟩ (.int .i64 ((rd_T105 l0 x11_1).f2))) w.heap.size (fun k_ => (P0_ k_ ∨ w.heap.size ≤ k_) ∧ some k_ ≠ (u5 : Value).ownBlock ∧ k_ ≠ gb116 ∧ k_ ≠ gb121) (.slice (some ad120) l0.length c0) l0) := ⟨by (with_reducible repeat (first | apply Kd.V_alloc | apply Kd.V_drewN | apply Kd.V_drew)); exact Kd.V_mono (Kd.V_far (p := ⟨gb121, 2, none⟩) (Kd.V_far (p := ⟨gb121, 1, none⟩) (Kd.V_far (p := ⟨gb121, 0, none⟩) (Kd.V_mono HO_0.out (fun k_ hk => (⟨hk, hk.2⟩ : _ ∧ k_ ≠ gb121))) (fun _ hk => hk.2) (.int .i64 ((rd_T105 l0 x11_1).f0))) (fun _ hk => hk.2) (.int .i64 ((rd_T105 l0 x11_1).f1))) (fun _ hk => hk.2) (.int .i64 ((rd_T105 l0 x11_1).f2))) (fun _ hk => ⟨hk.1.1.1, ⟨hk.1.1.2.1, ⟨hk.1.1.2.2, hk.1.2⟩⟩⟩)⟩
                  have n1_ : Aside0 (Kd.R k105 105 (((w14.setCell ⟨gb121, 0, none⟩ (.int .i64 ((rd_T105 l0 x11_1).f0))).setCell ⟨gb121, 1, none⟩ (.int .i64 ((rd_T105 l0 x11_1).f1))).setCell ⟨gb121, 2, none⟩ (.int .i64 ((rd_T105 l0 x11_1).f2))) w.heap.size (fun k_ => (w.heap.size ≤ k_) ∧ k_ ≠ gb116 ∧ k_ ≠ gb121) u5 x5_1) := ⟨by (with_reducible repeat first|apply rA_|apply rN_|apply rD_); exact Kd.R_mono (Kd.R_far (p := ⟨gb121, 2, none⟩) (Kd.R_far (p := ⟨gb121, 1, none⟩) (Kd.R_far (p := ⟨gb121, 0, none⟩) (Kd.R_mono HO_5.out (fun k_ hk => (⟨hk, hk.2⟩ : _ ∧ k_ ≠ gb121))) (fun _ hk => hk.2) (.int .i64 ((rd_T105 l0 x11_1).f0))) (fun _ hk => hk.2) (.int .i64 ((rd_T105 l0 x11_1).f1))) (fun _ hk => hk.2) (.int .i64 ((rd_T105 l0 x11_1).f2))) (fun _ hk => ⟨hk.1.1.1, ⟨hk.1.1.2, hk.1.2⟩⟩)⟩
                  have n2_ : Aside0 (Kd.V k105 105 (((w14.setCell ⟨gb121, 0, none⟩ (.int .i64 ((rd_T105 l0 x11_1).f0))).setCell ⟨gb121, 1, none⟩ (.int .i64 ((rd_T105 l0 x11_1).f1))).setCell ⟨gb121, 2, none⟩ (.int .i64 ((rd_T105 l0 x11_1).f2))) w.heap.size (fun k_ => (P0_ k_ ∨ w.heap.size ≤ k_) ∧ some k_ ≠ (u5 : Value).ownBlock ∧ k_ ≠ gb116 ∧ k_ ≠ gb121) (.slice (some ad120) l0.length c0) l0) := ⟨by (with_reducible repeat (first | apply Kd.V_alloc | apply Kd.V_drewN | apply Kd.V_drew)); exact Kd.V_mono (Kd.V_far (p := ⟨gb121, 2, none⟩) (Kd.V_far (p := ⟨gb121, 1, none⟩) (Kd.V_far (p := ⟨gb121, 0, none⟩) (Kd.V_mono HO_9.out (fun k_ hk => (⟨hk, hk.2⟩ : _ ∧ k_ ≠ gb121))) (fun _ hk => hk.2) (.int .i64 ((rd_T105 l0 x11_1).f0))) (fun _ hk => hk.2) (.int .i64 ((rd_T105 l0 x11_1).f1))) (fun _ hk => hk.2) (.int .i64 ((rd_T105 l0 x11_1).f2))) (fun _ hk => ⟨hk.1.1.1, ⟨hk.1.1.2.1, ⟨hk.1.1.2.2, hk.1.2⟩⟩⟩)⟩
                  have n3_ : Aside0 ((((w14.setCell ⟨gb121, 0, none⟩ (.int .i64 ((rd_T105 l0 x11_1).f0))).setCell ⟨gb121, 1, none⟩ (.int .i64 ((rd_T105 l0 x11_1).f1))).setCell ⟨gb121, 2, none⟩ (.int .i64 ((rd_T105 l0 x11_1).f2))).heap[gb116]? = some (.cells #[.int .i64 a1_0, .int .i64 a1_1, .int .i64 a1_2] 105 (0, 0))) := ⟨by (with_reducible repeat first|apply qN_|apply qD_|apply qA_); refine blk_far ?_ NB116_121.out _; (with_reducible repeat first|apply qN_|apply qD_|apply qA_); refine blk_far ?_ NB116_121.out _; (with_reducible repeat first|apply qN_|apply qD_|apply qA_); refine blk_far ?_ NB116_121.out _; (with_reducible repeat first|apply qN_|apply qD_|apply qA_); exact BK116.out⟩
                  have n4_ : Aside0 ((((w14.setCell ⟨gb121, 0, none⟩ (.int .i64 ((rd_T105 l0 x11_1).f0))).setCell ⟨gb121, 1, none⟩ (.int .i64 ((rd_T105 l0 x11_1).f1))).setCell ⟨gb121, 2, none⟩ (.int .i64 ((rd_T105 l0 x11_1).f2))).heap[gb121]? = some (.cells #[.int .i64 ((rd_T105 l0 x11_1).f0), .int .i64 ((rd_T105 l0 x11_1).f1), .int .i64 ((rd_T105 l0 x11_1).f2)] 105 (0, 0))) := ⟨by (with_reducible repeat first|apply qN_|apply qD_|apply qA_); refine blk_put (cs := #[.int .i64 ((rd_T105 l0 x11_1).f0), .int .i64 ((rd_T105 l0 x11_1).f1), .int .i64 0]) ?_ 2 _ rfl; (with_reducible repeat first|apply qN_|apply qD_|apply qA_); refine blk_put (cs := #[.int .i64 ((rd_T105 l0 x11_1).f0), .int .i64 0, .int .i64 0]) ?_ 1 _ rfl; (with_reducible repeat first|apply qN_|apply qD_|apply qA_); refine blk_put (cs := #[.int .i64 0, .int .i64 0, .int .i64 0]) ?_ 0 _ rfl; (with_reducible repeat first|apply qN_|apply qD_|apply qA_); exact BK121.out⟩
                  have n5_ : Aside0 (Below w.heap.size w (((w14.setCell ⟨gb121, 0, none⟩ (.int .i64 ((rd_T105 l0 x11_1).f0))).setCell ⟨gb121, 1, none⟩ (.int .i64 ((rd_T105 l0 x11_1).f1))).setCell ⟨gb121, 2, none⟩ (.int .i64 ((rd_T105 l0 x11_1).f2)))) := ⟨by repeat (first | (with_reducible first|exact HB.out|apply vA_|apply vN_|apply vD_ | refine vS_ ?_ GE116.out | refine vS_ ?_ GE121.out) | exact HB.out)⟩
                  (try clear HO_0)
                  (try clear HO_5)
                  (try clear HO_9)
                  (try clear BK116)
                  (try clear BK121)
                  (try clear HB)
                  generalize (((w14.setCell ⟨gb121, 0, none⟩ (.int .i64 ((rd_T105 l0 x11_1).f0))).setCell ⟨gb121, 1, none⟩ (.int .i64 ((rd_T105 l0 x11_1).f1))).setCell ⟨gb121, 2, none⟩ (.int .i64 ((rd_T105 l0 x11_1).f2))) = w18 at n0_ n1_ n2_ n3_ n4_ n5_ ⊢
                  have HO_0 := n0_
                  have HO_5 := n1_
                  have HO_9 := n2_
                  have BK116 := n3_
                  have BK121 := n4_
                  have HB := n5_
                  clear n0_ n1_ n2_ n3_ n4_ n5_
                  have n0_ := Aside0.mk (Kd.V_drew HO_0.out)
                  have n1_ := Aside0.mk (Kd.R_drew HO_5.out)
                  have n2_ := Aside0.mk (Kd.V_drew HO_9.out)
                  have n3_ := Aside0.mk (blk_drew BK116.out)
                  have n4_ := Aside0.mk (blk_drew BK121.out)
                  have n5_ := Aside0.mk (below_drew1 HB.out)
                  clear HO_0
                  clear HO_5
                  clear HO_9
                  clear BK116
                  clear BK121
                  clear HB
                  have HO_0 := n0_
                  have HO_5 := n1_
                  have HO_9 := n2_
                  have BK116 := n3_
                  have BK121 := n4_
                  have HB := n5_
                  clear n0_ n1_ n2_ n3_ n4_ n5_
                  refine start_ (n := 9) (S := fun w' => True) (ds := []) #[false, false, false, false, false, false, false, false, false] (by kernel_rfl) rfl rfl trivial (fun hHeld => ?_); refine with_tabW spec_l11Add.tab8 spec_l11Add.bits8 (fun HT_ HW_ => ?_)
                  generalize w18.drew = w19 at HO_0 HO_5 HO_9 BK116 BK121 HB hHeld ⊢
                  refine pure_ (i := 0) (N := some 19) (v := ?_) (a' := ?_) #[true, false, false, false, false, false, false, false, false] rfl rfl (any_of HT_.out (by kernel_rfl)) (fun _ _ _ h => h) (Or.inl ⟨by rfl, ?_⟩) ?_ ?_
                  rotate_left
                  · intro w'
                    go_simp
                    with_reducible rfl
                  rotate_left
                  · simp only [Act.put, List.setIfInBounds_toArray, List.set_cons_zero, List.set_cons_succ, i64_w, i32_w]
                    rfl
                  refine pure_ (i := 1) (N := some 20) (v := ?_) (a' := ?_) #[true, true, false, false, false, false, false, false, false] rfl rfl (any_of HT_.out (by kernel_rfl)) (fun _ _ _ h => h) (Or.inl ⟨by rfl, ?_⟩) ?_ ?_
                  rotate_left
                  · intro w'
                    go_simp
                    with_reducible rfl
                  rotate_left
                  · simp only [Act.put, List.setIfInBounds_toArray, List.set_cons_zero, List.set_cons_succ, i64_w, i32_w]
                    rfl
                  refine pure_ (i := 2) (N := some 21) (v := ?_) (a' := ?_) #[true, true, true, false, false, false, false, false, false] rfl rfl (any_of HT_.out (by kernel_rfl)) (fun _ _ _ h => h) (Or.inl ⟨by rfl, ?_⟩) ?_ ?_
                  rotate_left
                  · intro w'
                    go_simp
                    with_reducible rfl
                  rotate_left
                  · simp only [Act.put, List.setIfInBounds_toArray, List.set_cons_zero, List.set_cons_succ, i64_w, i32_w]
                    rfl
                  refine pure_ (i := 3) (N := some 22) (v := undef) (a' := ?_) #[true, true, true, true, false, false, false, false, false] rfl rfl (any_of HT_.out (by kernel_rfl)) (fun _ _ _ h => h) (Or.inr ⟨by rfl, rfl⟩) ?_ ?_
                  rotate_left
                  · simp only [Act.put, List.setIfInBounds_toArray, List.set_cons_zero, List.set_cons_succ, i64_w, i32_w]
                    rfl
                  refine pure_ (i := 4) (N := some 23) (v := undef) (a' := ?_) #[true, true, true, true, true, false, false, false, false] rfl rfl (any_of HT_.out (by kernel_rfl)) (fun _ _ _ h => h) (Or.inr ⟨by rfl, rfl⟩) ?_ ?_
                  rotate_left
                  · simp only [Act.put, List.setIfInBounds_toArray, List.set_cons_zero, List.set_cons_succ, i64_w, i32_w]
                    rfl
                  refine pure_ (i := 5) (N := some 24) (v := undef) (a' := ?_) #[true, true, true, true, true, true, false, false, false] rfl rfl (any_of HT_.out (by kernel_rfl)) (fun _ _ _ h => h) (Or.inr ⟨by rfl, rfl⟩) ?_ ?_
                  rotate_left
                  · simp only [Act.put, List.setIfInBounds_toArray, List.set_cons_zero, List.set_cons_succ, i64_w, i32_w]
                    rfl
                  refine pure_ (i := 6) (N := some 25) (v := undef) (a' := ?_) #[true, true, true, true, true, true, true, false, false] rfl rfl (any_of HT_.out (by kernel_rfl)) (fun _ _ _ h => h) (Or.inr ⟨by rfl, rfl⟩) ?_ ?_
                  rotate_left
                  · simp only [Act.put, List.setIfInBounds_toArray, List.set_cons_zero, List.set_cons_succ, i64_w, i32_w]
                    rfl
                  refine pure_ (i := 7) (N := some 26) (v := undef) (a' := ?_) #[true, true, true, true, true, true, true, true, false] rfl rfl (any_of HT_.out (by kernel_rfl)) (fun _ _ _ h => h) (Or.inr ⟨by rfl, rfl⟩) ?_ ?_
                  rotate_left
                  · simp only [Act.put, List.setIfInBounds_toArray, List.set_cons_zero, List.set_cons_succ, i64_w, i32_w]
                    rfl
                  refine pure_ (i := 8) (N := some 27) (v := ?_) (a' := ?_) #[true, true, true, true, true, true, true, true, true] rfl rfl (any_of HT_.out (by kernel_rfl)) (fun _ _ _ h => h) (Or.inl ⟨by rfl, ?_⟩) ?_ ?_
                  rotate_left
                  · intro w'
                    go_simp
                    with_reducible rfl
                  rotate_left
                  · simp only [Act.put, List.setIfInBounds_toArray, List.set_cons_zero, List.set_cons_succ, i64_w, i32_w]
                    rfl
                  refine done_ (done_of HT_.out (by kernel_rfl)) ?_
                  have hcz20_0 : w19.cell? ⟨gb121, 0, none⟩ = some (.int .i64 ((rd_T105 l0 x11_1).f0)) := (blk_cell BK121.out 0).trans rfl
                  have hcz20_1 : w19.cell? ⟨gb121, 1, none⟩ = some (.int .i64 ((rd_T105 l0 x11_1).f1)) := (blk_cell BK121.out 1).trans rfl
                  have hcz20_2 : w19.cell? ⟨gb121, 2, none⟩ = some (.int .i64 ((rd_T105 l0 x11_1).f2)) := (blk_cell BK121.out 2).trans rfl
                  have hfz20_0 := blk_frozen BK121.out 0
                  have hfz20_1 := blk_frozen BK121.out 1
                  have hfz20_2 := blk_frozen BK121.out 2
                  try go_wp2_with (first | ((with_reducible refine gate_builtin (b := .append) (xs := #[.tmp 32, .tmp 34]) rfl ?_); at_builtin; refine Kd.R_append k105 (w0 := w) w.heap.size rfl (.tmp 32) (.tmp 34) 46 105 (.agg #[(.int .i64 0), (.int .i64 0), (.int .i64 0)]) 24 rfl Try.underlying46 info105 rfl (by decide) (by omega) u5 x5_1 (⟨(rd_T105 l0 x11_1).f0, (rd_T105 l0 x11_1).f1, (rd_T105 l0 x11_1).f2⟩ : S105) [.int .i64 ((rd_T105 l0 x11_1).f0), .int .i64 ((rd_T105 l0 x11_1).f1), .int .i64 ((rd_T105 l0 x11_1).f2)] (fun k_ => (w.heap.size ≤ k_) ∧ k_ ≠ gb116 ∧ k_ ≠ gb121) (fun _ => False) rfl rfl ?aP (fun _ hk => hk.elim) ?aF ?aO ?aB ?aS ?aL ?_; (case aP => exact k105_mkM _ _ _ (⟨(rd_T105 l0 x11_1).f0, (rd_T105 l0 x11_1).f1, (rd_T105 l0 x11_1).f2⟩ : S105)); (case aB => exact (by repeat (first | (with_reducible first|exact HB.out|apply vA_|apply vN_|apply vD_ | refine vS_ ?_ GE116.out | refine vS_ ?_ GE121.out) | exact HB.out))); (case aF => exact (fun k_ hk => ⟨(Nat.le_trans (below_size (by repeat (first | (with_reducible first|exact HB.out|apply vA_|apply vN_|apply vD_ | refine vS_ ?_ GE116.out | refine vS_ ?_ GE121.out) | exact HB.out))) hk), Kd.freshB (g := gb116) (o := .cells #[.int .i64 a1_0, .int .i64 a1_1, .int .i64 a1_2] 105 (0, 0)) (by (with_reducible repeat first|apply qN_|apply qD_|apply qA_); exact BK116.out) k_ hk, Kd.freshB (g := gb121) (o := .cells #[.int .i64 ((rd_T105 l0 x11_1).f0), .int .i64 ((rd_T105 l0 x11_1).f1), .int .i64 ((rd_T105 l0 x11_1).f2)] 105 (0, 0)) (by (with_reducible repeat first|apply qN_|apply qD_|apply qA_); exact BK121.out) k_ hk⟩)); (case aO => exact (by (with_reducible repeat first|apply rA_|apply rN_|apply rD_); exact HO_5.out)); (case aS => exact (below_size (by repeat (first | (with_reducible first|exact HB.out|apply vA_|apply vN_|apply vD_ | refine vS_ ?_ GE116.out | refine vS_ ?_ GE121.out) | exact HB.out)))); (case aL => have := LMc13.out; omega); intro v123 w21 ho hb hg hat; rw [← Ny122.out] at ho; have n0_ := Aside0.mk (Kd.V_afterv (ok := (fun k_ => (P0_ k_ ∨ w.heap.size ≤ k_) ∧ k_ ≠ gb116 ∧ k_ ≠ gb121)) (by (with_reducible repeat (first | apply Kd.V_alloc | apply Kd.V_drewN | apply Kd.V_drew)); exact Kd.V_mono HO_0.out (fun _ hk => ⟨⟨hk.1, ⟨hk.2.2.1, hk.2.2.2⟩⟩, hk.2.1⟩)) hg hat); have n1_ := Aside0.mk (Kd.V_afterv (ok := (fun k_ => (P0_ k_ ∨ w.heap.size ≤ k_) ∧ k_ ≠ gb116 ∧ k_ ≠ gb121)) (by (with_reducible repeat (first | apply Kd.V_alloc | apply Kd.V_drewN | apply Kd.V_drew)); exact Kd.V_mono HO_9.out (fun _ hk => ⟨⟨hk.1, ⟨hk.2.2.1, hk.2.2.2⟩⟩, hk.2.1⟩)) hg hat); have n2_ := Aside0.mk (blk_grown (g := gb116) (o := .cells #[.int .i64 a1_0, .int .i64 a1_1, .int .i64 a1_2] 105 (0, 0)) (by (with_reducible repeat first|apply qN_|apply qD_|apply qA_); exact BK116.out) hg (Kd.R_away HO_5.out (fun _ hk => hk.2.1))); have n3_ := Aside0.mk (blk_grown (g := gb121) (o := .cells #[.int .i64 ((rd_T105 l0 x11_1).f0), .int .i64 ((rd_T105 l0 x11_1).f1), .int .i64 ((rd_T105 l0 x11_1).f2)] 105 (0, 0)) (by (with_reducible repeat first|apply qN_|apply qD_|apply qA_); exact BK121.out) hg (Kd.R_away HO_5.out (fun _ hk => hk.2.2))); have n4_ := Aside0.mk (hb); have n5_ := Aside0.mk (ho); clear HO_0; clear HO_9; clear BK116; clear BK121; clear HB; clear HO_5; have HO_0 := n0_; have HO_9 := n1_; have BK116 := n2_; have BK121 := n3_; have HB := n4_; have HO124 := n5_; clear n0_ n1_ n2_ n3_ n4_ n5_; clear ho hb hg hat))
                  go_roundg k1
                  case measure => have := HK1.out; omega
                  case rel => exact ⟨(y122), (true), (wrap64 (x11_1 + 1)), (by first | rfl | (simp; done) | (simp [*]; done)), (by first | rfl | (simp; done) | (simp [*]; done)), H', ⟨by have := HK1.out; omega⟩, ⟨by (with_reducible repeat (first | apply Kd.V_alloc | apply Kd.V_drewN | apply Kd.V_drew)); exact Kd.V_mono HO_0.out (fun _ hk => ⟨hk.1.1, ⟨hk.2, hk.1.2.1⟩⟩)⟩, ⟨by (with_reducible repeat first|apply rA_|apply rN_|apply rD_); exact Kd.R_mono HO124.out (fun _ hk => ⟨hk.1, hk.2.1⟩)⟩, ⟨by (with_reducible repeat (first | apply Kd.V_alloc | apply Kd.V_drewN | apply Kd.V_drew)); exact Kd.V_mono HO_9.out (fun _ hk => ⟨hk.1.1, ⟨hk.2, hk.1.2.1⟩⟩)⟩, ⟨by (with_reducible repeat first|apply qN_|apply qD_|apply qA_); exact BK116.out⟩, ⟨by repeat (first | (with_reducible first|exact HB.out|apply vA_|apply vN_|apply vD_ | refine vS_ ?_ GE116.out | refine vS_ ?_ GE121.out) | exact HB.out)⟩⟩
                · rw [if_neg c13] at H
                  exact absurd H (by simp)
              · replace c12 := Bool.eq_false_iff.mpr c12
                subst c12
                have H1 : ((spec_l11Key.f a1_0 a1_1 a1_2).bind fun t125 => ((spec_l11Key.f ((rd_T105 l0 x11_1).f0) ((rd_T105 l0 x11_1).f1) ((rd_T105 l0 x11_1).f2)).bind fun t126 => (if t125 < t126 then (if x5_1.length < 5864062014805 then ((some (x5_1 ++ [(⟨a1_0, a1_1, a1_2⟩ : S105)] : List (S105))).bind fun y127 => (if y127.length < 5864062014805 then (spec_l11Add.l0 k1 l0 (y127 ++ [(⟨(rd_T105 l0 x11_1).f0, (rd_T105 l0 x11_1).f1, (rd_T105 l0 x11_1).f2⟩ : S105)]) true l0 (l0.length : Int) (wrap64 (x11_1 + 1)) a1_0 a1_1 a1_2) else (none))) else (none)) else (if x5_1.length < 5864062014805 then (spec_l11Add.l0 k1 l0 (x5_1 ++ [(⟨(rd_T105 l0 x11_1).f0, (rd_T105 l0 x11_1).f1, (rd_T105 l0 x11_1).f2⟩ : S105)]) false l0 (l0.length : Int) (wrap64 (x11_1 + 1)) a1_0 a1_1 a1_2) else (none))))) = some r := by rw [if_neg (show ¬ (false = true) by decide)] at H; exact H
                clear H
                have H := H1
                clear H1
                replace H := Option.bind_eq_some_iff.mp H
                obtain ⟨t125, A220, H⟩ := H
                replace H : ((spec_l11Key.f ((rd_T105 l0 x11_1).f0) ((rd_T105 l0 x11_1).f1) ((rd_T105 l0 x11_1).f2)).bind fun t126 => (if t125 < t126 then (if x5_1.length < 5864062014805 then ((some (x5_1 ++ [(⟨a1_0, a1_1, a1_2⟩ : S105)] : List (S105))).bind fun y127 => (if y127.length < 5864062014805 then (spec_l11Add.l0 k1 l0 (y127 ++ [(⟨(rd_T105 l0 x11_1).f0, (rd_T105 l0 x11_1).f1, (rd_T105 l0 x11_1).f2⟩ : S105)]) true l0 (l0.length : Int) (wrap64 (x11_1 + 1)) a1_0 a1_1 a1_2) else (none))) else (none)) else (if x5_1.length < 5864062014805 then (spec_l11Add.l0 k1 l0 (x5_1 ++ [(⟨(rd_T105 l0 x11_1).f0, (rd_T105 l0 x11_1).f1, (rd_T105 l0 x11_1).f2⟩ : S105)]) false l0 (l0.length : Int) (wrap64 (x11_1 + 1)) a1_0 a1_1 a1_2) else (none)))) = some r := H
                have A22 := Aside0.mk A220
                clear A220
                replace H := Option.bind_eq_some_iff.mp H
                obtain ⟨t126, A230, H⟩ := H
                replace H : (if t125 < t126 then (if x5_1.length < 5864062014805 then ((some (x5_1 ++ [(⟨a1_0, a1_1, a1_2⟩ : S105)] : List (S105))).bind fun y127 => (if y127.length < 5864062014805 then (spec_l11Add.l0 k1 l0 (y127 ++ [(⟨(rd_T105 l0 x11_1).f0, (rd_T105 l0 x11_1).f1, (rd_T105 l0 x11_1).f2⟩ : S105)]) true l0 (l0.length : Int) (wrap64 (x11_1 + 1)) a1_0 a1_1 a1_2) else (none))) else (none)) else (if x5_1.length < 5864062014805 then (spec_l11Add.l0 k1 l0 (x5_1 ++ [(⟨(rd_T105 l0 x11_1).f0, (rd_T105 l0 x11_1).f1, (rd_T105 l0 x11_1).f2⟩ : S105)]) false l0 (l0.length : Int) (wrap64 (x11_1 + 1)) a1_0 a1_1 a1_2) else (none))) = some r := H
                have A23 := Aside0.mk A230
                clear A230
                by_cases c24 : t125 < t126
                · rw [if_pos c24] at H
                  have c24b0 : decide (t125 < t126) = true := decide_eq_true c24
                  clear c24
                  by_cases c25 : x5_1.length < 5864062014805
                  · rw [if_pos c25] at H
                    have LMc25 := Aside0.mk c25
                    clear c25
                    obtain ⟨y127, hy127⟩ : ∃ y_ : List (S105), y_ = (x5_1 ++ [(⟨a1_0, a1_1, a1_2⟩ : S105)]) := ⟨_, rfl⟩
                    replace H : (if y127.length < 5864062014805 then (spec_l11Add.l0 k1 l0 (y127 ++ [(⟨(rd_T105 l0 x11_1).f0, (rd_T105 l0 x11_1).f1, (rd_T105 l0 x11_1).f2⟩ : S105)]) true l0 (l0.length : Int) (wrap64 (x11_1 + 1)) a1_0 a1_1 a1_2) else (none)) = some r := by first | (rw [hy127]; with_reducible exact H) | (have H2_ := (Option.bind_some _ _).symm.trans H; rw [hy127]; with_reducible exact H2_) | (have H2_ := (Option.bind_some _ _).symm.trans H; with_reducible exact H2_) | with_reducible exact H | (rw [hy127]; exact H) | exact H
                    have Ny127 := Aside0.mk hy127
                    clear hy127
                    by_cases c26 : y127.length < 5864062014805
                    · rw [if_pos c26] at H
                      have LMc26 := Aside0.mk c26
                      clear c26
                      obtain ⟨y130, hy130⟩ : ∃ y_ : List (S105), y_ = (y127 ++ [(⟨(rd_T105 l0 x11_1).f0, (rd_T105 l0 x11_1).f1, (rd_T105 l0 x11_1).f2⟩ : S105)]) := ⟨_, rfl⟩
                      replace H : (spec_l11Add.l0 k1 l0 y130 true l0 (l0.length : Int) (wrap64 (x11_1 + 1)) a1_0 a1_1 a1_2) = some r := by first | (rw [hy130]; with_reducible exact H) | (have H2_ := (Option.bind_some _ _).symm.trans H; rw [hy130]; with_reducible exact H2_) | (have H2_ := (Option.bind_some _ _).symm.trans H; with_reducible exact H2_) | with_reducible exact H | (rw [hy130]; exact H) | exact H
                      have Ny130 := Aside0.mk hy130
                      clear hy130
                      have H' := Aside0.mk H
                      clear H
                      have p120 : 0 ≤ (x11_1 : Int) := of_decide_eq_true (by first | (with_reducible assumption) | assumption)
                      have q120 : x11_1 < (l0.length : Int) := of_decide_eq_true (by first | (with_reducible assumption) | assumption)
                      obtain ⟨ad120, e120, hx120_0, hx120_1, hx120_2⟩ := at_T105 (Kd.V_reads' HO_9.out).2.2 x11_1 p120 q120
                      cases e120
                      replace p120 := eq_true p120
                      replace q120 := eq_true q120
                      try go_wp2_with (first | ((with_reducible refine gate_dst (N := 8) rfl ?_); refine box_event ?hg (N := 8) ?hd (cs := #[.int .i64 0, .int .i64 0, .int .i64 0]) (t := 105) ?hr ?_; (case hd => rfl); (case hg => rfl); (case hr => first | (go_simp; done) | (go_simp; rfl)); intro gb121 hg w27 hbox hb; have n0_ := Aside0.mk (Kd.V_below (Kd.V_elderB (by (with_reducible repeat (first | apply Kd.V_alloc | apply Kd.V_drewN | apply Kd.V_drew)); exact HO_0.out) gb121 (Nat.le_of_eq hg.symm)) hb); have n1_ := Aside0.mk (Kd.R_below (Kd.R_elderB (by (with_reducible repeat first|apply rA_|apply rN_|apply rD_); exact HO_5.out) gb121 (Nat.le_of_eq hg.symm)) hb); have n2_ := Aside0.mk (Kd.V_below (Kd.V_elderB (by (with_reducible repeat (first | apply Kd.V_alloc | apply Kd.V_drewN | apply Kd.V_drew)); exact HO_9.out) gb121 (Nat.le_of_eq hg.symm)) hb); have n3_ := Aside0.mk (blk_below (by (with_reducible repeat first|apply qN_|apply qD_|apply qA_); exact BK116.out) hb); have n4_ := Aside0.mk (below_step (by repeat (first | (with_reducible first|exact HB.out|apply vA_|apply vN_|apply vD_ | refine vS_ ?_ GE116.out) | exact HB.out)) hb); have n5_ := Aside0.mk (hbox); have n6_ := Aside0.mk ((by rw [hg]; exact (below_size (by repeat (first | (with_reducible first|exact HB.out|apply vA_|apply vN_|apply vD_ | refine vS_ ?_ GE116.out) | exact HB.out))) : w.heap.size ≤ gb121)); have n7_ := Aside0.mk ((by rw [hg]; exact (below_size (by repeat (first | (with_reducible first|exact HB.out|apply vA_|apply vN_|apply vD_ | refine vS_ ?_ GE116.out) | exact HB.out))) : w.heap.size ≤ gb121)); have n8_ := Aside0.mk ((by rw [hg]; exact Nat.ne_of_lt (blk_lt (g := gb116) (o := .cells #[.int .i64 a1_0, .int .i64 a1_1, .int .i64 a1_2] 105 (0, 0)) (by (with_reducible repeat first|apply qN_|apply qD_|apply qA_); exact BK116.out)) : gb116 ≠ gb121)); have n9_ := Aside0.mk ((by rw [hg]; exact Nat.ne_of_gt (blk_lt (g := gb116) (o := .cells #[.int .i64 a1_0, .int .i64 a1_1, .int .i64 a1_2] 105 (0, 0)) (by (with_reducible repeat first|apply qN_|apply qD_|apply qA_); exact BK116.out)) : gb121 ≠ gb116)); clear HO_0; clear HO_5; clear HO_9; clear BK116; clear HB; have HO_0 := n0_; have HO_5 := n1_; have HO_9 := n2_; have BK116 := n3_; have HB := n4_; have BK121 := n5_; have GW121 := n6_; have GE121 := n7_; have NB116_121 := n8_; have NB121_116 := n9_; clear n0_ n1_ n2_ n3_ n4_ n5_ n6_ n7_ n8_ n9_; clear hb hbox hg; have hnb28 := NB121_116.out; have hnc28 := NB116_121.out; have hcz29_0 : w27.cell? ⟨gb121, 0, none⟩ = some (.int .i64 0) := (blk_cell BK121.out 0).trans rfl; have hcz29_1 : w27.cell? ⟨gb121, 1, none⟩ = some (.int .i64 0) := (blk_cell BK121.out 1).trans rfl; have hcz29_2 : w27.cell? ⟨gb121, 2, none⟩ = some (.int .i64 0) := (blk_cell BK121.out 2).trans rfl; have hfz29_0 := blk_frozen BK121.out 0; have hfz29_1 := blk_frozen BK121.out 1; have hfz29_2 := blk_frozen BK121.out 2; have hcz30_0 : w27.cell? ⟨gb116, 0, none⟩ = some (.int .i64 a1_0) := (blk_cell BK116.out 0).trans rfl; have hcz30_1 : w27.cell? ⟨gb116, 1, none⟩ = some (.int .i64 a1_1) := (blk_cell BK116.out 1).trans rfl; have hcz30_2 : w27.cell? ⟨gb116, 2, none⟩ = some (.int .i64 a1_2) := (blk_cell BK116.out 2).trans rfl; have hfz30_0 := blk_frozen BK116.out 0; have hfz30_1 := blk_frozen BK116.out 1; have hfz30_2 := blk_frozen BK116.out 2))
                      have n0_ : Aside0 (Kd.V k105 105 (((w27.setCell ⟨gb121, 0, none⟩ (.int .i64 ((rd_T105 l0 x11_1).f0))).setCell ⟨gb121, 1, none⟩ (.int .i64 ((rd_T105 l0 x11_1).f1))).setCell ⟨gb121, 2, none⟩ (.int .i64 ((rd_T105 l0 x11_1).f2))) w.heap.size (fun k_ => (P0_ k_ ∨ w.heap.size ≤ k_) ∧ some k_ ≠ (u5 : Value).ownBlock ∧ k_ ≠ gb116 ∧ k_ ≠ gb121) (.slice (some ad120) l0.length c0) l0) := ⟨by (with_reducible repeat (first | apply Kd.V_alloc | apply Kd.V_drewN | apply Kd.V_drew)); exact Kd.V_mono (Kd.V_far (p := ⟨gb121, 2, none⟩) (Kd.V_far (p := ⟨gb121, 1, none⟩) (Kd.V_far (p := ⟨gb121, 0, none⟩) (Kd.V_mono HO_0.out (fun k_ hk => (⟨hk, hk.2⟩ : _ ∧ k_ ≠ gb121))) (fun _ hk => hk.2) (.int .i64 ((rd_T105 l0 x11_1).f0))) (fun _ hk => hk.2) (.int .i64 ((rd_T105 l0 x11_1).f1))) (fun _ hk => hk.2) (.int .i64 ((rd_T105 l0 x11_1).f2))) (fun _ hk => ⟨hk.1.1.1, ⟨hk.1.1.2.1, ⟨hk.1.1.2.2, hk.1.2⟩⟩⟩)⟩
                      have n1_ : Aside0 (Kd.R k105 105 (((w27.setCell ⟨gb121, 0, none⟩ (.int .i64 ((rd_T105 l0 x11_1).f0))).setCell ⟨gb121, 1, none⟩ (.int .i64 ((rd_T105 l0 x11_1).f1))).setCell ⟨gb121, 2, none⟩ (.int .i64 ((rd_T105 l0 x11_1).f2))) w.heap.size (fun k_ => (w.heap.size ≤ k_) ∧ k_ ≠ gb116 ∧ k_ ≠ gb121) u5 x5_1) := ⟨by (with_reducible repeat first|apply rA_|apply rN_|apply rD_); exact Kd.R_mono (Kd.R_far (p := ⟨gb121, 2, none⟩) (Kd.R_far (p := ⟨gb121, 1, none⟩) (Kd.R_far (p := ⟨gb121, 0, none⟩) (Kd.R_mono HO_5.out (fun k_ hk => (⟨hk, hk.2⟩ : _ ∧ k_ ≠ gb121))) (fun _ hk => hk.2) (.int .i64 ((rd_T105 l0 x11_1).f0))) (fun _ hk => hk.2) (.int .i64 ((rd_T105 l0 x11_1).f1))) (fun _ hk => hk.2) (.int .i64 ((rd_T105 l0 x11_1).f2))) (fun _ hk => ⟨hk.1.1.1, ⟨hk.1.1.2, hk.1.2⟩⟩)⟩
                      have n2_ : Aside0 (Kd.V k105 105 (((w27.setCell ⟨gb121, 0, none⟩ (.int .i64 ((rd_T105 l0 x11_1).f0))).setCell ⟨gb121, 1, none⟩ (.int .i64 ((rd_T105 l0 x11_1).f1))).setCell ⟨gb121, 2, none⟩ (.int .i64 ((rd_T105 l0 x11_1).f2))) w.heap.size (fun k_ => (P0_ k_ ∨ w.heap.size ≤ k_) ∧ some k_ ≠ (u5 : Value).ownBlock ∧ k_ ≠ gb116 ∧ k_ ≠ gb121) (.slice (some ad120) l0.length c0) l0) := ⟨by (with_reducible repeat (first | apply Kd.V_alloc | apply Kd.V_drewN | apply Kd.V_drew)); exact Kd.V_mono (Kd.V_far (p := ⟨gb121, 2, none⟩) (Kd.V_far (p := ⟨gb121, 1, none⟩) (Kd.V_far (p := ⟨gb121, 0, none⟩) (Kd.V_mono HO_9.out (fun k_ hk => (⟨hk, hk.2⟩ : _ ∧ k_ ≠ gb121))) (fun _ hk => hk.2) (.int .i64 ((rd_T105 l0 x11_1).f0))) (fun _ hk => hk.2) (.int .i64 ((rd_T105 l0 x11_1).f1))) (fun _ hk => hk.2) (.int .i64 ((rd_T105 l0 x11_1).f2))) (fun _ hk => ⟨hk.1.1.1, ⟨hk.1.1.2.1, ⟨hk.1.1.2.2, hk.1.2⟩⟩⟩)⟩
                      have n3_ : Aside0 ((((w27.setCell ⟨gb121, 0, none⟩ (.int .i64 ((rd_T105 l0 x11_1).f0))).setCell ⟨gb121, 1, none⟩ (.int .i64 ((rd_T105 l0 x11_1).f1))).setCell ⟨gb121, 2, none⟩ (.int .i64 ((rd_T105 l0 x11_1).f2))).heap[gb116]? = some (.cells #[.int .i64 a1_0, .int .i64 a1_1, .int .i64 a1_2] 105 (0, 0))) := ⟨by (with_reducible repeat first|apply qN_|apply qD_|apply qA_); refine blk_far ?_ NB116_121.out _; (with_reducible repeat first|apply qN_|apply qD_|apply qA_); refine blk_far ?_ NB116_121.out _; (with_reducible repeat first|apply qN_|apply qD_|apply qA_); refine blk_far ?_ NB116_121.out _; (with_reducible repeat first|apply qN_|apply qD_|apply qA_); exact BK116.out⟩
                      have n4_ : Aside0 ((((w27.setCell ⟨gb121, 0, none⟩ (.int .i64 ((rd_T105 l0 x11_1).f0))).setCell ⟨gb121, 1, none⟩ (.int .i64 ((rd_T105 l0 x11_1).f1))).setCell ⟨gb121, 2, none⟩ (.int .i64 ((rd_T105 l0 x11_1).f2))).heap[gb121]? = some (.cells #[.int .i64 ((rd_T105 l0 x11_1).f0), .int .i64 ((rd_T105 l0 x11_1).f1), .int .i64 ((rd_T105 l0 x11_1).f2)] 105 (0, 0))) := ⟨by (with_reducible repeat first|apply qN_|apply qD_|apply qA_); refine blk_put (cs := #[.int .i64 ((rd_T105 l0 x11_1).f0), .int .i64 ((rd_T105 l0 x11_1).f1), .int .i64 0]) ?_ 2 _ rfl; (with_reducible repeat first|apply qN_|apply qD_|apply qA_); refine blk_put (cs := #[.int .i64 ((rd_T105 l0 x11_1).f0), .int .i64 0, .int .i64 0]) ?_ 1 _ rfl; (with_reducible repeat first|apply qN_|apply qD_|apply qA_); refine blk_put (cs := #[.int .i64 0, .int .i64 0, .int .i64 0]) ?_ 0 _ rfl; (with_reducible repeat first|apply qN_|apply qD_|apply qA_); exact BK121.out⟩
                      have n5_ : Aside0 (Below w.heap.size w (((w27.setCell ⟨gb121, 0, none⟩ (.int .i64 ((rd_T105 l0 x11_1).f0))).setCell ⟨gb121, 1, none⟩ (.int .i64 ((rd_T105 l0 x11_1).f1))).setCell ⟨gb121, 2, none⟩ (.int .i64 ((rd_T105 l0 x11_1).f2)))) := ⟨by repeat (first | (with_reducible first|exact HB.out|apply vA_|apply vN_|apply vD_ | refine vS_ ?_ GE116.out | refine vS_ ?_ GE121.out) | exact HB.out)⟩
                      (try clear HO_0)
                      (try clear HO_5)
                      (try clear HO_9)
                      (try clear BK116)
                      (try clear BK121)
                      (try clear HB)
                      generalize (((w27.setCell ⟨gb121, 0, none⟩ (.int .i64 ((rd_T105 l0 x11_1).f0))).setCell ⟨gb121, 1, none⟩ (.int .i64 ((rd_T105 l0 x11_1).f1))).setCell ⟨gb121, 2, none⟩ (.int .i64 ((rd_T105 l0 x11_1).f2))) = w31 at n0_ n1_ n2_ n3_ n4_ n5_ ⊢
                      have HO_0 := n0_
                      have HO_5 := n1_
                      have HO_9 := n2_
                      have BK116 := n3_
                      have BK121 := n4_
                      have HB := n5_
                      clear n0_ n1_ n2_ n3_ n4_ n5_
                      have n0_ := Aside0.mk (Kd.V_drew HO_0.out)
                      have n1_ := Aside0.mk (Kd.R_drew HO_5.out)
                      have n2_ := Aside0.mk (Kd.V_drew HO_9.out)
                      have n3_ := Aside0.mk (blk_drew BK116.out)
                      have n4_ := Aside0.mk (blk_drew BK121.out)
                      have n5_ := Aside0.mk (below_drew1 HB.out)
                      clear HO_0
                      clear HO_5
                      clear HO_9
                      clear BK116
                      clear BK121
                      clear HB
                      have HO_0 := n0_
                      have HO_5 := n1_
                      have HO_9 := n2_
                      have BK116 := n3_
                      have BK121 := n4_
                      have HB := n5_
                      clear n0_ n1_ n2_ n3_ n4_ n5_
                      refine start_ (n := 9) (S := fun w' => w'.cell? ⟨gb116, 0, none⟩ = some (.int .i64 a1_0) ∧ w'.cell? ⟨gb116, 1, none⟩ = some (.int .i64 a1_1) ∧ w'.cell? ⟨gb116, 2, none⟩ = some (.int .i64 a1_2) ∧ w'.cell? ⟨gb121, 0, none⟩ = some (.int .i64 ((rd_T105 l0 x11_1).f0)) ∧ w'.cell? ⟨gb121, 1, none⟩ = some (.int .i64 ((rd_T105 l0 x11_1).f1)) ∧ w'.cell? ⟨gb121, 2, none⟩ = some (.int .i64 ((rd_T105 l0 x11_1).f2))) (ds := []) #[false, false, false, false, false, false, false, false, false] (by kernel_rfl) rfl rfl ⟨(blk_cell BK116.out 0).trans rfl, (blk_cell BK116.out 1).trans rfl, (blk_cell BK116.out 2).trans rfl, (blk_cell BK121.out 0).trans rfl, (blk_cell BK121.out 1).trans rfl, (blk_cell BK121.out 2).trans rfl⟩ (fun hHeld => ?_); refine with_tabW spec_l11Add.tab8 spec_l11Add.bits8 (fun HT_ HW_ => ?_)
                      generalize w31.drew = w32 at HO_0 HO_5 HO_9 BK116 BK121 HB hHeld ⊢
                      refine pure_ (i := 0) (N := some 19) (v := ?_) (a' := ?_) #[true, false, false, false, false, false, false, false, false] rfl rfl (any_of HT_.out (by kernel_rfl)) (fun _ _ _ h => h) (Or.inl ⟨by rfl, ?_⟩) ?_ ?_
                      rotate_left
                      · intro w'
                        go_simp
                        with_reducible rfl
                      rotate_left
                      · simp only [Act.put, List.setIfInBounds_toArray, List.set_cons_zero, List.set_cons_succ, i64_w, i32_w]
                        rfl
                      refine pure_ (i := 1) (N := some 20) (v := ?_) (a' := ?_) #[true, true, false, false, false, false, false, false, false] rfl rfl (any_of HT_.out (by kernel_rfl)) (fun _ _ _ h => h) (Or.inl ⟨by rfl, ?_⟩) ?_ ?_
                      rotate_left
                      · intro w'
                        go_simp
                        with_reducible rfl
                      rotate_left
                      · simp only [Act.put, List.setIfInBounds_toArray, List.set_cons_zero, List.set_cons_succ, i64_w, i32_w]
                        rfl
                      refine pure_ (i := 2) (N := some 21) (v := ?_) (a' := ?_) #[true, true, true, false, false, false, false, false, false] rfl rfl (any_of HT_.out (by kernel_rfl)) (fun _ _ _ h => h) (Or.inl ⟨by rfl, ?_⟩) ?_ ?_
                      rotate_left
                      · intro w'
                        go_simp
                        with_reducible rfl
                      rotate_left
                      · simp only [Act.put, List.setIfInBounds_toArray, List.set_cons_zero, List.set_cons_succ, i64_w, i32_w]
                        rfl
                      refine take_ (i := 3) (N := some 22) (v := ?_) (a' := ?_) #[true, true, true, true, false, false, false, false, false] rfl rfl (take_ofW HT_.out HW_.out (by kernel_rfl)) (fun _ _ _ h => h) (Or.inl ⟨by rfl, ?_⟩) hHeld ?_ ?_
                      rotate_left
                      · rintro w' ⟨s0, s1, s2, s3, s4, s5⟩
                        go_simp
                        with_reducible rfl
                      rotate_left
                      · simp only [Act.put, List.setIfInBounds_toArray, List.set_cons_zero, List.set_cons_succ, i64_w, i32_w]
                        rfl
                      refine take_ (i := 5) (N := some 24) (v := ?_) (a' := ?_) #[true, true, true, true, false, true, false, false, false] rfl rfl (take_ofW HT_.out HW_.out (by kernel_rfl)) (fun _ _ _ h => h) (Or.inl ⟨by rfl, ?_⟩) hHeld ?_ ?_
                      rotate_left
                      · rintro w' ⟨s0, s1, s2, s3, s4, s5⟩
                        go_simp
                        with_reducible rfl
                      rotate_left
                      · simp only [Act.put, List.setIfInBounds_toArray, List.set_cons_zero, List.set_cons_succ, i64_w, i32_w]
                        rfl
                      refine one_ (i := 4) (N := some 23) #[true, true, true, true, true, true, false, false, false] rfl rfl (one_of HT_.out (by kernel_rfl)) (by decide) (fun K hK => ?_)
                      first | refine goes_ Try.func120 (by kernel_rfl) rfl #[.agg #[.int .i64 a1_0, .int .i64 a1_1, .int .i64 a1_2]] (by rfl) rfl rfl (by (try simp only [List.map_toArray, List.map_cons, List.map_nil]); first | done | rfl | (simp only [List.length_drop, List.length_take]; rfl)) ?_ | refine goesV_ Try.func120 (by kernel_rfl) rfl #[.agg #[.int .i64 a1_0, .int .i64 a1_1, .int .i64 a1_2]] (by rfl) rfl rfl (by rfl) (by first | rfl | (simp only [List.map_toArray, List.map_cons, List.map_nil]; rfl)) ?_
                      with_reducible refine (spec_l11Key.calls a1_0 a1_1 a1_2 t125 _ A22.out).mono ?_
                      rintro e w33 ⟨rfl, hb⟩
                      refine ⟨_, rfl, ?_⟩
                      have n0_ := Aside0.mk (Kd.V_below (by (with_reducible repeat (first | apply Kd.V_alloc | apply Kd.V_drewN | apply Kd.V_drew)); exact HO_0.out) hb)
                      have n1_ := Aside0.mk (Kd.R_below (by (with_reducible repeat first|apply rA_|apply rN_|apply rD_); exact HO_5.out) hb)
                      have n2_ := Aside0.mk (Kd.V_below (by (with_reducible repeat (first | apply Kd.V_alloc | apply Kd.V_drewN | apply Kd.V_drew)); exact HO_9.out) hb)
                      have n3_ := Aside0.mk (blk_below (by (with_reducible repeat first|apply qN_|apply qD_|apply qA_); exact BK116.out) hb)
                      have n4_ := Aside0.mk (blk_below (by (with_reducible repeat first|apply qN_|apply qD_|apply qA_); exact BK121.out) hb)
                      have n5_ := Aside0.mk (below_step (by repeat (first | (with_reducible first|exact HB.out|apply vA_|apply vN_|apply vD_ | refine vS_ ?_ GE116.out | refine vS_ ?_ GE121.out) | exact HB.out)) hb)
                      clear HO_0
                      clear HO_5
                      clear HO_9
                      clear BK116
                      clear BK121
                      clear HB
                      have HO_0 := n0_
                      have HO_5 := n1_
                      have HO_9 := n2_
                      have BK116 := n3_
                      have BK121 := n4_
                      have HB := n5_
                      clear n0_ n1_ n2_ n3_ n4_ n5_
                      (try clear hb)
                      (try clear hb2)
                      (try clear hk)
                      (try clear hi)
                      refine hK.out _ _ ⟨(blk_cell BK116.out 0).trans rfl, (blk_cell BK116.out 1).trans rfl, (blk_cell BK116.out 2).trans rfl, (blk_cell BK121.out 0).trans rfl, (blk_cell BK121.out 1).trans rfl, (blk_cell BK121.out 2).trans rfl⟩ (fun hHeld => ?_)
                      clear hK K
                      refine norm_ (a' := ?_) ?_ ?_
                      rotate_left
                      · show Act.put _ (some 23) _ = _
                        simp only [Act.put, List.setIfInBounds_toArray, List.set_cons_zero, List.set_cons_succ, i64_w, i32_w]
                        rfl
                      refine one_ (i := 6) (N := some 25) #[true, true, true, true, true, true, true, false, false] rfl rfl (one_of HT_.out (by kernel_rfl)) (by decide) (fun K hK => ?_)
                      first | refine goes_ Try.func120 (by kernel_rfl) rfl #[.agg #[.int .i64 ((rd_T105 l0 x11_1).f0), .int .i64 ((rd_T105 l0 x11_1).f1), .int .i64 ((rd_T105 l0 x11_1).f2)]] (by rfl) rfl rfl (by (try simp only [List.map_toArray, List.map_cons, List.map_nil]); first | done | rfl | (simp only [List.length_drop, List.length_take]; rfl)) ?_ | refine goesV_ Try.func120 (by kernel_rfl) rfl #[.agg #[.int .i64 ((rd_T105 l0 x11_1).f0), .int .i64 ((rd_T105 l0 x11_1).f1), .int .i64 ((rd_T105 l0 x11_1).f2)]] (by rfl) rfl rfl (by rfl) (by first | rfl | (simp only [List.map_toArray, List.map_cons, List.map_nil]; rfl)) ?_
                      with_reducible refine (spec_l11Key.calls ((rd_T105 l0 x11_1).f0) ((rd_T105 l0 x11_1).f1) ((rd_T105 l0 x11_1).f2) t126 _ A23.out).mono ?_
                      rintro e w34 ⟨rfl, hb⟩
                      refine ⟨_, rfl, ?_⟩
                      have n0_ := Aside0.mk (Kd.V_below (by (with_reducible repeat (first | apply Kd.V_alloc | apply Kd.V_drewN | apply Kd.V_drew)); exact HO_0.out) hb)
                      have n1_ := Aside0.mk (Kd.R_below (by (with_reducible repeat first|apply rA_|apply rN_|apply rD_); exact HO_5.out) hb)
                      have n2_ := Aside0.mk (Kd.V_below (by (with_reducible repeat (first | apply Kd.V_alloc | apply Kd.V_drewN | apply Kd.V_drew)); exact HO_9.out) hb)
                      have n3_ := Aside0.mk (blk_below (by (with_reducible repeat first|apply qN_|apply qD_|apply qA_); exact BK116.out) hb)
                      have n4_ := Aside0.mk (blk_below (by (with_reducible repeat first|apply qN_|apply qD_|apply qA_); exact BK121.out) hb)
                      have n5_ := Aside0.mk (below_step (by repeat (first | (with_reducible first|exact HB.out|apply vA_|apply vN_|apply vD_ | refine vS_ ?_ GE116.out | refine vS_ ?_ GE121.out) | exact HB.out)) hb)
                      clear HO_0
                      clear HO_5
                      clear HO_9
                      clear BK116
                      clear BK121
                      clear HB
                      have HO_0 := n0_
                      have HO_5 := n1_
                      have HO_9 := n2_
                      have BK116 := n3_
                      have BK121 := n4_
                      have HB := n5_
                      clear n0_ n1_ n2_ n3_ n4_ n5_
                      (try clear hb)
                      (try clear hb2)
                      (try clear hk)
                      (try clear hi)
                      refine hK.out _ _ ⟨(blk_cell BK116.out 0).trans rfl, (blk_cell BK116.out 1).trans rfl, (blk_cell BK116.out 2).trans rfl, (blk_cell BK121.out 0).trans rfl, (blk_cell BK121.out 1).trans rfl, (blk_cell BK121.out 2).trans rfl⟩ (fun hHeld => ?_)
                      clear hK K
                      refine norm_ (a' := ?_) ?_ ?_
                      rotate_left
                      · show Act.put _ (some 25) _ = _
                        simp only [Act.put, List.setIfInBounds_toArray, List.set_cons_zero, List.set_cons_succ, i64_w, i32_w]
                        rfl
                      refine pure_ (i := 7) (N := some 26) (v := ?_) (a' := ?_) #[true, true, true, true, true, true, true, true, false] rfl rfl (any_of HT_.out (by kernel_rfl)) (fun _ _ _ h => h) (Or.inl ⟨by rfl, ?_⟩) ?_ ?_
                      rotate_left
                      · intro w'
                        go_simp
                        with_reducible rfl
                      rotate_left
                      · simp only [Act.put, List.setIfInBounds_toArray, List.set_cons_zero, List.set_cons_succ, i64_w, i32_w]
                        rfl
                      refine pure_ (i := 8) (N := some 27) (v := ?_) (a' := ?_) #[true, true, true, true, true, true, true, true, true] rfl rfl (any_of HT_.out (by kernel_rfl)) (fun _ _ _ h => h) (Or.inl ⟨by rfl, ?_⟩) ?_ ?_
                      rotate_left
                      · intro w'
                        go_simp
                        with_reducible rfl
                      rotate_left
                      · simp only [Act.put, List.setIfInBounds_toArray, List.set_cons_zero, List.set_cons_succ, i64_w, i32_w]
                        rfl
                      refine done_ (done_of HT_.out (by kernel_rfl)) ?_
                      have hcz35_0 : w34.cell? ⟨gb116, 0, none⟩ = some (.int .i64 a1_0) := (blk_cell BK116.out 0).trans rfl
                      have hcz35_1 : w34.cell? ⟨gb116, 1, none⟩ = some (.int .i64 a1_1) := (blk_cell BK116.out 1).trans rfl
                      have hcz35_2 : w34.cell? ⟨gb116, 2, none⟩ = some (.int .i64 a1_2) := (blk_cell BK116.out 2).trans rfl
                      have hfz35_0 := blk_frozen BK116.out 0
                      have hfz35_1 := blk_frozen BK116.out 1
                      have hfz35_2 := blk_frozen BK116.out 2
                      try go_wp2_with (first | ((with_reducible refine gate_builtin (b := .append) (xs := #[.tmp 28, .tmp 30]) rfl ?_); at_builtin; refine Kd.R_append k105 (w0 := w) w.heap.size rfl (.tmp 28) (.tmp 30) 46 105 (.agg #[(.int .i64 0), (.int .i64 0), (.int .i64 0)]) 24 rfl Try.underlying46 info105 rfl (by decide) (by omega) u5 x5_1 (⟨a1_0, a1_1, a1_2⟩ : S105) [.int .i64 a1_0, .int .i64 a1_1, .int .i64 a1_2] (fun k_ => (w.heap.size ≤ k_) ∧ k_ ≠ gb116 ∧ k_ ≠ gb121) (fun _ => False) rfl rfl ?aP (fun _ hk => hk.elim) ?aF ?aO ?aB ?aS ?aL ?_; (case aP => exact k105_mkM _ _ _ (⟨a1_0, a1_1, a1_2⟩ : S105)); (case aB => exact (by repeat (first | (with_reducible first|exact HB.out|apply vA_|apply vN_|apply vD_ | refine vS_ ?_ GE116.out | refine vS_ ?_ GE121.out) | exact HB.out))); (case aF => exact (fun k_ hk => ⟨(Nat.le_trans (below_size (by repeat (first | (with_reducible first|exact HB.out|apply vA_|apply vN_|apply vD_ | refine vS_ ?_ GE116.out | refine vS_ ?_ GE121.out) | exact HB.out))) hk), Kd.freshB (g := gb116) (o := .cells #[.int .i64 a1_0, .int .i64 a1_1, .int .i64 a1_2] 105 (0, 0)) (by (with_reducible repeat first|apply qN_|apply qD_|apply qA_); exact BK116.out) k_ hk, Kd.freshB (g := gb121) (o := .cells #[.int .i64 ((rd_T105 l0 x11_1).f0), .int .i64 ((rd_T105 l0 x11_1).f1), .int .i64 ((rd_T105 l0 x11_1).f2)] 105 (0, 0)) (by (with_reducible repeat first|apply qN_|apply qD_|apply qA_); exact BK121.out) k_ hk⟩)); (case aO => exact (by (with_reducible repeat first|apply rA_|apply rN_|apply rD_); exact HO_5.out)); (case aS => exact (below_size (by repeat (first | (with_reducible first|exact HB.out|apply vA_|apply vN_|apply vD_ | refine vS_ ?_ GE116.out | refine vS_ ?_ GE121.out) | exact HB.out)))); (case aL => have := LMc25.out; omega); intro v128 w36 ho hb hg hat; rw [← Ny127.out] at ho; have n0_ := Aside0.mk (Kd.V_afterv (ok := (fun k_ => (P0_ k_ ∨ w.heap.size ≤ k_) ∧ k_ ≠ gb116 ∧ k_ ≠ gb121)) (by (with_reducible repeat (first | apply Kd.V_alloc | apply Kd.V_drewN | apply Kd.V_drew)); exact Kd.V_mono HO_0.out (fun _ hk => ⟨⟨hk.1, ⟨hk.2.2.1, hk.2.2.2⟩⟩, hk.2.1⟩)) hg hat); have n1_ := Aside0.mk (Kd.V_afterv (ok := (fun k_ => (P0_ k_ ∨ w.heap.size ≤ k_) ∧ k_ ≠ gb116 ∧ k_ ≠ gb121)) (by (with_reducible repeat (first | apply Kd.V_alloc | apply Kd.V_drewN | apply Kd.V_drew)); exact Kd.V_mono HO_9.out (fun _ hk => ⟨⟨hk.1, ⟨hk.2.2.1, hk.2.2.2⟩⟩, hk.2.1⟩)) hg hat); have n2_ := Aside0.mk (blk_grown (g := gb116) (o := .cells #[.int .i64 a1_0, .int .i64 a1_1, .int .i64 a1_2] 105 (0, 0)) (by (with_reducible repeat first|apply qN_|apply qD_|apply qA_); exact BK116.out) hg (Kd.R_away HO_5.out (fun _ hk => hk.2.1))); have n3_ := Aside0.mk (blk_grown (g := gb121) (o := .cells #[.int .i64 ((rd_T105 l0 x11_1).f0), .int .i64 ((rd_T105 l0 x11_1).f1), .int .i64 ((rd_T105 l0 x11_1).f2)] 105 (0, 0)) (by (with_reducible repeat first|apply qN_|apply qD_|apply qA_); exact BK121.out) hg (Kd.R_away HO_5.out (fun _ hk => hk.2.2))); have n4_ := Aside0.mk (hb); have n5_ := Aside0.mk (ho); clear HO_0; clear HO_9; clear BK116; clear BK121; clear HB; clear HO_5; have HO_0 := n0_; have HO_9 := n1_; have BK116 := n2_; have BK121 := n3_; have HB := n4_; have HO129 := n5_; clear n0_ n1_ n2_ n3_ n4_ n5_; clear ho hb hg hat; have hcz37_0 : w36.cell? ⟨gb121, 0, none⟩ = some (.int .i64 ((rd_T105 l0 x11_1).f0)) := (blk_cell BK121.out 0).trans rfl; have hcz37_1 : w36.cell? ⟨gb121, 1, none⟩ = some (.int .i64 ((rd_T105 l0 x11_1).f1)) := (blk_cell BK121.out 1).trans rfl; have hcz37_2 : w36.cell? ⟨gb121, 2, none⟩ = some (.int .i64 ((rd_T105 l0 x11_1).f2)) := (blk_cell BK121.out 2).trans rfl; have hfz37_0 := blk_frozen BK121.out 0; have hfz37_1 := blk_frozen BK121.out 1; have hfz37_2 := blk_frozen BK121.out 2) | ((with_reducible refine gate_builtin (b := .append) (xs := #[.tmp 32, .tmp 34]) rfl ?_); at_builtin; refine Kd.R_append k105 (w0 := w) w.heap.size rfl (.tmp 32) (.tmp 34) 46 105 (.agg #[(.int .i64 0), (.int .i64 0), (.int .i64 0)]) 24 rfl Try.underlying46 info105 rfl (by decide) (by omega) v128 y127 (⟨(rd_T105 l0 x11_1).f0, (rd_T105 l0 x11_1).f1, (rd_T105 l0 x11_1).f2⟩ : S105) [.int .i64 ((rd_T105 l0 x11_1).f0), .int .i64 ((rd_T105 l0 x11_1).f1), .int .i64 ((rd_T105 l0 x11_1).f2)] (fun k_ => (w.heap.size ≤ k_) ∧ k_ ≠ gb116 ∧ k_ ≠ gb121) (fun _ => False) rfl rfl ?aP (fun _ hk => hk.elim) ?aF ?aO ?aB ?aS ?aL ?_; (case aP => exact k105_mkM _ _ _ (⟨(rd_T105 l0 x11_1).f0, (rd_T105 l0 x11_1).f1, (rd_T105 l0 x11_1).f2⟩ : S105)); (case aB => exact (by repeat (first | (with_reducible first|exact HB.out|apply vA_|apply vN_|apply vD_ | refine vS_ ?_ GE116.out | refine vS_ ?_ GE121.out) | exact HB.out))); (case aF => exact (fun k_ hk => ⟨(Nat.le_trans (below_size (by repeat (first | (with_reducible first|exact HB.out|apply vA_|apply vN_|apply vD_ | refine vS_ ?_ GE116.out | refine vS_ ?_ GE121.out) | exact HB.out))) hk), Kd.freshB (g := gb116) (o := .cells #[.int .i64 a1_0, .int .i64 a1_1, .int .i64 a1_2] 105 (0, 0)) (by (with_reducible repeat first|apply qN_|apply qD_|apply qA_); exact BK116.out) k_ hk, Kd.freshB (g := gb121) (o := .cells #[.int .i64 ((rd_T105 l0 x11_1).f0), .int .i64 ((rd_T105 l0 x11_1).f1), .int .i64 ((rd_T105 l0 x11_1).f2)] 105 (0, 0)) (by (with_reducible repeat first|apply qN_|apply qD_|apply qA_); exact BK121.out) k_ hk⟩)); (case aO => exact (by (with_reducible repeat first|apply rA_|apply rN_|apply rD_); exact HO129.out)); (case aS => exact (below_size (by repeat (first | (with_reducible first|exact HB.out|apply vA_|apply vN_|apply vD_ | refine vS_ ?_ GE116.out | refine vS_ ?_ GE121.out) | exact HB.out)))); (case aL => have := LMc26.out; omega); intro v131 w38 ho hb hg hat; rw [← Ny130.out] at ho; have n0_ := Aside0.mk (Kd.V_afterv (ok := (fun k_ => (P0_ k_ ∨ w.heap.size ≤ k_) ∧ k_ ≠ gb116 ∧ k_ ≠ gb121)) (by (with_reducible repeat (first | apply Kd.V_alloc | apply Kd.V_drewN | apply Kd.V_drew)); exact HO_0.out) hg hat); have n1_ := Aside0.mk (Kd.V_afterv (ok := (fun k_ => (P0_ k_ ∨ w.heap.size ≤ k_) ∧ k_ ≠ gb116 ∧ k_ ≠ gb121)) (by (with_reducible repeat (first | apply Kd.V_alloc | apply Kd.V_drewN | apply Kd.V_drew)); exact HO_9.out) hg hat); have n2_ := Aside0.mk (blk_grown (g := gb116) (o := .cells #[.int .i64 a1_0, .int .i64 a1_1, .int .i64 a1_2] 105 (0, 0)) (by (with_reducible repeat first|apply qN_|apply qD_|apply qA_); exact BK116.out) hg (Kd.R_away HO129.out (fun _ hk => hk.2.1))); have n3_ := Aside0.mk (blk_grown (g := gb121) (o := .cells #[.int .i64 ((rd_T105 l0 x11_1).f0), .int .i64 ((rd_T105 l0 x11_1).f1), .int .i64 ((rd_T105 l0 x11_1).f2)] 105 (0, 0)) (by (with_reducible repeat first|apply qN_|apply qD_|apply qA_); exact BK121.out) hg (Kd.R_away HO129.out (fun _ hk => hk.2.2))); have n4_ := Aside0.mk (hb); have n5_ := Aside0.mk (ho); clear HO_0; clear HO_9; clear BK116; clear BK121; clear HB; clear HO129; have HO_0 := n0_; have HO_9 := n1_; have BK116 := n2_; have BK121 := n3_; have HB := n4_; have HO132 := n5_; clear n0_ n1_ n2_ n3_ n4_ n5_; clear ho hb hg hat))
                      go_roundg k1
                      case measure => have := HK1.out; omega
                      case rel => exact ⟨(y130), (true), (wrap64 (x11_1 + 1)), (by first | rfl | (simp; done) | (simp [*]; done)), (by first | rfl | (simp; done) | (simp [*]; done)), H', ⟨by have := HK1.out; omega⟩, ⟨by (with_reducible repeat (first | apply Kd.V_alloc | apply Kd.V_drewN | apply Kd.V_drew)); exact Kd.V_mono HO_0.out (fun _ hk => ⟨hk.1.1, ⟨hk.2, hk.1.2.1⟩⟩)⟩, ⟨by (with_reducible repeat first|apply rA_|apply rN_|apply rD_); exact Kd.R_mono HO132.out (fun _ hk => ⟨hk.1, hk.2.1⟩)⟩, ⟨by (with_reducible repeat (first | apply Kd.V_alloc | apply Kd.V_drewN | apply Kd.V_drew)); exact Kd.V_mono HO_9.out (fun _ hk => ⟨hk.1.1, ⟨hk.2, hk.1.2.1⟩⟩)⟩, ⟨by (with_reducible repeat first|apply qN_|apply qD_|apply qA_); exact BK116.out⟩, ⟨by repeat (first | (with_reducible first|exact HB.out|apply vA_|apply vN_|apply vD_ | refine vS_ ?_ GE116.out | refine vS_ ?_ GE121.out) | exact HB.out)⟩⟩
                    · rw [if_neg c26] at H
                      exact absurd H (by simp)
                  · rw [if_neg c25] at H
                    exact absurd H (by simp)
                · rw [if_neg c24] at H
                  have c24b0 : decide (t125 < t126) = false := decide_eq_false c24
                  clear c24
                  by_cases c39 : x5_1.length < 5864062014805
                  · rw [if_pos c39] at H
                    have LMc39 := Aside0.mk c39
                    clear c39
                    obtain ⟨y133, hy133⟩ : ∃ y_ : List (S105), y_ = (x5_1 ++ [(⟨(rd_T105 l0 x11_1).f0, (rd_T105 l0 x11_1).f1, (rd_T105 l0 x11_1).f2⟩ : S105)]) := ⟨_, rfl⟩
                    replace H : (spec_l11Add.l0 k1 l0 y133 false l0 (l0.length : Int) (wrap64 (x11_1 + 1)) a1_0 a1_1 a1_2) = some r := by first | (rw [hy133]; with_reducible exact H) | (have H2_ := (Option.bind_some _ _).symm.trans H; rw [hy133]; with_reducible exact H2_) | (have H2_ := (Option.bind_some _ _).symm.trans H; with_reducible exact H2_) | with_reducible exact H | (rw [hy133]; exact H) | exact H
                    have Ny133 := Aside0.mk hy133
                    clear hy133
                    have H' := Aside0.mk H
                    clear H
                    have p120 : 0 ≤ (x11_1 : Int) := of_decide_eq_true (by first | (with_reducible assumption) | assumption)
                    have q120 : x11_1 < (l0.length : Int) := of_decide_eq_true (by first | (with_reducible assumption) | assumption)
                    obtain ⟨ad120, e120, hx120_0, hx120_1, hx120_2⟩ := at_T105 (Kd.V_reads' HO_9.out).2.2 x11_1 p120 q120
                    cases e120
                    replace p120 := eq_true p120
                    replace q120 := eq_true q120
                    try go_wp2_with (first | ((with_reducible refine gate_dst (N := 8) rfl ?_); refine box_event ?hg (N := 8) ?hd (cs := #[.int .i64 0, .int .i64 0, .int .i64 0]) (t := 105) ?hr ?_; (case hd => rfl); (case hg => rfl); (case hr => first | (go_simp; done) | (go_simp; rfl)); intro gb121 hg w40 hbox hb; have n0_ := Aside0.mk (Kd.V_below (Kd.V_elderB (by (with_reducible repeat (first | apply Kd.V_alloc | apply Kd.V_drewN | apply Kd.V_drew)); exact HO_0.out) gb121 (Nat.le_of_eq hg.symm)) hb); have n1_ := Aside0.mk (Kd.R_below (Kd.R_elderB (by (with_reducible repeat first|apply rA_|apply rN_|apply rD_); exact HO_5.out) gb121 (Nat.le_of_eq hg.symm)) hb); have n2_ := Aside0.mk (Kd.V_below (Kd.V_elderB (by (with_reducible repeat (first | apply Kd.V_alloc | apply Kd.V_drewN | apply Kd.V_drew)); exact HO_9.out) gb121 (Nat.le_of_eq hg.symm)) hb); have n3_ := Aside0.mk (blk_below (by (with_reducible repeat first|apply qN_|apply qD_|apply qA_); exact BK116.out) hb); have n4_ := Aside0.mk (below_step (by repeat (first | (with_reducible first|exact HB.out|apply vA_|apply vN_|apply vD_ | refine vS_ ?_ GE116.out) | exact HB.out)) hb); have n5_ := Aside0.mk (hbox); have n6_ := Aside0.mk ((by rw [hg]; exact (below_size (by repeat (first | (with_reducible first|exact HB.out|apply vA_|apply vN_|apply vD_ | refine vS_ ?_ GE116.out) | exact HB.out))) : w.heap.size ≤ gb121)); have n7_ := Aside0.mk ((by rw [hg]; exact (below_size (by repeat (first | (with_reducible first|exact HB.out|apply vA_|apply vN_|apply vD_ | refine vS_ ?_ GE116.out) | exact HB.out))) : w.heap.size ≤ gb121)); have n8_ := Aside0.mk ((by rw [hg]; exact Nat.ne_of_lt (blk_lt (g := gb116) (o := .cells #[.int .i64 a1_0, .int .i64 a1_1, .int .i64 a1_2] 105 (0, 0)) (by (with_reducible repeat first|apply qN_|apply qD_|apply qA_); exact BK116.out)) : gb116 ≠ gb121)); have n9_ := Aside0.mk ((by rw [hg]; exact Nat.ne_of_gt (blk_lt (g := gb116) (o := .cells #[.int .i64 a1_0, .int .i64 a1_1, .int .i64 a1_2] 105 (0, 0)) (by (with_reducible repeat first|apply qN_|apply qD_|apply qA_); exact BK116.out)) : gb121 ≠ gb116)); clear HO_0; clear HO_5; clear HO_9; clear BK116; clear HB; have HO_0 := n0_; have HO_5 := n1_; have HO_9 := n2_; have BK116 := n3_; have HB := n4_; have BK121 := n5_; have GW121 := n6_; have GE121 := n7_; have NB116_121 := n8_; have NB121_116 := n9_; clear n0_ n1_ n2_ n3_ n4_ n5_ n6_ n7_ n8_ n9_; clear hb hbox hg; have hnb41 := NB121_116.out; have hnc41 := NB116_121.out; have hcz42_0 : w40.cell? ⟨gb121, 0, none⟩ = some (.int .i64 0) := (blk_cell BK121.out 0).trans rfl; have hcz42_1 : w40.cell? ⟨gb121, 1, none⟩ = some (.int .i64 0) := (blk_cell BK121.out 1).trans rfl; have hcz42_2 : w40.cell? ⟨gb121, 2, none⟩ = some (.int .i64 0) := (blk_cell BK121.out 2).trans rfl; have hfz42_0 := blk_frozen BK121.out 0; have hfz42_1 := blk_frozen BK121.out 1; have hfz42_2 := blk_frozen BK121.out 2; have hcz43_0 : w40.cell? ⟨gb116, 0, none⟩ = some (.int .i64 a1_0) := (blk_cell BK116.out 0).trans rfl; have hcz43_1 : w40.cell? ⟨gb116, 1, none⟩ = some (.int .i64 a1_1) := (blk_cell BK116.out 1).trans rfl; have hcz43_2 : w40.cell? ⟨gb116, 2, none⟩ = some (.int .i64 a1_2) := (blk_cell BK116.out 2).trans rfl; have hfz43_0 := blk_frozen BK116.out 0; have hfz43_1 := blk_frozen BK116.out 1; have hfz43_2 := blk_frozen BK116.out 2))
                    have n0_ : Aside0 (Kd.V k105 105 (((w40.setCell ⟨gb121, 0, none⟩ (.int .i64 ((rd_T105 l0 x11_1).f0))).setCell ⟨gb121, 1, none⟩ (.int .i64 ((rd_T105 l0 x11_1).f1))).setCell ⟨gb121, 2, none⟩ (.int .i64 ((rd_T105 l0 x11_1).f2))) w.heap.size (fun k_ => (P0_ k_ ∨ w.heap.size ≤ k_) ∧ some k_ ≠ (u5 : Value).ownBlock ∧ k_ ≠ gb116 ∧ k_ ≠ gb121) (.slice (some ad120) l0.length c0) l0) := ⟨by (with_reducible repeat (first | apply Kd.V_alloc | apply Kd.V_drewN | apply Kd.V_drew)); exact Kd.V_mono (Kd.V_far (p := ⟨gb121, 2, none⟩) (Kd.V_far (p := ⟨gb121, 1, none⟩) (Kd.V_far (p := ⟨gb121, 0, none⟩) (Kd.V_mono HO_0.out (fun k_ hk => (⟨hk, hk.2⟩ : _ ∧ k_ ≠ gb121))) (fun _ hk => hk.2) (.int .i64 ((rd_T105 l0 x11_1).f0))) (fun _ hk => hk.2) (.int .i64 ((rd_T105 l0 x11_1).f1))) (fun _ hk => hk.2) (.int .i64 ((rd_T105 l0 x11_1).f2))) (fun _ hk => ⟨hk.1.1.1, ⟨hk.1.1.2.1, ⟨hk.1.1.2.2, hk.1.2⟩⟩⟩)⟩
                    have n1_ : Aside0 (Kd.R k105 105 (((w40.setCell ⟨gb121, 0, none⟩ (.int .i64 ((rd_T105 l0 x11_1).f0))).setCell ⟨gb121, 1, none⟩ (.int .i64 ((rd_T105 l0 x11_1).f1))).setCell ⟨gb121, 2, none⟩ (.int .i64 ((rd_T105 l0 x11_1).f2))) w.heap.size (fun k_ => (w.heap.size ≤ k_) ∧ k_ ≠ gb116 ∧ k_ ≠ gb121) u5 x5_1) := ⟨by (with_reducible repeat first|apply rA_|apply rN_|apply rD_); exact Kd.R_mono (Kd.R_far (p := ⟨gb121, 2, none⟩) (Kd.R_far (p := ⟨gb121, 1, none⟩) (Kd.R_far (p := ⟨gb121, 0, none⟩) (Kd.R_mono HO_5.out (fun k_ hk => (⟨hk, hk.2⟩ : _ ∧ k_ ≠ gb121))) (fun _ hk => hk.2) (.int .i64 ((rd_T105 l0 x11_1).f0))) (fun _ hk => hk.2) (.int .i64 ((rd_T105 l0 x11_1).f1))) (fun _ hk => hk.2) (.int .i64 ((rd_T105 l0 x11_1).f2))) (fun _ hk => ⟨hk.1.1.1, ⟨hk.1.1.2, hk.1.2⟩⟩)⟩
                    have n2_ : Aside0 (Kd.V k105 105 (((w40.setCell ⟨gb121, 0, none⟩ (.int .i64 ((rd_T105 l0 x11_1).f0))).setCell ⟨gb121, 1, none⟩ (.int .i64 ((rd_T105 l0 x11_1).f1))).setCell ⟨gb121, 2, none⟩ (.int .i64 ((rd_T105 l0 x11_1).f2))) w.heap.size (fun k_ => (P0_ k_ ∨ w.heap.size ≤ k_) ∧ some k_ ≠ (u5 : Value).ownBlock ∧ k_ ≠ gb116 ∧ k_ ≠ gb121) (.slice (some ad120) l0.length c0) l0) := ⟨by (with_reducible repeat (first | apply Kd.V_alloc | apply Kd.V_drewN | apply Kd.V_drew)); exact Kd.V_mono (Kd.V_far (p := ⟨gb121, 2, none⟩) (Kd.V_far (p := ⟨gb121, 1, none⟩) (Kd.V_far (p := ⟨gb121, 0, none⟩) (Kd.V_mono HO_9.out (fun k_ hk => (⟨hk, hk.2⟩ : _ ∧ k_ ≠ gb121))) (fun _ hk => hk.2) (.int .i64 ((rd_T105 l0 x11_1).f0))) (fun _ hk => hk.2) (.int .i64 ((rd_T105 l0 x11_1).f1))) (fun _ hk => hk.2) (.int .i64 ((rd_T105 l0 x11_1).f2))) (fun _ hk => ⟨hk.1.1.1, ⟨hk.1.1.2.1, ⟨hk.1.1.2.2, hk.1.2⟩⟩⟩)⟩
                    have n3_ : Aside0 ((((w40.setCell ⟨gb121, 0, none⟩ (.int .i64 ((rd_T105 l0 x11_1).f0))).setCell ⟨gb121, 1, none⟩ (.int .i64 ((rd_T105 l0 x11_1).f1))).setCell ⟨gb121, 2, none⟩ (.int .i64 ((rd_T105 l0 x11_1).f2))).heap[gb116]? = some (.cells #[.int .i64 a1_0, .int .i64 a1_1, .int .i64 a1_2] 105 (0, 0))) := ⟨by (with_reducible repeat first|apply qN_|apply qD_|apply qA_); refine blk_far ?_ NB116_121.out _; (with_reducible repeat first|apply qN_|apply qD_|apply qA_); refine blk_far ?_ NB116_121.out _; (with_reducible repeat first|apply qN_|apply qD_|apply qA_); refine blk_far ?_ NB116_121.out _; (with_reducible repeat first|apply qN_|apply qD_|apply qA_); exact BK116.out⟩
                    have n4_ : Aside0 ((((w40.setCell ⟨gb121, 0, none⟩ (.int .i64 ((rd_T105 l0 x11_1).f0))).setCell ⟨gb121, 1, none⟩ (.int .i64 ((rd_T105 l0 x11_1).f1))).setCell ⟨gb121, 2, none⟩ (.int .i64 ((rd_T105 l0 x11_1).f2))).heap[gb121]? = some (.cells #[.int .i64 ((rd_T105 l0 x11_1).f0), .int .i64 ((rd_T105 l0 x11_1).f1), .int .i64 ((rd_T105 l0 x11_1).f2)] 105 (0, 0))) := ⟨by (with_reducible repeat first|apply qN_|apply qD_|apply qA_); refine blk_put (cs := #[.int .i64 ((rd_T105 l0 x11_1).f0), .int .i64 ((rd_T105 l0 x11_1).f1), .int .i64 0]) ?_ 2 _ rfl; (with_reducible repeat first|apply qN_|apply qD_|apply qA_); refine blk_put (cs := #[.int .i64 ((rd_T105 l0 x11_1).f0), .int .i64 0, .int .i64 0]) ?_ 1 _ rfl; (with_reducible repeat first|apply qN_|apply qD_|apply qA_); refine blk_put (cs := #[.int .i64 0, .int .i64 0, .int .i64 0]) ?_ 0 _ rfl; (with_reducible repeat first|apply qN_|apply qD_|apply qA_); exact BK121.out⟩
                    have n5_ : Aside0 (Below w.heap.size w (((w40.setCell ⟨gb121, 0, none⟩ (.int .i64 ((rd_T105 l0 x11_1).f0))).setCell ⟨gb121, 1, none⟩ (.int .i64 ((rd_T105 l0 x11_1).f1))).setCell ⟨gb121, 2, none⟩ (.int .i64 ((rd_T105 l0 x11_1).f2)))) := ⟨by repeat (first | (with_reducible first|exact HB.out|apply vA_|apply vN_|apply vD_ | refine vS_ ?_ GE116.out | refine vS_ ?_ GE121.out) | exact HB.out)⟩
                    (try clear HO_0)
                    (try clear HO_5)
                    (try clear HO_9)
                    (try clear BK116)
                    (try clear BK121)
                    (try clear HB)
                    generalize (((w40.setCell ⟨gb121, 0, none⟩ (.int .i64 ((rd_T105 l0 x11_1).f0))).setCell ⟨gb121, 1, none⟩ (.int .i64 ((rd_T105 l0 x11_1).f1))).setCell ⟨gb121, 2, none⟩ (.int .i64 ((rd_T105 l0 x11_1).f2))) = w44 at n0_ n1_ n2_ n3_ n4_ n5_ ⊢
                    have HO_0 := n0_
                    have HO_5 := n1_
                    have HO_9 := n2_
                    have BK116 := n3_
                    have BK121 := n4_
                    have HB := n5_
                    clear n0_ n1_ n2_ n3_ n4_ n5_
                    have n0_ := Aside0.mk (Kd.V_drew HO_0.out)
                    have n1_ := Aside0.mk (Kd.R_drew HO_5.out)
                    have n2_ := Aside0.mk (Kd.V_drew HO_9.out)
                    have n3_ := Aside0.mk (blk_drew BK116.out)
                    have n4_ := Aside0.mk (blk_drew BK121.out)
                    have n5_ := Aside0.mk (below_drew1 HB.out)
                    clear HO_0
                    clear HO_5
                    clear HO_9
                    clear BK116
                    clear BK121
                    clear HB
                    have HO_0 := n0_
                    have HO_5 := n1_
                    have HO_9 := n2_
                    have BK116 := n3_
                    have BK121 := n4_
                    have HB := n5_
                    clear n0_ n1_ n2_ n3_ n4_ n5_
                    refine start_ (n := 9) (S := fun w' => w'.cell? ⟨gb116, 0, none⟩ = some (.int .i64 a1_0) ∧ w'.cell? ⟨gb116, 1, none⟩ = some (.int .i64 a1_1) ∧ w'.cell? ⟨gb116, 2, none⟩ = some (.int .i64 a1_2) ∧ w'.cell? ⟨gb121, 0, none⟩ = some (.int .i64 ((rd_T105 l0 x11_1).f0)) ∧ w'.cell? ⟨gb121, 1, none⟩ = some (.int .i64 ((rd_T105 l0 x11_1).f1)) ∧ w'.cell? ⟨gb121, 2, none⟩ = some (.int .i64 ((rd_T105 l0 x11_1).f2))) (ds := []) #[false, false, false, false, false, false, false, false, false] (by kernel_rfl) rfl rfl ⟨(blk_cell BK116.out 0).trans rfl, (blk_cell BK116.out 1).trans rfl, (blk_cell BK116.out 2).trans rfl, (blk_cell BK121.out 0).trans rfl, (blk_cell BK121.out 1).trans rfl, (blk_cell BK121.out 2).trans rfl⟩ (fun hHeld => ?_); refine with_tabW spec_l11Add.tab8 spec_l11Add.bits8 (fun HT_ HW_ => ?_)
                    generalize w44.drew = w45 at HO_0 HO_5 HO_9 BK116 BK121 HB hHeld ⊢
                    refine pure_ (i := 0) (N := some 19) (v := ?_) (a' := ?_) #[true, false, false, false, false, false, false, false, false] rfl rfl (any_of HT_.out (by kernel_rfl)) (fun _ _ _ h => h) (Or.inl ⟨by rfl, ?_⟩) ?_ ?_
                    rotate_left
                    · intro w'
                      go_simp
                      with_reducible rfl
                    rotate_left
                    · simp only [Act.put, List.setIfInBounds_toArray, List.set_cons_zero, List.set_cons_succ, i64_w, i32_w]
                      rfl
                    refine pure_ (i := 1) (N := some 20) (v := ?_) (a' := ?_) #[true, true, false, false, false, false, false, false, false] rfl rfl (any_of HT_.out (by kernel_rfl)) (fun _ _ _ h => h) (Or.inl ⟨by rfl, ?_⟩) ?_ ?_
                    rotate_left
                    · intro w'
                      go_simp
                      with_reducible rfl
                    rotate_left
                    · simp only [Act.put, List.setIfInBounds_toArray, List.set_cons_zero, List.set_cons_succ, i64_w, i32_w]
                      rfl
                    refine pure_ (i := 2) (N := some 21) (v := ?_) (a' := ?_) #[true, true, true, false, false, false, false, false, false] rfl rfl (any_of HT_.out (by kernel_rfl)) (fun _ _ _ h => h) (Or.inl ⟨by rfl, ?_⟩) ?_ ?_
                    rotate_left
                    · intro w'
                      go_simp
                      with_reducible rfl
                    rotate_left
                    · simp only [Act.put, List.setIfInBounds_toArray, List.set_cons_zero, List.set_cons_succ, i64_w, i32_w]
                      rfl
                    refine take_ (i := 3) (N := some 22) (v := ?_) (a' := ?_) #[true, true, true, true, false, false, false, false, false] rfl rfl (take_ofW HT_.out HW_.out (by kernel_rfl)) (fun _ _ _ h => h) (Or.inl ⟨by rfl, ?_⟩) hHeld ?_ ?_
                    rotate_left
                    · rintro w' ⟨s0, s1, s2, s3, s4, s5⟩
                      go_simp
                      with_reducible rfl
                    rotate_left
                    · simp only [Act.put, List.setIfInBounds_toArray, List.set_cons_zero, List.set_cons_succ, i64_w, i32_w]
                      rfl
                    refine take_ (i := 5) (N := some 24) (v := ?_) (a' := ?_) #[true, true, true, true, false, true, false, false, false] rfl rfl (take_ofW HT_.out HW_.out (by kernel_rfl)) (fun _ _ _ h => h) (Or.inl ⟨by rfl, ?_⟩) hHeld ?_ ?_
                    rotate_left
                    · rintro w' ⟨s0, s1, s2, s3, s4, s5⟩
                      go_simp
                      with_reducible rfl
                    rotate_left
                    · simp only [Act.put, List.setIfInBounds_toArray, List.set_cons_zero, List.set_cons_succ, i64_w, i32_w]
                      rfl
                    refine one_ (i := 4) (N := some 23) #[true, true, true, true, true, true, false, false, false] rfl rfl (one_of HT_.out (by kernel_rfl)) (by decide) (fun K hK => ?_)
                    first | refine goes_ Try.func120 (by kernel_rfl) rfl #[.agg #[.int .i64 a1_0, .int .i64 a1_1, .int .i64 a1_2]] (by rfl) rfl rfl (by (try simp only [List.map_toArray, List.map_cons, List.map_nil]); first | done | rfl | (simp only [List.length_drop, List.length_take]; rfl)) ?_ | refine goesV_ Try.func120 (by kernel_rfl) rfl #[.agg #[.int .i64 a1_0, .int .i64 a1_1, .int .i64 a1_2]] (by rfl) rfl rfl (by rfl) (by first | rfl | (simp only [List.map_toArray, List.map_cons, List.map_nil]; rfl)) ?_
                    with_reducible refine (spec_l11Key.calls a1_0 a1_1 a1_2 t125 _ A22.out).mono ?_
                    rintro e w46 ⟨rfl, hb⟩
                    refine ⟨_, rfl, ?_⟩
                    have n0_ := Aside0.mk (Kd.V_below (by (with_reducible repeat (first | apply Kd.V_alloc | apply Kd.V_drewN | apply Kd.V_drew)); exact HO_0.out) hb)
                    have n1_ := Aside0.mk (Kd.R_below (by (with_reducible repeat first|apply rA_|apply rN_|apply rD_); exact HO_5.out) hb)
                    have n2_ := Aside0.mk (Kd.V_below (by (with_reducible repeat (first | apply Kd.V_alloc | apply Kd.V_drewN | apply Kd.V_drew)); exact HO_9.out) hb)
                    have n3_ := Aside0.mk (blk_below (by (with_reducible repeat first|apply qN_|apply qD_|apply qA_); exact BK116.out) hb)
                    have n4_ := Aside0.mk (blk_below (by (with_reducible repeat first|apply qN_|apply qD_|apply qA_); exact BK121.out) hb)
                    have n5_ := Aside0.mk (below_step (by repeat (first | (with_reducible first|exact HB.out|apply vA_|apply vN_|apply vD_ | refine vS_ ?_ GE116.out | refine vS_ ?_ GE121.out) | exact HB.out)) hb)
                    clear HO_0
                    clear HO_5
                    clear HO_9
                    clear BK116
                    clear BK121
                    clear HB
                    have HO_0 := n0_
                    have HO_5 := n1_
                    have HO_9 := n2_
                    have BK116 := n3_
                    have BK121 := n4_
                    have HB := n5_
                    clear n0_ n1_ n2_ n3_ n4_ n5_
                    (try clear hb)
                    (try clear hb2)
                    (try clear hk)
                    (try clear hi)
                    refine hK.out _ _ ⟨(blk_cell BK116.out 0).trans rfl, (blk_cell BK116.out 1).trans rfl, (blk_cell BK116.out 2).trans rfl, (blk_cell BK121.out 0).trans rfl, (blk_cell BK121.out 1).trans rfl, (blk_cell BK121.out 2).trans rfl⟩ (fun hHeld => ?_)
                    clear hK K
                    refine norm_ (a' := ?_) ?_ ?_
                    rotate_left
                    · show Act.put _ (some 23) _ = _
                      simp only [Act.put, List.setIfInBounds_toArray, List.set_cons_zero, List.set_cons_succ, i64_w, i32_w]
                      rfl
                    refine one_ (i := 6) (N := some 25) #[true, true, true, true, true, true, true, false, false] rfl rfl (one_of HT_.out (by kernel_rfl)) (by decide) (fun K hK => ?_)
                    first | refine goes_ Try.func120 (by kernel_rfl) rfl #[.agg #[.int .i64 ((rd_T105 l0 x11_1).f0), .int .i64 ((rd_T105 l0 x11_1).f1), .int .i64 ((rd_T105 l0 x11_1).f2)]] (by rfl) rfl rfl (by (try simp only [List.map_toArray, List.map_cons, List.map_nil]); first | done | rfl | (simp only [List.length_drop, List.length_take]; rfl)) ?_ | refine goesV_ Try.func120 (by kernel_rfl) rfl #[.agg #[.int .i64 ((rd_T105 l0 x11_1).f0), .int .i64 ((rd_T105 l0 x11_1).f1), .int .i64 ((rd_T105 l0 x11_1).f2)]] (by rfl) rfl rfl (by rfl) (by first | rfl | (simp only [List.map_toArray, List.map_cons, List.map_nil]; rfl)) ?_
                    with_reducible refine (spec_l11Key.calls ((rd_T105 l0 x11_1).f0) ((rd_T105 l0 x11_1).f1) ((rd_T105 l0 x11_1).f2) t126 _ A23.out).mono ?_
                    rintro e w47 ⟨rfl, hb⟩
                    refine ⟨_, rfl, ?_⟩
                    have n0_ := Aside0.mk (Kd.V_below (by (with_reducible repeat (first | apply Kd.V_alloc | apply Kd.V_drewN | apply Kd.V_drew)); exact HO_0.out) hb)
                    have n1_ := Aside0.mk (Kd.R_below (by (with_reducible repeat first|apply rA_|apply rN_|apply rD_); exact HO_5.out) hb)
                    have n2_ := Aside0.mk (Kd.V_below (by (with_reducible repeat (first | apply Kd.V_alloc | apply Kd.V_drewN | apply Kd.V_drew)); exact HO_9.out) hb)
                    have n3_ := Aside0.mk (blk_below (by (with_reducible repeat first|apply qN_|apply qD_|apply qA_); exact BK116.out) hb)
                    have n4_ := Aside0.mk (blk_below (by (with_reducible repeat first|apply qN_|apply qD_|apply qA_); exact BK121.out) hb)
                    have n5_ := Aside0.mk (below_step (by repeat (first | (with_reducible first|exact HB.out|apply vA_|apply vN_|apply vD_ | refine vS_ ?_ GE116.out | refine vS_ ?_ GE121.out) | exact HB.out)) hb)
                    clear HO_0
                    clear HO_5
                    clear HO_9
                    clear BK116
                    clear BK121
                    clear HB
                    have HO_0 := n0_
                    have HO_5 := n1_
                    have HO_9 := n2_
                    have BK116 := n3_
                    have BK121 := n4_
                    have HB := n5_
                    clear n0_ n1_ n2_ n3_ n4_ n5_
                    (try clear hb)
                    (try clear hb2)
                    (try clear hk)
                    (try clear hi)
                    refine hK.out _ _ ⟨(blk_cell BK116.out 0).trans rfl, (blk_cell BK116.out 1).trans rfl, (blk_cell BK116.out 2).trans rfl, (blk_cell BK121.out 0).trans rfl, (blk_cell BK121.out 1).trans rfl, (blk_cell BK121.out 2).trans rfl⟩ (fun hHeld => ?_)
                    clear hK K
                    refine norm_ (a' := ?_) ?_ ?_
                    rotate_left
                    · show Act.put _ (some 25) _ = _
                      simp only [Act.put, List.setIfInBounds_toArray, List.set_cons_zero, List.set_cons_succ, i64_w, i32_w]
                      rfl
                    refine pure_ (i := 7) (N := some 26) (v := ?_) (a' := ?_) #[true, true, true, true, true, true, true, true, false] rfl rfl (any_of HT_.out (by kernel_rfl)) (fun _ _ _ h => h) (Or.inl ⟨by rfl, ?_⟩) ?_ ?_
                    rotate_left
                    · intro w'
                      go_simp
                      with_reducible rfl
                    rotate_left
                    · simp only [Act.put, List.setIfInBounds_toArray, List.set_cons_zero, List.set_cons_succ, i64_w, i32_w]
                      rfl
                    refine pure_ (i := 8) (N := some 27) (v := ?_) (a' := ?_) #[true, true, true, true, true, true, true, true, true] rfl rfl (any_of HT_.out (by kernel_rfl)) (fun _ _ _ h => h) (Or.inl ⟨by rfl, ?_⟩) ?_ ?_
                    rotate_left
                    · intro w'
                      go_simp
                      with_reducible rfl
                    rotate_left
                    · simp only [Act.put, List.setIfInBounds_toArray, List.set_cons_zero, List.set_cons_succ, i64_w, i32_w]
                      rfl
                    refine done_ (done_of HT_.out (by kernel_rfl)) ?_
                    have hcz48_0 : w47.cell? ⟨gb121, 0, none⟩ = some (.int .i64 ((rd_T105 l0 x11_1).f0)) := (blk_cell BK121.out 0).trans rfl
                    have hcz48_1 : w47.cell? ⟨gb121, 1, none⟩ = some (.int .i64 ((rd_T105 l0 x11_1).f1)) := (blk_cell BK121.out 1).trans rfl
                    have hcz48_2 : w47.cell? ⟨gb121, 2, none⟩ = some (.int .i64 ((rd_T105 l0 x11_1).f2)) := (blk_cell BK121.out 2).trans rfl
                    have hfz48_0 := blk_frozen BK121.out 0
                    have hfz48_1 := blk_frozen BK121.out 1
                    have hfz48_2 := blk_frozen BK121.out 2
                    try go_wp2_with (first | ((with_reducible refine gate_builtin (b := .append) (xs := #[.tmp 32, .tmp 34]) rfl ?_); at_builtin; refine Kd.R_append k105 (w0 := w) w.heap.size rfl (.tmp 32) (.tmp 34) 46 105 (.agg #[(.int .i64 0), (.int .i64 0), (.int .i64 0)]) 24 rfl Try.underlying46 info105 rfl (by decide) (by omega) u5 x5_1 (⟨(rd_T105 l0 x11_1).f0, (rd_T105 l0 x11_1).f1, (rd_T105 l0 x11_1).f2⟩ : S105) [.int .i64 ((rd_T105 l0 x11_1).f0), .int .i64 ((rd_T105 l0 x11_1).f1), .int .i64 ((rd_T105 l0 x11_1).f2)] (fun k_ => (w.heap.size ≤ k_) ∧ k_ ≠ gb116 ∧ k_ ≠ gb121) (fun _ => False) rfl rfl ?aP (fun _ hk => hk.elim) ?aF ?aO ?aB ?aS ?aL ?_; (case aP => exact k105_mkM _ _ _ (⟨(rd_T105 l0 x11_1).f0, (rd_T105 l0 x11_1).f1, (rd_T105 l0 x11_1).f2⟩ : S105)); (case aB => exact (by repeat (first | (with_reducible first|exact HB.out|apply vA_|apply vN_|apply vD_ | refine vS_ ?_ GE116.out | refine vS_ ?_ GE121.out) | exact HB.out))); (case aF => exact (fun k_ hk => ⟨(Nat.le_trans (below_size (by repeat (first | (with_reducible first|exact HB.out|apply vA_|apply vN_|apply vD_ | refine vS_ ?_ GE116.out | refine vS_ ?_ GE121.out) | exact HB.out))) hk), Kd.freshB (g := gb116) (o := .cells #[.int .i64 a1_0, .int .i64 a1_1, .int .i64 a1_2] 105 (0, 0)) (by (with_reducible repeat first|apply qN_|apply qD_|apply qA_); exact BK116.out) k_ hk, Kd.freshB (g := gb121) (o := .cells #[.int .i64 ((rd_T105 l0 x11_1).f0), .int .i64 ((rd_T105 l0 x11_1).f1), .int .i64 ((rd_T105 l0 x11_1).f2)] 105 (0, 0)) (by (with_reducible repeat first|apply qN_|apply qD_|apply qA_); exact BK121.out) k_ hk⟩)); (case aO => exact (by (with_reducible repeat first|apply rA_|apply rN_|apply rD_); exact HO_5.out)); (case aS => exact (below_size (by repeat (first | (with_reducible first|exact HB.out|apply vA_|apply vN_|apply vD_ | refine vS_ ?_ GE116.out | refine vS_ ?_ GE121.out) | exact HB.out)))); (case aL => have := LMc39.out; omega); intro v134 w49 ho hb hg hat; rw [← Ny133.out] at ho; have n0_ := Aside0.mk (Kd.V_afterv (ok := (fun k_ => (P0_ k_ ∨ w.heap.size ≤ k_) ∧ k_ ≠ gb116 ∧ k_ ≠ gb121)) (by (with_reducible repeat (first | apply Kd.V_alloc | apply Kd.V_drewN | apply Kd.V_drew)); exact Kd.V_mono HO_0.out (fun _ hk => ⟨⟨hk.1, ⟨hk.2.2.1, hk.2.2.2⟩⟩, hk.2.1⟩)) hg hat); have n1_ := Aside0.mk (Kd.V_afterv (ok := (fun k_ => (P0_ k_ ∨ w.heap.size ≤ k_) ∧ k_ ≠ gb116 ∧ k_ ≠ gb121)) (by (with_reducible repeat (first | apply Kd.V_alloc | apply Kd.V_drewN | apply Kd.V_drew)); exact Kd.V_mono HO_9.out (fun _ hk => ⟨⟨hk.1, ⟨hk.2.2.1, hk.2.2.2⟩⟩, hk.2.1⟩)) hg hat); have n2_ := Aside0.mk (blk_grown (g := gb116) (o := .cells #[.int .i64 a1_0, .int .i64 a1_1, .int .i64 a1_2] 105 (0, 0)) (by (with_reducible repeat first|apply qN_|apply qD_|apply qA_); exact BK116.out) hg (Kd.R_away HO_5.out (fun _ hk => hk.2.1))); have n3_ := Aside0.mk (blk_grown (g := gb121) (o := .cells #[.int .i64 ((rd_T105 l0 x11_1).f0), .int .i64 ((rd_T105 l0 x11_1).f1), .int .i64 ((rd_T105 l0 x11_1).f2)] 105 (0, 0)) (by (with_reducible repeat first|apply qN_|apply qD_|apply qA_); exact BK121.out) hg (Kd.R_away HO_5.out (fun _ hk => hk.2.2))); have n4_ := Aside0.mk (hb); have n5_ := Aside0.mk (ho); clear HO_0; clear HO_9; clear BK116; clear BK121; clear HB; clear HO_5; have HO_0 := n0_; have HO_9 := n1_; have BK116 := n2_; have BK121 := n3_; have HB := n4_; have HO135 := n5_; clear n0_ n1_ n2_ n3_ n4_ n5_; clear ho hb hg hat))
                    go_roundg k1
                    case measure => have := HK1.out; omega
                    case rel => exact ⟨(y133), (false), (wrap64 (x11_1 + 1)), (by first | rfl | (simp; done) | (simp [*]; done)), (by first | rfl | (simp; done) | (simp [*]; done)), H', ⟨by have := HK1.out; omega⟩, ⟨by (with_reducible repeat (first | apply Kd.V_alloc | apply Kd.V_drewN | apply Kd.V_drew)); exact Kd.V_mono HO_0.out (fun _ hk => ⟨hk.1.1, ⟨hk.2, hk.1.2.1⟩⟩)⟩, ⟨by (with_reducible repeat first|apply rA_|apply rN_|apply rD_); exact Kd.R_mono HO135.out (fun _ hk => ⟨hk.1, hk.2.1⟩)⟩, ⟨by (with_reducible repeat (first | apply Kd.V_alloc | apply Kd.V_drewN | apply Kd.V_drew)); exact Kd.V_mono HO_9.out (fun _ hk => ⟨hk.1.1, ⟨hk.2, hk.1.2.1⟩⟩)⟩, ⟨by (with_reducible repeat first|apply qN_|apply qD_|apply qA_); exact BK116.out⟩, ⟨by repeat (first | (with_reducible first|exact HB.out|apply vA_|apply vN_|apply vD_ | refine vS_ ?_ GE116.out | refine vS_ ?_ GE121.out) | exact HB.out)⟩⟩
                  · rw [if_neg c39] at H
                    exact absurd H (by simp)
          · rw [if_neg c6] at H
            exact absurd H (by simp)
        · rw [if_neg c5] at H
          exact absurd H (by simp)
      · rw [if_neg c4] at H
        have c4b0 : decide (x11_1 < (l0.length : Int)) = false := decide_eq_false c4
        clear c4
        by_cases c50 : x6_1 = true
        · subst c50
          have H1 : (some x5_1) = some r := by rw [if_pos rfl] at H; exact H
          clear H
          have H := H1
          clear H1
          obtain rfl := Option.some.inj H
          go_wp2
          go_ret
          exact ⟨_, by first | rfl | (simp [errW_none, errW_some] <;> rfl) | (simp [*, errW_none, errW_some] <;> rfl), Kd.V_mono (Kd.R_V (by (with_reducible repeat first|apply rA_|apply rN_|apply rD_); exact Kd.R_mono HO_5.out (fun _ hk => hk.1))) (fun k_ hk => by first | exact ⟨(.inr (hk.1)), hk.2⟩ | exact (.inr (hk))), by repeat (first | (with_reducible first|exact HB.out|apply vA_|apply vN_|apply vD_ | refine vS_ ?_ GE116.out) | exact HB.out)⟩
        · replace c50 := Bool.eq_false_iff.mpr c50
          subst c50
          have H1 : (if x5_1.length < 5864062014805 then (some (x5_1 ++ [(⟨a1_0, a1_1, a1_2⟩ : S105)])) else (none)) = some r := by rw [if_neg (show ¬ (false = true) by decide)] at H; exact H
          clear H
          have H := H1
          clear H1
          by_cases c51 : x5_1.length < 5864062014805
          · rw [if_pos c51] at H
            have LMc51 := Aside0.mk c51
            clear c51
            obtain ⟨y117, hy117⟩ : ∃ y_ : List (S105), y_ = (x5_1 ++ [(⟨a1_0, a1_1, a1_2⟩ : S105)]) := ⟨_, rfl⟩
            replace H : (some y117) = some r := by first | (rw [hy117]; with_reducible exact H) | (have H2_ := (Option.bind_some _ _).symm.trans H; rw [hy117]; with_reducible exact H2_) | (have H2_ := (Option.bind_some _ _).symm.trans H; with_reducible exact H2_) | with_reducible exact H | (rw [hy117]; exact H) | exact H
            have Ny117 := Aside0.mk hy117
            clear hy117
            obtain rfl := Option.some.inj H
            have hcz52_0 : wr.cell? ⟨gb116, 0, none⟩ = some (.int .i64 a1_0) := (blk_cell BK116.out 0).trans rfl
            have hcz52_1 : wr.cell? ⟨gb116, 1, none⟩ = some (.int .i64 a1_1) := (blk_cell BK116.out 1).trans rfl
            have hcz52_2 : wr.cell? ⟨gb116, 2, none⟩ = some (.int .i64 a1_2) := (blk_cell BK116.out 2).trans rfl
            have hfz52_0 := blk_frozen BK116.out 0
            have hfz52_1 := blk_frozen BK116.out 1
            have hfz52_2 := blk_frozen BK116.out 2
            go_wp2_with (first | ((with_reducible refine gate_builtin (b := .append) (xs := #[.tmp 39, .tmp 41]) rfl ?_); at_builtin; refine Kd.R_append k105 (w0 := w) w.heap.size rfl (.tmp 39) (.tmp 41) 46 105 (.agg #[(.int .i64 0), (.int .i64 0), (.int .i64 0)]) 24 rfl Try.underlying46 info105 rfl (by decide) (by omega) u5 x5_1 (⟨a1_0, a1_1, a1_2⟩ : S105) [.int .i64 a1_0, .int .i64 a1_1, .int .i64 a1_2] (fun k_ => (w.heap.size ≤ k_) ∧ k_ ≠ gb116) (fun _ => False) rfl rfl ?aP (fun _ hk => hk.elim) ?aF ?aO ?aB ?aS ?aL ?_; (case aP => exact k105_mkM _ _ _ (⟨a1_0, a1_1, a1_2⟩ : S105)); (case aB => exact (by repeat (first | (with_reducible first|exact HB.out|apply vA_|apply vN_|apply vD_ | refine vS_ ?_ GE116.out) | exact HB.out))); (case aF => exact (fun k_ hk => ⟨(Nat.le_trans (below_size (by repeat (first | (with_reducible first|exact HB.out|apply vA_|apply vN_|apply vD_ | refine vS_ ?_ GE116.out) | exact HB.out))) hk), Kd.freshB (g := gb116) (o := .cells #[.int .i64 a1_0, .int .i64 a1_1, .int .i64 a1_2] 105 (0, 0)) (by (with_reducible repeat first|apply qN_|apply qD_|apply qA_); exact BK116.out) k_ hk⟩)); (case aO => exact (by (with_reducible repeat first|apply rA_|apply rN_|apply rD_); exact HO_5.out)); (case aS => exact (below_size (by repeat (first | (with_reducible first|exact HB.out|apply vA_|apply vN_|apply vD_ | refine vS_ ?_ GE116.out) | exact HB.out)))); (case aL => have := LMc51.out; omega); intro v118 w53 ho hb hg hat; rw [← Ny117.out] at ho; have n0_ := Aside0.mk (Kd.V_afterv (ok := (fun k_ => (P0_ k_ ∨ w.heap.size ≤ k_) ∧ k_ ≠ gb116)) (by (with_reducible repeat (first | apply Kd.V_alloc | apply Kd.V_drewN | apply Kd.V_drew)); exact Kd.V_mono HO_0.out (fun _ hk => ⟨⟨hk.1, hk.2.2⟩, hk.2.1⟩)) hg hat); have n1_ := Aside0.mk (Kd.V_afterv (ok := (fun k_ => (P0_ k_ ∨ w.heap.size ≤ k_) ∧ k_ ≠ gb116)) (by (with_reducible repeat (first | apply Kd.V_alloc | apply Kd.V_drewN | apply Kd.V_drew)); exact Kd.V_mono HO_9.out (fun _ hk => ⟨⟨hk.1, hk.2.2⟩, hk.2.1⟩)) hg hat); have n2_ := Aside0.mk (blk_grown (g := gb116) (o := .cells #[.int .i64 a1_0, .int .i64 a1_1, .int .i64 a1_2] 105 (0, 0)) (by (with_reducible repeat first|apply qN_|apply qD_|apply qA_); exact BK116.out) hg (Kd.R_away HO_5.out (fun _ hk => hk.2))); have n3_ := Aside0.mk (hb); have n4_ := Aside0.mk (ho); clear HO_0; clear HO_9; clear BK116; clear HB; clear HO_5; have HO_0 := n0_; have HO_9 := n1_; have BK116 := n2_; have HB := n3_; have HO119 := n4_; clear n0_ n1_ n2_ n3_ n4_; clear ho hb hg hat))
            go_ret
            exact ⟨_, by first | rfl | (simp [errW_none, errW_some] <;> rfl) | (simp [*, errW_none, errW_some] <;> rfl), Kd.V_mono (Kd.R_V (by (with_reducible repeat first|apply rA_|apply rN_|apply rD_); exact Kd.R_mono HO119.out (fun _ hk => hk.1))) (fun k_ hk => by first | exact ⟨(.inr (hk.1)), hk.2⟩ | exact (.inr (hk))), by repeat (first | (with_reducible first|exact HB.out|apply vA_|apply vN_|apply vD_ | refine vS_ ?_ GE116.out) | exact HB.out)⟩
          · rw [if_neg c51] at H
            exact absurd H (by simp)

/-! ### spec_l11New: function 75 -/
def spec_l11New.l0 : Nat → List (S105) → List (S105) → List (S105) → Int → Int → Option ((List (S105)))
  | 0, _, _, _, _, _ => none
  | k + 1, x0, x5, x8, x9, x10 => if x10 < x9 then (if 0 ≤ x10 then (if x10 < (x8.length : Int) then ((spec_l11Add.f k x0 ((rd_T105 x8 x10).f0) ((rd_T105 x8 x10).f1) ((rd_T105 x8 x10).f2)).bind fun t138 => (if (t138.length : Int) > (x0.length : Int) then (if x5.length < 5864062014805 then (spec_l11New.l0 k x0 (x5 ++ [(⟨(rd_T105 x8 x10).f0, (rd_T105 x8 x10).f1, (rd_T105 x8 x10).f2⟩ : S105)]) x8 x9 (wrap64 (x10 + 1))) else (none)) else (spec_l11New.l0 k x0 x5 x8 x9 (wrap64 (x10 + 1))))) else (none)) else (none)) else (some x5)
def spec_l11New.f (k : Nat) (l0 : List (S105)) (l1 : List (S105)) : Option ((List (S105))) := spec_l11New.l0 k l0 ([] : List (S105)) l1 (l1.length : Int) 0
theorem spec_l11New.mono_l : ∀ k, (∀ y0 y1 y2 y3 y4, LeO (spec_l11New.l0 k y0 y1 y2 y3 y4) (spec_l11New.l0 (k + 1) y0 y1 y2 y3 y4))
  | 0 => fun _ _ _ _ _ r h => by simp [spec_l11New.l0] at h
  | k + 1 => by
    have ih0 := spec_l11New.mono_l k
    · intro y0 y1 y2 y3 y4
      unfold spec_l11New.l0
      repeat' first
      | (with_reducible exact ih0 _ _ _ _ _)
      | (with_reducible exact spec_l11Add.mono _ _ _ _ _)
      | (with_reducible exact LeO.refl _)
      | (with_reducible exact LeO.none _)
      | (with_reducible refine LeO.ite ?_ ?_)
      | (with_reducible refine LeO.bind ?_ (fun _ => ?_))
      | exact ih0 _ _ _ _ _
      | exact spec_l11Add.mono _ _ _ _ _
      | exact LeO.none _
      | refine LeO.ite ?_ ?_
      | refine LeO.bind ?_ (fun _ => ?_)
theorem spec_l11New.mono : ∀ a0 a1 k, LeO (spec_l11New.f k a0 a1) (spec_l11New.f (k + 1) a0 a1) := by
  intro a0 a1 k
  have ih0 := spec_l11New.mono_l k
  unfold spec_l11New.f
  repeat' first
      | (with_reducible exact ih0 _ _ _ _ _)
      | (with_reducible exact spec_l11Add.mono _ _ _ _ _)
      | (with_reducible exact LeO.refl _)
      | (with_reducible exact LeO.none _)
      | (with_reducible refine LeO.ite ?_ ?_)
      | (with_reducible refine LeO.bind ?_ (fun _ => ?_))
      | exact ih0 _ _ _ _ _
      | exact spec_l11Add.mono _ _ _ _ _
      | exact LeO.none _
      | refine LeO.ite ?_ ?_
      | refine LeO.bind ?_ (fun _ => ?_)
set_option maxHeartbeats 8000000 in
set_option maxRecDepth 100000 in
theorem spec_l11New.calls (k : Nat) (A0 : Option Addr) (c0 : Nat) (l0 : List (S105)) (A1 : Option Addr) (c1 : Nat) (l1 : List (S105)) (r : List (S105)) (w : World) (hr0 : Kd.C k105 w A0 l0.length l0) (hc0 : l0.length ≤ c0) (hr1 : Kd.C k105 w A1 l1.length l1) (hc1 : l1.length ≤ c1) (h : spec_l11New.f k l0 l1 = some r) :
    Calls Try.prog 75 #[.slice A0 l0.length c0, .slice A1 l1.length c1] w fun e w' => ∃ v0_ : Value, e = .returned (v0_) ∧ Kd.R k105 105 w' w.heap.size (fun _ => True) v0_ r ∧ Below w.heap.size w w' := by
  have hu105 := Try.underlying105
  have HR0 := Aside0.mk hr0
  have HC0 := Aside0.mk hc0
  clear hr0 hc0
  have HR1 := Aside0.mk hr1
  have HC1 := Aside0.mk hc1
  clear hr1 hc1
  have HB := Aside0.mk (Below.refl w.heap.size w)
  have H : (spec_l11New.l0 k l0 ([] : List (S105)) l1 (l1.length : Int) 0) = some r := h
  clear h
  have H' := Aside0.mk H
  clear H
  go_enter Try.func75, Try.ntmps75
  go_wp2
  go_loopg [5, 10] k (fun kq v5 v10 w' => ∃ (x5_1 : List (S105)) (x10_1 : Int), v10 = .int .i64 x10_1 ∧ Aside0 (spec_l11New.l0 kq l0 x5_1 l1 (l1.length : Int) x10_1 = some r) ∧ Aside0 (kq ≤ k) ∧ Aside0 (Kd.R k105 105 w' w.heap.size (fun _ => True) v5 x5_1) ∧ Aside0 (Below w.heap.size w w'))
  case atStart => exact ⟨(([] : List (S105))), (0), (by first | rfl | (simp; done) | (simp [*]; done)), H', ⟨Nat.le_refl _⟩, ⟨by first | exact Kd.R_nil _ _ _ _ _ | exact Kd.N_nil _ _ _ _ _ | exact Kd.V_nil _ _ _ _ _ | exact Kd.Q_nil _ _ _ _ _ | exact Kd.S_nil _ _ _ _ _⟩, ⟨by repeat (first | (with_reducible first|exact HB.out|apply vA_|apply vN_|apply vD_) | exact HB.out)⟩⟩
  case round =>
    clear H'
    try clear c1
    try clear p2
    obtain ⟨x5_1, x10_1, rfl, HA, HK1, HO_5, HB⟩ := hrel
    cases gk with
    | zero => exact absurd HA.out (by simp [spec_l11New.l0])
    | succ k1 =>
      have H := HA.out
      clear HA
      simp only [spec_l11New.l0] at H
      by_cases c3 : x10_1 < (l1.length : Int)
      · rw [if_pos c3] at H
        have c3b0 : decide (x10_1 < (l1.length : Int)) = true := decide_eq_true c3
        clear c3
        by_cases c4 : 0 ≤ x10_1
        · rw [if_pos c4] at H
          have c4b0 : decide (0 ≤ x10_1) = true := decide_eq_true c4
          clear c4
          by_cases c5 : x10_1 < (l1.length : Int)
          · rw [if_pos c5] at H
            have c5b0 : decide (x10_1 < (l1.length : Int)) = true := decide_eq_true c5
            clear c5
            replace H := Option.bind_eq_some_iff.mp H
            obtain ⟨t138, A60, H⟩ := H
            replace H : (if (t138.length : Int) > (l0.length : Int) then (if x5_1.length < 5864062014805 then (spec_l11New.l0 k1 l0 (x5_1 ++ [(⟨(rd_T105 l1 x10_1).f0, (rd_T105 l1 x10_1).f1, (rd_T105 l1 x10_1).f2⟩ : S105)]) l1 (l1.length : Int) (wrap64 (x10_1 + 1))) else (none)) else (spec_l11New.l0 k1 l0 x5_1 l1 (l1.length : Int) (wrap64 (x10_1 + 1)))) = some r := H
            have A6 := Aside0.mk A60
            clear A60
            by_cases c7 : (t138.length : Int) > (l0.length : Int)
            · rw [if_pos c7] at H
              have c7b0 : decide ((l0.length : Int) < (t138.length : Int)) = true := decide_eq_true c7
              have c7b1 : decide (l0.length < t138.length) = true := decide_eq_true (Int.ofNat_lt.mp c7)
              clear c7
              by_cases c8 : x5_1.length < 5864062014805
              · rw [if_pos c8] at H
                have LMc8 := Aside0.mk c8
                clear c8
                obtain ⟨y141, hy141⟩ : ∃ y_ : List (S105), y_ = (x5_1 ++ [(⟨(rd_T105 l1 x10_1).f0, (rd_T105 l1 x10_1).f1, (rd_T105 l1 x10_1).f2⟩ : S105)]) := ⟨_, rfl⟩
                replace H : (spec_l11New.l0 k1 l0 y141 l1 (l1.length : Int) (wrap64 (x10_1 + 1))) = some r := by first | (rw [hy141]; with_reducible exact H) | (have H2_ := (Option.bind_some _ _).symm.trans H; rw [hy141]; with_reducible exact H2_) | (have H2_ := (Option.bind_some _ _).symm.trans H; with_reducible exact H2_) | with_reducible exact H | (rw [hy141]; exact H) | exact H
                have Ny141 := Aside0.mk hy141
                clear hy141
                have H' := Aside0.mk H
                clear H
                have p136 : 0 ≤ (x10_1 : Int) := of_decide_eq_true (by first | (with_reducible assumption) | assumption)
                have q136 : x10_1 < (l1.length : Int) := of_decide_eq_true (by first | (with_reducible assumption) | assumption)
                obtain ⟨ad136, e136, hx136_0, hx136_1, hx136_2⟩ := at_T105 HR1.out x10_1 p136 q136
                cases e136
                try replace hx136_0 := (HB.out.cell (World.block_lt_of_cell? w _ hx136_0)).trans hx136_0
                try replace hx136_1 := (HB.out.cell (World.block_lt_of_cell? w _ hx136_1)).trans hx136_1
                try replace hx136_2 := (HB.out.cell (World.block_lt_of_cell? w _ hx136_2)).trans hx136_2
                replace p136 := eq_true p136
                replace q136 := eq_true q136
                go_wp2_with (first | ((with_reducible refine gate_dst (N := 7) rfl ?_); refine box_event ?hg (N := 7) ?hd (cs := #[.int .i64 0, .int .i64 0, .int .i64 0]) (t := 105) ?hr ?_; (case hd => rfl); (case hg => rfl); (case hr => first | (go_simp; done) | (go_simp; rfl)); intro gb137 hg w9 hbox hb; have n0_ := Aside0.mk (Kd.R_below (Kd.R_elderB (by (with_reducible repeat first|apply rA_|apply rN_|apply rD_); exact HO_5.out) gb137 (Nat.le_of_eq hg.symm)) hb); have n1_ := Aside0.mk (below_step (by repeat (first | (with_reducible first|exact HB.out|apply vA_|apply vN_|apply vD_) | exact HB.out)) hb); have n2_ := Aside0.mk (hbox); have n3_ := Aside0.mk ((by rw [hg]; exact (below_size (by repeat (first | (with_reducible first|exact HB.out|apply vA_|apply vN_|apply vD_) | exact HB.out))) : w.heap.size ≤ gb137)); have n4_ := Aside0.mk ((by rw [hg]; exact (below_size (by repeat (first | (with_reducible first|exact HB.out|apply vA_|apply vN_|apply vD_) | exact HB.out))) : w.heap.size ≤ gb137)); clear HO_5; clear HB; have HO_5 := n0_; have HB := n1_; have BK137 := n2_; have GW137 := n3_; have GE137 := n4_; clear n0_ n1_ n2_ n3_ n4_; clear hb hbox hg; have hcz10_0 : w9.cell? ⟨gb137, 0, none⟩ = some (.int .i64 0) := (blk_cell BK137.out 0).trans rfl; have hcz10_1 : w9.cell? ⟨gb137, 1, none⟩ = some (.int .i64 0) := (blk_cell BK137.out 1).trans rfl; have hcz10_2 : w9.cell? ⟨gb137, 2, none⟩ = some (.int .i64 0) := (blk_cell BK137.out 2).trans rfl; have hfz10_0 := blk_frozen BK137.out 0; have hfz10_1 := blk_frozen BK137.out 1; have hfz10_2 := blk_frozen BK137.out 2) | ((with_reducible refine gate_store (t := 105) (p := 7) rfl ?_); refine store_event (t := 105) (p := 7) (v := ?vo_w11) (w1 := (((w9.setCell ⟨gb137, 0, none⟩ (.int .i64 ((rd_T105 l1 x10_1).f0))).setCell ⟨gb137, 1, none⟩ (.int .i64 ((rd_T105 l1 x10_1).f1))).setCell ⟨gb137, 2, none⟩ (.int .i64 ((rd_T105 l1 x10_1).f2)))) ?hg ?ho ?hn ?hr ?_; (case ho => rfl); (case hg => rfl); (case hn => rfl); (case hr => first | (go_simp; done) | (go_simp; rfl)); intro w11 hw; have n0_ : Aside0 (Kd.R k105 105 w11 w.heap.size (fun k_ => k_ ≠ gb137) u5 x5_1) := ⟨(by rw [hw]; exact (by (with_reducible repeat first|apply rA_|apply rN_|apply rD_); exact Kd.R_mono (Kd.R_far (p := ⟨gb137, 2, none⟩) (Kd.R_far (p := ⟨gb137, 1, none⟩) (Kd.R_far (p := ⟨gb137, 0, none⟩) (Kd.R_mono HO_5.out (fun k_ hk => (⟨hk, hk.2⟩ : _ ∧ k_ ≠ gb137))) (fun _ hk => hk.2) (.int .i64 ((rd_T105 l1 x10_1).f0))) (fun _ hk => hk.2) (.int .i64 ((rd_T105 l1 x10_1).f1))) (fun _ hk => hk.2) (.int .i64 ((rd_T105 l1 x10_1).f2))) (fun _ hk => hk.1.2)))⟩; have n1_ : Aside0 (w11.heap[gb137]? = some (.cells #[.int .i64 ((rd_T105 l1 x10_1).f0), .int .i64 ((rd_T105 l1 x10_1).f1), .int .i64 ((rd_T105 l1 x10_1).f2)] 105 (0, 0))) := ⟨(by rw [hw]; exact (by (with_reducible repeat first|apply qN_|apply qD_|apply qA_); refine blk_put (cs := #[.int .i64 ((rd_T105 l1 x10_1).f0), .int .i64 ((rd_T105 l1 x10_1).f1), .int .i64 0]) ?_ 2 _ rfl; (with_reducible repeat first|apply qN_|apply qD_|apply qA_); refine blk_put (cs := #[.int .i64 ((rd_T105 l1 x10_1).f0), .int .i64 0, .int .i64 0]) ?_ 1 _ rfl; (with_reducible repeat first|apply qN_|apply qD_|apply qA_); refine blk_put (cs := #[.int .i64 0, .int .i64 0, .int .i64 0]) ?_ 0 _ rfl; (with_reducible repeat first|apply qN_|apply qD_|apply qA_); exact BK137.out))⟩; have n2_ : Aside0 (Below w.heap.size w w11) := ⟨(by rw [hw]; exact (by repeat (first | (with_reducible first|exact HB.out|apply vA_|apply vN_|apply vD_ | refine vS_ ?_ GE137.out) | exact HB.out)))⟩; clear hw; clear HO_5; clear BK137; clear HB; have HO_5 := n0_; have BK137 := n1_; have HB := n2_; clear n0_ n1_ n2_; have hcz12_0 : w11.cell? ⟨gb137, 0, none⟩ = some (.int .i64 ((rd_T105 l1 x10_1).f0)) := (blk_cell BK137.out 0).trans rfl; have hcz12_1 : w11.cell? ⟨gb137, 1, none⟩ = some (.int .i64 ((rd_T105 l1 x10_1).f1)) := (blk_cell BK137.out 1).trans rfl; have hcz12_2 : w11.cell? ⟨gb137, 2, none⟩ = some (.int .i64 ((rd_T105 l1 x10_1).f2)) := (blk_cell BK137.out 2).trans rfl; have hfz12_0 := blk_frozen BK137.out 0; have hfz12_1 := blk_frozen BK137.out 1; have hfz12_2 := blk_frozen BK137.out 2) | ((with_reducible refine gate_callee (f := 121) rfl ?_); refine goesL_ (some 16) rfl rfl Try.func121 (by kernel_rfl) rfl #[.slice A0 l0.length c0, .agg #[.int .i64 ((rd_T105 l1 x10_1).f0), .int .i64 ((rd_T105 l1 x10_1).f1), .int .i64 ((rd_T105 l1 x10_1).f2)]] rfl (by (try simp only [List.map_toArray, List.map_cons, List.map_nil]); first | done | rfl | (simp only [List.length_drop, List.length_take]; rfl)) ?_; (with_reducible refine (spec_l11Add.calls k1 (fun k_ => k_ < w.heap.size) _ _ l0 ((rd_T105 l1 x10_1).f0) ((rd_T105 l1 x10_1).f1) ((rd_T105 l1 x10_1).f2) t138 _ ?side1 A6.out).mono ?_); (case side1 => exact Kd.V_mk HC0.out (Kd.F_below (Kd.C_F k105_heap HR0.out) (by repeat (first | (with_reducible first|exact HB.out|apply vA_|apply vN_|apply vD_ | refine vS_ ?_ GE137.out) | exact HB.out)))); rintro e w13 ⟨v139, rfl, ho0, hb⟩; refine ⟨_, rfl, ?_⟩; have n0_ := Aside0.mk (Kd.R_below (by (with_reducible repeat first|apply rA_|apply rN_|apply rD_); exact HO_5.out) hb); have n1_ := Aside0.mk (Kd.V_lower (Kd.V_mono (ok' := fun k_ => some k_ ≠ (u5 : Value).ownBlock ∧ k_ ≠ gb137) ho0 (fun k_ hk_ => ⟨Or.elim hk_ (fun hs_ => fun e_ => Nat.not_le.2 hs_ (Kd.R_base HO_5.out k_ e_.symm)) (fun hn_ => (Kd.fresh' (Kd.R_lt (by (with_reducible repeat first|apply rA_|apply rN_|apply rD_); exact HO_5.out)) k_ hn_)), Or.elim hk_ (fun hs_ => fun e_ => Nat.not_le.2 hs_ (by rw [e_]; exact GW137.out)) (fun hn_ => (Kd.freshB (g := gb137) (o := .cells #[.int .i64 ((rd_T105 l1 x10_1).f0), .int .i64 ((rd_T105 l1 x10_1).f1), .int .i64 ((rd_T105 l1 x10_1).f2)] 105 (0, 0)) (by (with_reducible repeat first|apply qN_|apply qD_|apply qA_); exact BK137.out) k_ hn_))⟩)) (below_size (by repeat (first | (with_reducible first|exact HB.out|apply vA_|apply vN_|apply vD_ | refine vS_ ?_ GE137.out) | exact HB.out)))); have n2_ := Aside0.mk (blk_below (by (with_reducible repeat first|apply qN_|apply qD_|apply qA_); exact BK137.out) hb); have n3_ := Aside0.mk (below_step (by repeat (first | (with_reducible first|exact HB.out|apply vA_|apply vN_|apply vD_ | refine vS_ ?_ GE137.out) | exact HB.out)) hb); clear HO_5; clear BK137; clear HB; have HO_5 := n0_; have HO140 := n1_; have BK137 := n2_; have HB := n3_; clear n0_ n1_ n2_ n3_; (try clear hb); (try clear hb2); (try clear hk); (try clear hi); (try clear ho0); obtain ⟨Ao14, co14, eo14⟩ := Kd.V_slice HO140.out; subst eo14; have hcz15_0 : w13.cell? ⟨gb137, 0, none⟩ = some (.int .i64 ((rd_T105 l1 x10_1).f0)) := (blk_cell BK137.out 0).trans rfl; have hcz15_1 : w13.cell? ⟨gb137, 1, none⟩ = some (.int .i64 ((rd_T105 l1 x10_1).f1)) := (blk_cell BK137.out 1).trans rfl; have hcz15_2 : w13.cell? ⟨gb137, 2, none⟩ = some (.int .i64 ((rd_T105 l1 x10_1).f2)) := (blk_cell BK137.out 2).trans rfl; have hfz15_0 := blk_frozen BK137.out 0; have hfz15_1 := blk_frozen BK137.out 1; have hfz15_2 := blk_frozen BK137.out 2) | ((with_reducible refine gate_builtin (b := .append) (xs := #[.tmp 21, .tmp 23]) rfl ?_); at_builtin; refine Kd.R_append k105 (w0 := w) w.heap.size rfl (.tmp 21) (.tmp 23) 46 105 (.agg #[(.int .i64 0), (.int .i64 0), (.int .i64 0)]) 24 rfl Try.underlying46 info105 rfl (by decide) (by omega) u5 x5_1 (⟨(rd_T105 l1 x10_1).f0, (rd_T105 l1 x10_1).f1, (rd_T105 l1 x10_1).f2⟩ : S105) [.int .i64 ((rd_T105 l1 x10_1).f0), .int .i64 ((rd_T105 l1 x10_1).f1), .int .i64 ((rd_T105 l1 x10_1).f2)] (fun k_ => k_ ≠ gb137) (fun _ => False) rfl rfl ?aP (fun _ hk => hk.elim) ?aF ?aO ?aB ?aS ?aL ?_; (case aP => exact k105_mkM _ _ _ (⟨(rd_T105 l1 x10_1).f0, (rd_T105 l1 x10_1).f1, (rd_T105 l1 x10_1).f2⟩ : S105)); (case aB => exact (by repeat (first | (with_reducible first|exact HB.out|apply vA_|apply vN_|apply vD_ | refine vS_ ?_ GE137.out) | exact HB.out))); (case aF => exact (fun k_ hk => Kd.freshB (g := gb137) (o := .cells #[.int .i64 ((rd_T105 l1 x10_1).f0), .int .i64 ((rd_T105 l1 x10_1).f1), .int .i64 ((rd_T105 l1 x10_1).f2)] 105 (0, 0)) (by (with_reducible repeat first|apply qN_|apply qD_|apply qA_); exact BK137.out) k_ hk)); (case aO => exact (by (with_reducible repeat first|apply rA_|apply rN_|apply rD_); exact HO_5.out)); (case aS => exact (below_size (by repeat (first | (with_reducible first|exact HB.out|apply vA_|apply vN_|apply vD_ | refine vS_ ?_ GE137.out) | exact HB.out)))); (case aL => have := LMc8.out; omega); intro v142 w16 ho hb hg hat; rw [← Ny141.out] at ho; have n0_ := Aside0.mk (blk_grown (g := gb137) (o := .cells #[.int .i64 ((rd_T105 l1 x10_1).f0), .int .i64 ((rd_T105 l1 x10_1).f1), .int .i64 ((rd_T105 l1 x10_1).f2)] 105 (0, 0)) (by (with_reducible repeat first|apply qN_|apply qD_|apply qA_); exact BK137.out) hg (Kd.R_away HO_5.out (fun _ hk => hk))); have n1_ := Aside0.mk (Kd.V_afterv (ok := (fun k_ => k_ ≠ gb137)) (by (with_reducible repeat (first | apply Kd.V_alloc | apply Kd.V_drewN | apply Kd.V_drew)); exact Kd.V_mono HO140.out (fun _ hk => ⟨hk.2, hk.1⟩)) hg hat); have n2_ := Aside0.mk (hb); have n3_ := Aside0.mk (ho); clear BK137; clear HO140; clear HB; clear HO_5; have BK137 := n0_; have HO140 := n1_; have HB := n2_; have HO143 := n3_; clear n0_ n1_ n2_ n3_; clear ho hb hg hat))
                go_roundg k1
                case measure => have := HK1.out; omega
                case rel => exact ⟨(y141), (wrap64 (x10_1 + 1)), (by first | rfl | (simp; done) | (simp [*]; done)), H', ⟨by have := HK1.out; omega⟩, ⟨by (with_reducible repeat first|apply rA_|apply rN_|apply rD_); exact Kd.R_mono HO143.out (fun _ hk => trivial)⟩, ⟨by repeat (first | (with_reducible first|exact HB.out|apply vA_|apply vN_|apply vD_ | refine vS_ ?_ GE137.out) | exact HB.out)⟩⟩
              · rw [if_neg c8] at H
                exact absurd H (by simp)
            · rw [if_neg c7] at H
              have c7b0 : decide ((l0.length : Int) < (t138.length : Int)) = false := decide_eq_false c7
              have c7b1 : decide (l0.length < t138.length) = false := decide_eq_false (fun h => c7 (Int.ofNat_lt.mpr h))
              clear c7
              have H' := Aside0.mk H
              clear H
              have p136 : 0 ≤ (x10_1 : Int) := of_decide_eq_true (by first | (with_reducible assumption) | assumption)
              have q136 : x10_1 < (l1.length : Int) := of_decide_eq_true (by first | (with_reducible assumption) | assumption)
              obtain ⟨ad136, e136, hx136_0, hx136_1, hx136_2⟩ := at_T105 HR1.out x10_1 p136 q136
              cases e136
              try replace hx136_0 := (HB.out.cell (World.block_lt_of_cell? w _ hx136_0)).trans hx136_0
              try replace hx136_1 := (HB.out.cell (World.block_lt_of_cell? w _ hx136_1)).trans hx136_1
              try replace hx136_2 := (HB.out.cell (World.block_lt_of_cell? w _ hx136_2)).trans hx136_2
              replace p136 := eq_true p136
              replace q136 := eq_true q136
              go_wp2_with (first | ((with_reducible refine gate_dst (N := 7) rfl ?_); refine box_event ?hg (N := 7) ?hd (cs := #[.int .i64 0, .int .i64 0, .int .i64 0]) (t := 105) ?hr ?_; (case hd => rfl); (case hg => rfl); (case hr => first | (go_simp; done) | (go_simp; rfl)); intro gb137 hg w17 hbox hb; have n0_ := Aside0.mk (Kd.R_below (Kd.R_elderB (by (with_reducible repeat first|apply rA_|apply rN_|apply rD_); exact HO_5.out) gb137 (Nat.le_of_eq hg.symm)) hb); have n1_ := Aside0.mk (below_step (by repeat (first | (with_reducible first|exact HB.out|apply vA_|apply vN_|apply vD_) | exact HB.out)) hb); have n2_ := Aside0.mk (hbox); have n3_ := Aside0.mk ((by rw [hg]; exact (below_size (by repeat (first | (with_reducible first|exact HB.out|apply vA_|apply vN_|apply vD_) | exact HB.out))) : w.heap.size ≤ gb137)); have n4_ := Aside0.mk ((by rw [hg]; exact (below_size (by repeat (first | (with_reducible first|exact HB.out|apply vA_|apply vN_|apply vD_) | exact HB.out))) : w.heap.size ≤ gb137)); clear HO_5; clear HB; have HO_5 := n0_; have HB := n1_; have BK137 := n2_; have GW137 := n3_; have GE137 := n4_; clear n0_ n1_ n2_ n3_ n4_; clear hb hbox hg; have hcz18_0 : w17.cell? ⟨gb137, 0, none⟩ = some (.int .i64 0) := (blk_cell BK137.out 0).trans rfl; have hcz18_1 : w17.cell? ⟨gb137, 1, none⟩ = some (.int .i64 0) := (blk_cell BK137.out 1).trans rfl; have hcz18_2 : w17.cell? ⟨gb137, 2, none⟩ = some (.int .i64 0) := (blk_cell BK137.out 2).trans rfl; have hfz18_0 := blk_frozen BK137.out 0; have hfz18_1 := blk_frozen BK137.out 1; have hfz18_2 := blk_frozen BK137.out 2) | ((with_reducible refine gate_store (t := 105) (p := 7) rfl ?_); refine store_event (t := 105) (p := 7) (v := ?vo_w19) (w1 := (((w17.setCell ⟨gb137, 0, none⟩ (.int .i64 ((rd_T105 l1 x10_1).f0))).setCell ⟨gb137, 1, none⟩ (.int .i64 ((rd_T105 l1 x10_1).f1))).setCell ⟨gb137, 2, none⟩ (.int .i64 ((rd_T105 l1 x10_1).f2)))) ?hg ?ho ?hn ?hr ?_; (case ho => rfl); (case hg => rfl); (case hn => rfl); (case hr => first | (go_simp; done) | (go_simp; rfl)); intro w19 hw; have n0_ : Aside0 (Kd.R k105 105 w19 w.heap.size (fun k_ => k_ ≠ gb137) u5 x5_1) := ⟨(by rw [hw]; exact (by (with_reducible repeat first|apply rA_|apply rN_|apply rD_); exact Kd.R_mono (Kd.R_far (p := ⟨gb137, 2, none⟩) (Kd.R_far (p := ⟨gb137, 1, none⟩) (Kd.R_far (p := ⟨gb137, 0, none⟩) (Kd.R_mono HO_5.out (fun k_ hk => (⟨hk, hk.2⟩ : _ ∧ k_ ≠ gb137))) (fun _ hk => hk.2) (.int .i64 ((rd_T105 l1 x10_1).f0))) (fun _ hk => hk.2) (.int .i64 ((rd_T105 l1 x10_1).f1))) (fun _ hk => hk.2) (.int .i64 ((rd_T105 l1 x10_1).f2))) (fun _ hk => hk.1.2)))⟩; have n1_ : Aside0 (w19.heap[gb137]? = some (.cells #[.int .i64 ((rd_T105 l1 x10_1).f0), .int .i64 ((rd_T105 l1 x10_1).f1), .int .i64 ((rd_T105 l1 x10_1).f2)] 105 (0, 0))) := ⟨(by rw [hw]; exact (by (with_reducible repeat first|apply qN_|apply qD_|apply qA_); refine blk_put (cs := #[.int .i64 ((rd_T105 l1 x10_1).f0), .int .i64 ((rd_T105 l1 x10_1).f1), .int .i64 0]) ?_ 2 _ rfl; (with_reducible repeat first|apply qN_|apply qD_|apply qA_); refine blk_put (cs := #[.int .i64 ((rd_T105 l1 x10_1).f0), .int .i64 0, .int .i64 0]) ?_ 1 _ rfl; (with_reducible repeat first|apply qN_|apply qD_|apply qA_); refine blk_put (cs := #[.int .i64 0, .int .i64 0, .int .i64 0]) ?_ 0 _ rfl; (with_reducible repeat first|apply qN_|apply qD_|apply qA_); exact BK137.out))⟩; have n2_ : Aside0 (Below w.heap.size w w19) := ⟨(by rw [hw]; exact (by repeat (first | (with_reducible first|exact HB.out|apply vA_|apply vN_|apply vD_ | refine vS_ ?_ GE137.out) | exact HB.out)))⟩; clear hw; clear HO_5; clear BK137; clear HB; have HO_5 := n0_; have BK137 := n1_; have HB := n2_; clear n0_ n1_ n2_; have hcz20_0 : w19.cell? ⟨gb137, 0, none⟩ = some (.int .i64 ((rd_T105 l1 x10_1).f0)) := (blk_cell BK137.out 0).trans rfl; have hcz20_1 : w19.cell? ⟨gb137, 1, none⟩ = some (.int .i64 ((rd_T105 l1 x10_1).f1)) := (blk_cell BK137.out 1).trans rfl; have hcz20_2 : w19.cell? ⟨gb137, 2, none⟩ = some (.int .i64 ((rd_T105 l1 x10_1).f2)) := (blk_cell BK137.out 2).trans rfl; have hfz20_0 := blk_frozen BK137.out 0; have hfz20_1 := blk_frozen BK137.out 1; have hfz20_2 := blk_frozen BK137.out 2) | ((with_reducible refine gate_callee (f := 121) rfl ?_); refine goesL_ (some 16) rfl rfl Try.func121 (by kernel_rfl) rfl #[.slice A0 l0.length c0, .agg #[.int .i64 ((rd_T105 l1 x10_1).f0), .int .i64 ((rd_T105 l1 x10_1).f1), .int .i64 ((rd_T105 l1 x10_1).f2)]] rfl (by (try simp only [List.map_toArray, List.map_cons, List.map_nil]); first | done | rfl | (simp only [List.length_drop, List.length_take]; rfl)) ?_; (with_reducible refine (spec_l11Add.calls k1 (fun k_ => k_ < w.heap.size) _ _ l0 ((rd_T105 l1 x10_1).f0) ((rd_T105 l1 x10_1).f1) ((rd_T105 l1 x10_1).f2) t138 _ ?side1 A6.out).mono ?_); (case side1 => exact Kd.V_mk HC0.out (Kd.F_below (Kd.C_F k105_heap HR0.out) (by repeat (first | (with_reducible first|exact HB.out|apply vA_|apply vN_|apply vD_ | refine vS_ ?_ GE137.out) | exact HB.out)))); rintro e w21 ⟨v139, rfl, ho0, hb⟩; refine ⟨_, rfl, ?_⟩; have n0_ := Aside0.mk (Kd.R_below (by (with_reducible repeat first|apply rA_|apply rN_|apply rD_); exact HO_5.out) hb); have n1_ := Aside0.mk (Kd.V_lower (Kd.V_mono (ok' := fun k_ => some k_ ≠ (u5 : Value).ownBlock ∧ k_ ≠ gb137) ho0 (fun k_ hk_ => ⟨Or.elim hk_ (fun hs_ => fun e_ => Nat.not_le.2 hs_ (Kd.R_base HO_5.out k_ e_.symm)) (fun hn_ => (Kd.fresh' (Kd.R_lt (by (with_reducible repeat first|apply rA_|apply rN_|apply rD_); exact HO_5.out)) k_ hn_)), Or.elim hk_ (fun hs_ => fun e_ => Nat.not_le.2 hs_ (by rw [e_]; exact GW137.out)) (fun hn_ => (Kd.freshB (g := gb137) (o := .cells #[.int .i64 ((rd_T105 l1 x10_1).f0), .int .i64 ((rd_T105 l1 x10_1).f1), .int .i64 ((rd_T105 l1 x10_1).f2)] 105 (0, 0)) (by (with_reducible repeat first|apply qN_|apply qD_|apply qA_); exact BK137.out) k_ hn_))⟩)) (below_size (by repeat (first | (with_reducible first|exact HB.out|apply vA_|apply vN_|apply vD_ | refine vS_ ?_ GE137.out) | exact HB.out)))); have n2_ := Aside0.mk (blk_below (by (with_reducible repeat first|apply qN_|apply qD_|apply qA_); exact BK137.out) hb); have n3_ := Aside0.mk (below_step (by repeat (first | (with_reducible first|exact HB.out|apply vA_|apply vN_|apply vD_ | refine vS_ ?_ GE137.out) | exact HB.out)) hb); clear HO_5; clear BK137; clear HB; have HO_5 := n0_; have HO140 := n1_; have BK137 := n2_; have HB := n3_; clear n0_ n1_ n2_ n3_; (try clear hb); (try clear hb2); (try clear hk); (try clear hi); (try clear ho0); obtain ⟨Ao22, co22, eo22⟩ := Kd.V_slice HO140.out; subst eo22))
              go_roundg k1
              case measure => have := HK1.out; omega
              case rel => exact ⟨(x5_1), (wrap64 (x10_1 + 1)), (by first | rfl | (simp; done) | (simp [*]; done)), H', ⟨by have := HK1.out; omega⟩, ⟨by (with_reducible repeat first|apply rA_|apply rN_|apply rD_); exact Kd.R_mono HO_5.out (fun _ hk => trivial)⟩, ⟨by repeat (first | (with_reducible first|exact HB.out|apply vA_|apply vN_|apply vD_ | refine vS_ ?_ GE137.out) | exact HB.out)⟩⟩
          · rw [if_neg c5] at H
            exact absurd H (by simp)
        · rw [if_neg c4] at H
          exact absurd H (by simp)
      · rw [if_neg c3] at H
        have c3b0 : decide (x10_1 < (l1.length : Int)) = false := decide_eq_false c3
        clear c3
        obtain rfl := Option.some.inj H
        go_wp2
        go_ret
        exact ⟨_, by first | rfl | (simp [errW_none, errW_some] <;> rfl) | (simp [*, errW_none, errW_some] <;> rfl), by (with_reducible repeat first|apply rA_|apply rN_|apply rD_); exact HO_5.out, by repeat (first | (with_reducible first|exact HB.out|apply vA_|apply vN_|apply vD_) | exact HB.out)⟩

end Go.Proofs.Ytpfbiopcfbokbaa.GNewPairs

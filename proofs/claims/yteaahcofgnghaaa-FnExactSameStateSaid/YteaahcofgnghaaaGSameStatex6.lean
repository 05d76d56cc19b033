-- Printed by wip/tools/print2.py out of the translation: walks and plain functions; Lean checks them.
import Derived.Test.YteaahcofgnghaaaGSameStatex0
import Derived.Test.YteaahcofgnghaaaGSameStatex1
import Derived.Test.YteaahcofgnghaaaGSameStatex2
import Derived.Test.YteaahcofgnghaaaGSameStatex3
import Derived.Test.YteaahcofgnghaaaGSameStatex4
import Derived.Test.YteaahcofgnghaaaGSameStatex5
namespace Go.Proofs.Yteaahcofgnghaaa.GSameState
open Go.RowKit Go.Proofs.YteaahcofgnghaaaW.PrintWords Go.Proofs.YteaahcofgnghaaaW.PrintLast Go.Proofs.YteaahcofgnghaaaW.PrintMore
attribute [local go_sem] max2_int min2_int max_two min_two max_three min_three max_four min_four   -- for this text's walks alone
set_option linter.unusedVariables false
set_option linter.unusedSimpArgs false

/-! ### laws_FnExactSameState: function 13 -/
def laws_FnExactSameState.f (k : Nat) (l0_0 : List (S163)) (l0_1 : List Nat) (l0_2 : List Int) (a0_3 : Int) (l1_0 : List (S163)) (l1_1 : List Nat) (l1_2 : List Int) (a1_3 : Int) : Option (Bool) := (laws_szState.f k l0_0 l0_1 l0_2 a0_3 1048576).bind fun t202 => (if t202 < 0 then (some true) else ((laws_szState.f k l1_0 l1_1 l1_2 a1_3 t202).bind fun t203 => (if t203 < 0 then (some true) else ((laws_toState.f k l0_0 l0_1 l0_2 a0_3).bind fun bt204 => ((laws_toState.f k l1_0 l1_1 l1_2 a1_3).bind fun bt214 => ((spec_SameState.f k bt204.1 bt204.2.1 bt204.2.2.1 bt204.2.2.2 bt214.1 bt214.2.1 bt214.2.2.1 bt214.2.2.2).bind fun t224 => ((laws_toState.f k l0_0 l0_1 l0_2 a0_3).bind fun bt225 => ((laws_toState.f k l1_0 l1_1 l1_2 a1_3).bind fun bt236 => ((impl_SameState.f k bt225.1 bt225.2.1 bt225.2.2.1 bt225.2.2.2 bt236.1 bt236.2.1 bt236.2.2.1 bt236.2.2.2).bind fun t247 => (if (t247 != t224) = true then (some false) else ((laws_toState.f k l0_0 l0_1 l0_2 a0_3).bind fun bt248 => ((laws_eqState.f k bt225.1 bt225.2.1 bt225.2.2.1 bt225.2.2.2 bt248.1 bt248.2.1 bt248.2.2.1 bt248.2.2.2).bind fun t258 => (if t258 = true then ((laws_toState.f k l1_0 l1_1 l1_2 a1_3).bind fun bt259 => ((laws_eqState.f k bt236.1 bt236.2.1 bt236.2.2.1 bt236.2.2.2 bt259.1 bt259.2.1 bt259.2.2.1 bt259.2.2.2).bind fun t269 => (if t269 = true then (some true) else (some false)))) else (some false))))))))))))))
theorem laws_FnExactSameState.mono : ∀ a0 a1 a2 a3 a4 a5 a6 a7 k, LeO (laws_FnExactSameState.f k a0 a1 a2 a3 a4 a5 a6 a7) (laws_FnExactSameState.f (k + 1) a0 a1 a2 a3 a4 a5 a6 a7) := by
  intro a0 a1 a2 a3 a4 a5 a6 a7 k
  unfold laws_FnExactSameState.f
  repeat' first
      | (with_reducible exact impl_SameState.mono _ _ _ _ _ _ _ _ _)
      | (with_reducible exact laws_eqState.mono _ _ _ _ _ _ _ _ _)
      | (with_reducible exact laws_szState.mono _ _ _ _ _ _)
      | (with_reducible exact laws_toState.mono _ _ _ _ _)
      | (with_reducible exact spec_SameState.mono _ _ _ _ _ _ _ _ _)
      | (with_reducible exact LeO.refl _)
      | (with_reducible exact LeO.none _)
      | (with_reducible refine LeO.ite ?_ ?_)
      | (with_reducible refine LeO.bind ?_ (fun _ => ?_))
      | exact impl_SameState.mono _ _ _ _ _ _ _ _ _
      | exact laws_eqState.mono _ _ _ _ _ _ _ _ _
      | exact laws_szState.mono _ _ _ _ _ _
      | exact laws_toState.mono _ _ _ _ _
      | exact spec_SameState.mono _ _ _ _ _ _ _ _ _
      | exact LeO.none _
      | refine LeO.ite ?_ ?_
      | refine LeO.bind ?_ (fun _ => ?_)
set_option maxHeartbeats 8000000 in
set_option maxRecDepth 100000 in
theorem laws_FnExactSameState.calls (k : Nat) (A0_0 : Option Addr) (c0_0 : Nat) (l0_0 : List (S163)) (A0_1 : Option Addr) (c0_1 : Nat) (l0_1 : List Nat) (A0_2 : Option Addr) (c0_2 : Nat) (l0_2 : List Int) (a0_3 : Int) (A1_0 : Option Addr) (c1_0 : Nat) (l1_0 : List (S163)) (A1_1 : Option Addr) (c1_1 : Nat) (l1_1 : List Nat) (A1_2 : Option Addr) (c1_2 : Nat) (l1_2 : List Int) (a1_3 : Int) (r : Bool) (w : World) (hr0_0 : Kd.C k163 w A0_0 l0_0.length l0_0) (hc0_0 : l0_0.length ≤ c0_0) (hr0_1 : Kd.C Kd.float w A0_1 l0_1.length l0_1) (hc0_1 : l0_1.length ≤ c0_1) (hr0_2 : Kd.C (Kd.int .i64) w A0_2 l0_2.length l0_2) (hc0_2 : l0_2.length ≤ c0_2) (hr1_0 : Kd.C k163 w A1_0 l1_0.length l1_0) (hc1_0 : l1_0.length ≤ c1_0) (hr1_1 : Kd.C Kd.float w A1_1 l1_1.length l1_1) (hc1_1 : l1_1.length ≤ c1_1) (hr1_2 : Kd.C (Kd.int .i64) w A1_2 l1_2.length l1_2) (hc1_2 : l1_2.length ≤ c1_2) (h : laws_FnExactSameState.f k l0_0 l0_1 l0_2 a0_3 l1_0 l1_1 l1_2 a1_3 = some r) :
    Calls Try.prog 13 #[.agg #[.slice A0_0 l0_0.length c0_0, .slice A0_1 l0_1.length c0_1, .slice A0_2 l0_2.length c0_2, .int .i64 a0_3], .agg #[.slice A1_0 l1_0.length c1_0, .slice A1_1 l1_1.length c1_1, .slice A1_2 l1_2.length c1_2, .int .i64 a1_3]] w fun e w' => e = .returned (.bool r) ∧ Below w.heap.size w w' := by
  have hu70 := Try.underlying70
  have hu75 := Try.underlying75
  have HR0_0 := Aside0.mk hr0_0
  have HC0_0 := Aside0.mk hc0_0
  clear hr0_0 hc0_0
  have HR0_1 := Aside0.mk hr0_1
  have HC0_1 := Aside0.mk hc0_1
  clear hr0_1 hc0_1
  have HR0_2 := Aside0.mk hr0_2
  have HC0_2 := Aside0.mk hc0_2
  clear hr0_2 hc0_2
  have HR1_0 := Aside0.mk hr1_0
  have HC1_0 := Aside0.mk hc1_0
  clear hr1_0 hc1_0
  have HR1_1 := Aside0.mk hr1_1
  have HC1_1 := Aside0.mk hc1_1
  clear hr1_1 hc1_1
  have HR1_2 := Aside0.mk hr1_2
  have HC1_2 := Aside0.mk hc1_2
  clear hr1_2 hc1_2
  have HB := Aside0.mk (Below.refl w.heap.size w)
  have H : ((laws_szState.f k l0_0 l0_1 l0_2 a0_3 1048576).bind fun t202 => (if t202 < 0 then (some true) else ((laws_szState.f k l1_0 l1_1 l1_2 a1_3 t202).bind fun t203 => (if t203 < 0 then (some true) else ((laws_toState.f k l0_0 l0_1 l0_2 a0_3).bind fun bt204 => ((laws_toState.f k l1_0 l1_1 l1_2 a1_3).bind fun bt214 => ((spec_SameState.f k bt204.1 bt204.2.1 bt204.2.2.1 bt204.2.2.2 bt214.1 bt214.2.1 bt214.2.2.1 bt214.2.2.2).bind fun t224 => ((laws_toState.f k l0_0 l0_1 l0_2 a0_3).bind fun bt225 => ((laws_toState.f k l1_0 l1_1 l1_2 a1_3).bind fun bt236 => ((impl_SameState.f k bt225.1 bt225.2.1 bt225.2.2.1 bt225.2.2.2 bt236.1 bt236.2.1 bt236.2.2.1 bt236.2.2.2).bind fun t247 => (if (t247 != t224) = true then (some false) else ((laws_toState.f k l0_0 l0_1 l0_2 a0_3).bind fun bt248 => ((laws_eqState.f k bt225.1 bt225.2.1 bt225.2.2.1 bt225.2.2.2 bt248.1 bt248.2.1 bt248.2.2.1 bt248.2.2.2).bind fun t258 => (if t258 = true then ((laws_toState.f k l1_0 l1_1 l1_2 a1_3).bind fun bt259 => ((laws_eqState.f k bt236.1 bt236.2.1 bt236.2.2.1 bt236.2.2.2 bt259.1 bt259.2.1 bt259.2.2.1 bt259.2.2.2).bind fun t269 => (if t269 = true then (some true) else (some false)))) else (some false))))))))))))))) = some r := h
  clear h
  replace H := Option.bind_eq_some_iff.mp H
  obtain ⟨t202, A30, H⟩ := H
  replace H : (if t202 < 0 then (some true) else ((laws_szState.f k l1_0 l1_1 l1_2 a1_3 t202).bind fun t203 => (if t203 < 0 then (some true) else ((laws_toState.f k l0_0 l0_1 l0_2 a0_3).bind fun bt204 => ((laws_toState.f k l1_0 l1_1 l1_2 a1_3).bind fun bt214 => ((spec_SameState.f k bt204.1 bt204.2.1 bt204.2.2.1 bt204.2.2.2 bt214.1 bt214.2.1 bt214.2.2.1 bt214.2.2.2).bind fun t224 => ((laws_toState.f k l0_0 l0_1 l0_2 a0_3).bind fun bt225 => ((laws_toState.f k l1_0 l1_1 l1_2 a1_3).bind fun bt236 => ((impl_SameState.f k bt225.1 bt225.2.1 bt225.2.2.1 bt225.2.2.2 bt236.1 bt236.2.1 bt236.2.2.1 bt236.2.2.2).bind fun t247 => (if (t247 != t224) = true then (some false) else ((laws_toState.f k l0_0 l0_1 l0_2 a0_3).bind fun bt248 => ((laws_eqState.f k bt225.1 bt225.2.1 bt225.2.2.1 bt225.2.2.2 bt248.1 bt248.2.1 bt248.2.2.1 bt248.2.2.2).bind fun t258 => (if t258 = true then ((laws_toState.f k l1_0 l1_1 l1_2 a1_3).bind fun bt259 => ((laws_eqState.f k bt236.1 bt236.2.1 bt236.2.2.1 bt236.2.2.2 bt259.1 bt259.2.1 bt259.2.2.1 bt259.2.2.2).bind fun t269 => (if t269 = true then (some true) else (some false)))) else (some false)))))))))))))) = some r := H
  have A3 := Aside0.mk A30
  clear A30
  by_cases c4 : t202 < 0
  · rw [if_pos c4] at H
    have c4b0 : decide (t202 < 0) = true := decide_eq_true c4
    clear c4
    obtain rfl := Option.some.inj H
    go_enter Try.func13, Try.ntmps13
    go_wp2_with (first | ((with_reducible refine gate_dst (N := 2) rfl ?_); refine box_event ?hg (N := 2) ?hd (cs := #[.slice A0_0 l0_0.length c0_0, .slice A0_1 l0_1.length c0_1, .slice A0_2 l0_2.length c0_2, .int .i64 a0_3]) (t := 70) ?hr ?_; (case hd => rfl); (case hg => rfl); (case hr => first | (go_simp; done) | (go_simp; rfl)); intro gb200 hg w5 hbox hb; have n0_ := Aside0.mk (below_step (by repeat (first | (with_reducible first|exact HB.out|apply vA_|apply vN_|apply vD_) | exact HB.out)) hb); have n1_ := Aside0.mk (hbox); have n2_ := Aside0.mk ((by rw [hg]; exact (below_size (by repeat (first | (with_reducible first|exact HB.out|apply vA_|apply vN_|apply vD_) | exact HB.out))) : w.heap.size ≤ gb200)); have n3_ := Aside0.mk ((by rw [hg]; exact (below_size (by repeat (first | (with_reducible first|exact HB.out|apply vA_|apply vN_|apply vD_) | exact HB.out))) : w.heap.size ≤ gb200)); clear HB; have HB := n0_; have BK200 := n1_; have GW200 := n2_; have GE200 := n3_; clear n0_ n1_ n2_ n3_; clear hb hbox hg) | ((with_reducible refine gate_dst (N := 3) rfl ?_); refine box_event ?hg (N := 3) ?hd (cs := #[.slice A1_0 l1_0.length c1_0, .slice A1_1 l1_1.length c1_1, .slice A1_2 l1_2.length c1_2, .int .i64 a1_3]) (t := 70) ?hr ?_; (case hd => rfl); (case hg => rfl); (case hr => first | (go_simp; done) | (go_simp; rfl)); intro gb201 hg w6 hbox hb; have n0_ := Aside0.mk (blk_below (by (with_reducible repeat first|apply qN_|apply qD_|apply qA_); exact BK200.out) hb); have n1_ := Aside0.mk (below_step (by repeat (first | (with_reducible first|exact HB.out|apply vA_|apply vN_|apply vD_ | refine vS_ ?_ GE200.out) | exact HB.out)) hb); have n2_ := Aside0.mk (hbox); have n3_ := Aside0.mk ((by rw [hg]; exact (below_size (by repeat (first | (with_reducible first|exact HB.out|apply vA_|apply vN_|apply vD_ | refine vS_ ?_ GE200.out) | exact HB.out))) : w.heap.size ≤ gb201)); have n4_ := Aside0.mk ((by rw [hg]; exact (below_size (by repeat (first | (with_reducible first|exact HB.out|apply vA_|apply vN_|apply vD_ | refine vS_ ?_ GE200.out) | exact HB.out))) : w.heap.size ≤ gb201)); have n5_ := Aside0.mk ((by rw [hg]; exact Nat.ne_of_lt (blk_lt (g := gb200) (o := .cells #[.slice A0_0 l0_0.length c0_0, .slice A0_1 l0_1.length c0_1, .slice A0_2 l0_2.length c0_2, .int .i64 a0_3] 70 (0, 0)) (by (with_reducible repeat first|apply qN_|apply qD_|apply qA_); exact BK200.out)) : gb200 ≠ gb201)); have n6_ := Aside0.mk ((by rw [hg]; exact Nat.ne_of_gt (blk_lt (g := gb200) (o := .cells #[.slice A0_0 l0_0.length c0_0, .slice A0_1 l0_1.length c0_1, .slice A0_2 l0_2.length c0_2, .int .i64 a0_3] 70 (0, 0)) (by (with_reducible repeat first|apply qN_|apply qD_|apply qA_); exact BK200.out)) : gb201 ≠ gb200)); clear BK200; clear HB; have BK200 := n0_; have HB := n1_; have BK201 := n2_; have GW201 := n3_; have GE201 := n4_; have NB200_201 := n5_; have NB201_200 := n6_; clear n0_ n1_ n2_ n3_ n4_ n5_ n6_; clear hb hbox hg; have hnb7 := NB200_201.out; have hnc7 := NB201_200.out; have hcz8_0 : w6.cell? ⟨gb200, 0, none⟩ = some (.slice A0_0 l0_0.length c0_0) := (blk_cell BK200.out 0).trans rfl; have hcz8_1 : w6.cell? ⟨gb200, 1, none⟩ = some (.slice A0_1 l0_1.length c0_1) := (blk_cell BK200.out 1).trans rfl; have hcz8_2 : w6.cell? ⟨gb200, 2, none⟩ = some (.slice A0_2 l0_2.length c0_2) := (blk_cell BK200.out 2).trans rfl; have hcz8_3 : w6.cell? ⟨gb200, 3, none⟩ = some (.int .i64 a0_3) := (blk_cell BK200.out 3).trans rfl; have hfz8_0 := blk_frozen BK200.out 0; have hfz8_1 := blk_frozen BK200.out 1; have hfz8_2 := blk_frozen BK200.out 2; have hfz8_3 := blk_frozen BK200.out 3) | ((with_reducible refine gate_callee (f := 54) rfl ?_); refine goesL_ (some 12) rfl rfl Try.func54 (by kernel_rfl) rfl #[.agg #[.slice A0_0 l0_0.length c0_0, .slice A0_1 l0_1.length c0_1, .slice A0_2 l0_2.length c0_2, .int .i64 a0_3], .int .i64 1048576] rfl (by (try simp only [List.map_toArray, List.map_cons, List.map_nil]); first | done | rfl | (simp only [List.length_drop, List.length_take]; rfl)) ?_; (with_reducible refine (laws_szState.calls k _ _ l0_0 _ _ l0_1 _ _ l0_2 a0_3 1048576 t202 _ ?side1 ?side2 ?side3 ?side4 ?side5 ?side6 A3.out).mono ?_); (case side1 => repeat (first | exact (Kd.C_below HR0_0.out HB.out) | with_reducible apply cA_|with_reducible apply cN_|with_reducible apply cD_)); (case side2 => exact HC0_0.out); (case side3 => repeat (first | exact (Kd.C_below HR0_1.out HB.out) | with_reducible apply cA_|with_reducible apply cN_|with_reducible apply cD_)); (case side4 => exact HC0_1.out); (case side5 => repeat (first | exact (Kd.C_below HR0_2.out HB.out) | with_reducible apply cA_|with_reducible apply cN_|with_reducible apply cD_)); (case side6 => exact HC0_2.out); rintro e w9 ⟨rfl, hb⟩; refine ⟨_, rfl, ?_⟩; have n0_ := Aside0.mk (blk_below (by (with_reducible repeat first|apply qN_|apply qD_|apply qA_); exact BK200.out) hb); have n1_ := Aside0.mk (blk_below (by (with_reducible repeat first|apply qN_|apply qD_|apply qA_); exact BK201.out) hb); have n2_ := Aside0.mk (below_step (by repeat (first | (with_reducible first|exact HB.out|apply vA_|apply vN_|apply vD_ | refine vS_ ?_ GE200.out | refine vS_ ?_ GE201.out) | exact HB.out)) hb); clear BK200; clear BK201; clear HB; have BK200 := n0_; have BK201 := n1_; have HB := n2_; clear n0_ n1_ n2_; (try clear hb); (try clear hb2); (try clear hk); (try clear hi)))
    go_ret
    exact ⟨by first | rfl | (simp [errW_none, errW_some] <;> rfl) | (simp [*, errW_none, errW_some] <;> rfl), by repeat (first | (with_reducible first|exact HB.out|apply vA_|apply vN_|apply vD_ | refine vS_ ?_ GE200.out | refine vS_ ?_ GE201.out) | exact HB.out)⟩
  · rw [if_neg c4] at H
    have c4b0 : decide (t202 < 0) = false := decide_eq_false c4
    clear c4
    replace H := Option.bind_eq_some_iff.mp H
    obtain ⟨t203, A100, H⟩ := H
    replace H : (if t203 < 0 then (some true) else ((laws_toState.f k l0_0 l0_1 l0_2 a0_3).bind fun bt204 => ((laws_toState.f k l1_0 l1_1 l1_2 a1_3).bind fun bt214 => ((spec_SameState.f k bt204.1 bt204.2.1 bt204.2.2.1 bt204.2.2.2 bt214.1 bt214.2.1 bt214.2.2.1 bt214.2.2.2).bind fun t224 => ((laws_toState.f k l0_0 l0_1 l0_2 a0_3).bind fun bt225 => ((laws_toState.f k l1_0 l1_1 l1_2 a1_3).bind fun bt236 => ((impl_SameState.f k bt225.1 bt225.2.1 bt225.2.2.1 bt225.2.2.2 bt236.1 bt236.2.1 bt236.2.2.1 bt236.2.2.2).bind fun t247 => (if (t247 != t224) = true then (some false) else ((laws_toState.f k l0_0 l0_1 l0_2 a0_3).bind fun bt248 => ((laws_eqState.f k bt225.1 bt225.2.1 bt225.2.2.1 bt225.2.2.2 bt248.1 bt248.2.1 bt248.2.2.1 bt248.2.2.2).bind fun t258 => (if t258 = true then ((laws_toState.f k l1_0 l1_1 l1_2 a1_3).bind fun bt259 => ((laws_eqState.f k bt236.1 bt236.2.1 bt236.2.2.1 bt236.2.2.2 bt259.1 bt259.2.1 bt259.2.2.1 bt259.2.2.2).bind fun t269 => (if t269 = true then (some true) else (some false)))) else (some false)))))))))))) = some r := H
    have A10 := Aside0.mk A100
    clear A100
    by_cases c11 : t203 < 0
    · rw [if_pos c11] at H
      have c11b0 : decide (t203 < 0) = true := decide_eq_true c11
      clear c11
      obtain rfl := Option.some.inj H
      go_enter Try.func13, Try.ntmps13
      go_wp2_with (first | ((with_reducible refine gate_dst (N := 2) rfl ?_); refine box_event ?hg (N := 2) ?hd (cs := #[.slice A0_0 l0_0.length c0_0, .slice A0_1 l0_1.length c0_1, .slice A0_2 l0_2.length c0_2, .int .i64 a0_3]) (t := 70) ?hr ?_; (case hd => rfl); (case hg => rfl); (case hr => first | (go_simp; done) | (go_simp; rfl)); intro gb200 hg w12 hbox hb; have n0_ := Aside0.mk (below_step (by repeat (first | (with_reducible first|exact HB.out|apply vA_|apply vN_|apply vD_) | exact HB.out)) hb); have n1_ := Aside0.mk (hbox); have n2_ := Aside0.mk ((by rw [hg]; exact (below_size (by repeat (first | (with_reducible first|exact HB.out|apply vA_|apply vN_|apply vD_) | exact HB.out))) : w.heap.size ≤ gb200)); have n3_ := Aside0.mk ((by rw [hg]; exact (below_size (by repeat (first | (with_reducible first|exact HB.out|apply vA_|apply vN_|apply vD_) | exact HB.out))) : w.heap.size ≤ gb200)); clear HB; have HB := n0_; have BK200 := n1_; have GW200 := n2_; have GE200 := n3_; clear n0_ n1_ n2_ n3_; clear hb hbox hg) | ((with_reducible refine gate_dst (N := 3) rfl ?_); refine box_event ?hg (N := 3) ?hd (cs := #[.slice A1_0 l1_0.length c1_0, .slice A1_1 l1_1.length c1_1, .slice A1_2 l1_2.length c1_2, .int .i64 a1_3]) (t := 70) ?hr ?_; (case hd => rfl); (case hg => rfl); (case hr => first | (go_simp; done) | (go_simp; rfl)); intro gb201 hg w13 hbox hb; have n0_ := Aside0.mk (blk_below (by (with_reducible repeat first|apply qN_|apply qD_|apply qA_); exact BK200.out) hb); have n1_ := Aside0.mk (below_step (by repeat (first | (with_reducible first|exact HB.out|apply vA_|apply vN_|apply vD_ | refine vS_ ?_ GE200.out) | exact HB.out)) hb); have n2_ := Aside0.mk (hbox); have n3_ := Aside0.mk ((by rw [hg]; exact (below_size (by repeat (first | (with_reducible first|exact HB.out|apply vA_|apply vN_|apply vD_ | refine vS_ ?_ GE200.out) | exact HB.out))) : w.heap.size ≤ gb201)); have n4_ := Aside0.mk ((by rw [hg]; exact (below_size (by repeat (first | (with_reducible first|exact HB.out|apply vA_|apply vN_|apply vD_ | refine vS_ ?_ GE200.out) | exact HB.out))) : w.heap.size ≤ gb201)); have n5_ := Aside0.mk ((by rw [hg]; exact Nat.ne_of_lt (blk_lt (g := gb200) (o := .cells #[.slice A0_0 l0_0.length c0_0, .slice A0_1 l0_1.length c0_1, .slice A0_2 l0_2.length c0_2, .int .i64 a0_3] 70 (0, 0)) (by (with_reducible repeat first|apply qN_|apply qD_|apply qA_); exact BK200.out)) : gb200 ≠ gb201)); have n6_ := Aside0.mk ((by rw [hg]; exact Nat.ne_of_gt (blk_lt (g := gb200) (o := .cells #[.slice A0_0 l0_0.length c0_0, .slice A0_1 l0_1.length c0_1, .slice A0_2 l0_2.length c0_2, .int .i64 a0_3] 70 (0, 0)) (by (with_reducible repeat first|apply qN_|apply qD_|apply qA_); exact BK200.out)) : gb201 ≠ gb200)); clear BK200; clear HB; have BK200 := n0_; have HB := n1_; have BK201 := n2_; have GW201 := n3_; have GE201 := n4_; have NB200_201 := n5_; have NB201_200 := n6_; clear n0_ n1_ n2_ n3_ n4_ n5_ n6_; clear hb hbox hg; have hnb14 := NB200_201.out; have hnc14 := NB201_200.out; have hcz15_0 : w13.cell? ⟨gb200, 0, none⟩ = some (.slice A0_0 l0_0.length c0_0) := (blk_cell BK200.out 0).trans rfl; have hcz15_1 : w13.cell? ⟨gb200, 1, none⟩ = some (.slice A0_1 l0_1.length c0_1) := (blk_cell BK200.out 1).trans rfl; have hcz15_2 : w13.cell? ⟨gb200, 2, none⟩ = some (.slice A0_2 l0_2.length c0_2) := (blk_cell BK200.out 2).trans rfl; have hcz15_3 : w13.cell? ⟨gb200, 3, none⟩ = some (.int .i64 a0_3) := (blk_cell BK200.out 3).trans rfl; have hfz15_0 := blk_frozen BK200.out 0; have hfz15_1 := blk_frozen BK200.out 1; have hfz15_2 := blk_frozen BK200.out 2; have hfz15_3 := blk_frozen BK200.out 3) | ((with_reducible refine gate_callee (f := 54) rfl ?_); refine goesL_ (some 12) rfl rfl Try.func54 (by kernel_rfl) rfl #[.agg #[.slice A0_0 l0_0.length c0_0, .slice A0_1 l0_1.length c0_1, .slice A0_2 l0_2.length c0_2, .int .i64 a0_3], .int .i64 1048576] rfl (by (try simp only [List.map_toArray, List.map_cons, List.map_nil]); first | done | rfl | (simp only [List.length_drop, List.length_take]; rfl)) ?_; (with_reducible refine (laws_szState.calls k _ _ l0_0 _ _ l0_1 _ _ l0_2 a0_3 1048576 t202 _ ?side1 ?side2 ?side3 ?side4 ?side5 ?side6 A3.out).mono ?_); (case side1 => repeat (first | exact (Kd.C_below HR0_0.out HB.out) | with_reducible apply cA_|with_reducible apply cN_|with_reducible apply cD_)); (case side2 => exact HC0_0.out); (case side3 => repeat (first | exact (Kd.C_below HR0_1.out HB.out) | with_reducible apply cA_|with_reducible apply cN_|with_reducible apply cD_)); (case side4 => exact HC0_1.out); (case side5 => repeat (first | exact (Kd.C_below HR0_2.out HB.out) | with_reducible apply cA_|with_reducible apply cN_|with_reducible apply cD_)); (case side6 => exact HC0_2.out); rintro e w16 ⟨rfl, hb⟩; refine ⟨_, rfl, ?_⟩; have n0_ := Aside0.mk (blk_below (by (with_reducible repeat first|apply qN_|apply qD_|apply qA_); exact BK200.out) hb); have n1_ := Aside0.mk (blk_below (by (with_reducible repeat first|apply qN_|apply qD_|apply qA_); exact BK201.out) hb); have n2_ := Aside0.mk (below_step (by repeat (first | (with_reducible first|exact HB.out|apply vA_|apply vN_|apply vD_ | refine vS_ ?_ GE200.out | refine vS_ ?_ GE201.out) | exact HB.out)) hb); clear BK200; clear BK201; clear HB; have BK200 := n0_; have BK201 := n1_; have HB := n2_; clear n0_ n1_ n2_; (try clear hb); (try clear hb2); (try clear hk); (try clear hi); have hcz17_0 : w16.cell? ⟨gb201, 0, none⟩ = some (.slice A1_0 l1_0.length c1_0) := (blk_cell BK201.out 0).trans rfl; have hcz17_1 : w16.cell? ⟨gb201, 1, none⟩ = some (.slice A1_1 l1_1.length c1_1) := (blk_cell BK201.out 1).trans rfl; have hcz17_2 : w16.cell? ⟨gb201, 2, none⟩ = some (.slice A1_2 l1_2.length c1_2) := (blk_cell BK201.out 2).trans rfl; have hcz17_3 : w16.cell? ⟨gb201, 3, none⟩ = some (.int .i64 a1_3) := (blk_cell BK201.out 3).trans rfl; have hfz17_0 := blk_frozen BK201.out 0; have hfz17_1 := blk_frozen BK201.out 1; have hfz17_2 := blk_frozen BK201.out 2; have hfz17_3 := blk_frozen BK201.out 3) | ((with_reducible refine gate_callee (f := 54) rfl ?_); refine goesL_ (some 17) rfl rfl Try.func54 (by kernel_rfl) rfl #[.agg #[.slice A1_0 l1_0.length c1_0, .slice A1_1 l1_1.length c1_1, .slice A1_2 l1_2.length c1_2, .int .i64 a1_3], .int .i64 t202] rfl (by (try simp only [List.map_toArray, List.map_cons, List.map_nil]); first | done | rfl | (simp only [List.length_drop, List.length_take]; rfl)) ?_; (with_reducible refine (laws_szState.calls k _ _ l1_0 _ _ l1_1 _ _ l1_2 a1_3 t202 t203 _ ?side1 ?side2 ?side3 ?side4 ?side5 ?side6 A10.out).mono ?_); (case side1 => repeat (first | exact (Kd.C_below HR1_0.out HB.out) | with_reducible apply cA_|with_reducible apply cN_|with_reducible apply cD_)); (case side2 => exact HC1_0.out); (case side3 => repeat (first | exact (Kd.C_below HR1_1.out HB.out) | with_reducible apply cA_|with_reducible apply cN_|with_reducible apply cD_)); (case side4 => exact HC1_1.out); (case side5 => repeat (first | exact (Kd.C_below HR1_2.out HB.out) | with_reducible apply cA_|with_reducible apply cN_|with_reducible apply cD_)); (case side6 => exact HC1_2.out); rintro e w18 ⟨rfl, hb⟩; refine ⟨_, rfl, ?_⟩; have n0_ := Aside0.mk (blk_below (by (with_reducible repeat first|apply qN_|apply qD_|apply qA_); exact BK200.out) hb); have n1_ := Aside0.mk (blk_below (by (with_reducible repeat first|apply qN_|apply qD_|apply qA_); exact BK201.out) hb); have n2_ := Aside0.mk (below_step (by repeat (first | (with_reducible first|exact HB.out|apply vA_|apply vN_|apply vD_ | refine vS_ ?_ GE200.out | refine vS_ ?_ GE201.out) | exact HB.out)) hb); clear BK200; clear BK201; clear HB; have BK200 := n0_; have BK201 := n1_; have HB := n2_; clear n0_ n1_ n2_; (try clear hb); (try clear hb2); (try clear hk); (try clear hi)))
      go_ret
      exact ⟨by first | rfl | (simp [errW_none, errW_some] <;> rfl) | (simp [*, errW_none, errW_some] <;> rfl), by repeat (first | (with_reducible first|exact HB.out|apply vA_|apply vN_|apply vD_ | refine vS_ ?_ GE200.out | refine vS_ ?_ GE201.out) | exact HB.out)⟩
    · rw [if_neg c11] at H
      have c11b0 : decide (t203 < 0) = false := decide_eq_false c11
      clear c11
      replace H := Option.bind_eq_some_iff.mp H
      obtain ⟨⟨t204, t207, t210, t213⟩, A190, H⟩ := H
      replace H : ((laws_toState.f k l1_0 l1_1 l1_2 a1_3).bind fun bt214 => ((spec_SameState.f k t204 t207 t210 t213 bt214.1 bt214.2.1 bt214.2.2.1 bt214.2.2.2).bind fun t224 => ((laws_toState.f k l0_0 l0_1 l0_2 a0_3).bind fun bt225 => ((laws_toState.f k l1_0 l1_1 l1_2 a1_3).bind fun bt236 => ((impl_SameState.f k bt225.1 bt225.2.1 bt225.2.2.1 bt225.2.2.2 bt236.1 bt236.2.1 bt236.2.2.1 bt236.2.2.2).bind fun t247 => (if (t247 != t224) = true then (some false) else ((laws_toState.f k l0_0 l0_1 l0_2 a0_3).bind fun bt248 => ((laws_eqState.f k bt225.1 bt225.2.1 bt225.2.2.1 bt225.2.2.2 bt248.1 bt248.2.1 bt248.2.2.1 bt248.2.2.2).bind fun t258 => (if t258 = true then ((laws_toState.f k l1_0 l1_1 l1_2 a1_3).bind fun bt259 => ((laws_eqState.f k bt236.1 bt236.2.1 bt236.2.2.1 bt236.2.2.2 bt259.1 bt259.2.1 bt259.2.2.1 bt259.2.2.2).bind fun t269 => (if t269 = true then (some true) else (some false)))) else (some false)))))))))) = some r := H
      have A19 := Aside0.mk A190
      clear A190
      replace H := Option.bind_eq_some_iff.mp H
      obtain ⟨⟨t214, t217, t220, t223⟩, A200, H⟩ := H
      replace H : ((spec_SameState.f k t204 t207 t210 t213 t214 t217 t220 t223).bind fun t224 => ((laws_toState.f k l0_0 l0_1 l0_2 a0_3).bind fun bt225 => ((laws_toState.f k l1_0 l1_1 l1_2 a1_3).bind fun bt236 => ((impl_SameState.f k bt225.1 bt225.2.1 bt225.2.2.1 bt225.2.2.2 bt236.1 bt236.2.1 bt236.2.2.1 bt236.2.2.2).bind fun t247 => (if (t247 != t224) = true then (some false) else ((laws_toState.f k l0_0 l0_1 l0_2 a0_3).bind fun bt248 => ((laws_eqState.f k bt225.1 bt225.2.1 bt225.2.2.1 bt225.2.2.2 bt248.1 bt248.2.1 bt248.2.2.1 bt248.2.2.2).bind fun t258 => (if t258 = true then ((laws_toState.f k l1_0 l1_1 l1_2 a1_3).bind fun bt259 => ((laws_eqState.f k bt236.1 bt236.2.1 bt236.2.2.1 bt236.2.2.2 bt259.1 bt259.2.1 bt259.2.2.1 bt259.2.2.2).bind fun t269 => (if t269 = true then (some true) else (some false)))) else (some false))))))))) = some r := H
      have A20 := Aside0.mk A200
      clear A200
      replace H := Option.bind_eq_some_iff.mp H
      obtain ⟨t224, A210, H⟩ := H
      replace H : ((laws_toState.f k l0_0 l0_1 l0_2 a0_3).bind fun bt225 => ((laws_toState.f k l1_0 l1_1 l1_2 a1_3).bind fun bt236 => ((impl_SameState.f k bt225.1 bt225.2.1 bt225.2.2.1 bt225.2.2.2 bt236.1 bt236.2.1 bt236.2.2.1 bt236.2.2.2).bind fun t247 => (if (t247 != t224) = true then (some false) else ((laws_toState.f k l0_0 l0_1 l0_2 a0_3).bind fun bt248 => ((laws_eqState.f k bt225.1 bt225.2.1 bt225.2.2.1 bt225.2.2.2 bt248.1 bt248.2.1 bt248.2.2.1 bt248.2.2.2).bind fun t258 => (if t258 = true then ((laws_toState.f k l1_0 l1_1 l1_2 a1_3).bind fun bt259 => ((laws_eqState.f k bt236.1 bt236.2.1 bt236.2.2.1 bt236.2.2.2 bt259.1 bt259.2.1 bt259.2.2.1 bt259.2.2.2).bind fun t269 => (if t269 = true then (some true) else (some false)))) else (some false)))))))) = some r := H
      have A21 := Aside0.mk A210
      clear A210
      replace H := Option.bind_eq_some_iff.mp H
      obtain ⟨⟨t225, t228, t231, t234⟩, A220, H⟩ := H
      replace H : ((laws_toState.f k l1_0 l1_1 l1_2 a1_3).bind fun bt236 => ((impl_SameState.f k t225 t228 t231 t234 bt236.1 bt236.2.1 bt236.2.2.1 bt236.2.2.2).bind fun t247 => (if (t247 != t224) = true then (some false) else ((laws_toState.f k l0_0 l0_1 l0_2 a0_3).bind fun bt248 => ((laws_eqState.f k t225 t228 t231 t234 bt248.1 bt248.2.1 bt248.2.2.1 bt248.2.2.2).bind fun t258 => (if t258 = true then ((laws_toState.f k l1_0 l1_1 l1_2 a1_3).bind fun bt259 => ((laws_eqState.f k bt236.1 bt236.2.1 bt236.2.2.1 bt236.2.2.2 bt259.1 bt259.2.1 bt259.2.2.1 bt259.2.2.2).bind fun t269 => (if t269 = true then (some true) else (some false)))) else (some false))))))) = some r := H
      have A22 := Aside0.mk A220
      clear A220
      replace H := Option.bind_eq_some_iff.mp H
      obtain ⟨⟨t236, t239, t242, t245⟩, A230, H⟩ := H
      replace H : ((impl_SameState.f k t225 t228 t231 t234 t236 t239 t242 t245).bind fun t247 => (if (t247 != t224) = true then (some false) else ((laws_toState.f k l0_0 l0_1 l0_2 a0_3).bind fun bt248 => ((laws_eqState.f k t225 t228 t231 t234 bt248.1 bt248.2.1 bt248.2.2.1 bt248.2.2.2).bind fun t258 => (if t258 = true then ((laws_toState.f k l1_0 l1_1 l1_2 a1_3).bind fun bt259 => ((laws_eqState.f k t236 t239 t242 t245 bt259.1 bt259.2.1 bt259.2.2.1 bt259.2.2.2).bind fun t269 => (if t269 = true then (some true) else (some false)))) else (some false)))))) = some r := H
      have A23 := Aside0.mk A230
      clear A230
      replace H := Option.bind_eq_some_iff.mp H
      obtain ⟨t247, A240, H⟩ := H
      replace H : (if (t247 != t224) = true then (some false) else ((laws_toState.f k l0_0 l0_1 l0_2 a0_3).bind fun bt248 => ((laws_eqState.f k t225 t228 t231 t234 bt248.1 bt248.2.1 bt248.2.2.1 bt248.2.2.2).bind fun t258 => (if t258 = true then ((laws_toState.f k l1_0 l1_1 l1_2 a1_3).bind fun bt259 => ((laws_eqState.f k t236 t239 t242 t245 bt259.1 bt259.2.1 bt259.2.2.1 bt259.2.2.2).bind fun t269 => (if t269 = true then (some true) else (some false)))) else (some false))))) = some r := H
      have A24 := Aside0.mk A240
      clear A240
      go_enter Try.func13, Try.ntmps13
      try go_wp2_with (first | ((with_reducible refine gate_dst (N := 2) rfl ?_); refine box_event ?hg (N := 2) ?hd (cs := #[.slice A0_0 l0_0.length c0_0, .slice A0_1 l0_1.length c0_1, .slice A0_2 l0_2.length c0_2, .int .i64 a0_3]) (t := 70) ?hr ?_; (case hd => rfl); (case hg => rfl); (case hr => first | (go_simp; done) | (go_simp; rfl)); intro gb200 hg w26 hbox hb; have n0_ := Aside0.mk (below_step (by repeat (first | (with_reducible first|exact HB.out|apply vA_|apply vN_|apply vD_) | exact HB.out)) hb); have n1_ := Aside0.mk (hbox); have n2_ := Aside0.mk ((by rw [hg]; exact (below_size (by repeat (first | (with_reducible first|exact HB.out|apply vA_|apply vN_|apply vD_) | exact HB.out))) : w.heap.size ≤ gb200)); have n3_ := Aside0.mk ((by rw [hg]; exact (below_size (by repeat (first | (with_reducible first|exact HB.out|apply vA_|apply vN_|apply vD_) | exact HB.out))) : w.heap.size ≤ gb200)); clear HB; have HB := n0_; have BK200 := n1_; have GW200 := n2_; have GE200 := n3_; clear n0_ n1_ n2_ n3_; clear hb hbox hg) | ((with_reducible refine gate_dst (N := 3) rfl ?_); refine box_event ?hg (N := 3) ?hd (cs := #[.slice A1_0 l1_0.length c1_0, .slice A1_1 l1_1.length c1_1, .slice A1_2 l1_2.length c1_2, .int .i64 a1_3]) (t := 70) ?hr ?_; (case hd => rfl); (case hg => rfl); (case hr => first | (go_simp; done) | (go_simp; rfl)); intro gb201 hg w27 hbox hb; have n0_ := Aside0.mk (blk_below (by (with_reducible repeat first|apply qN_|apply qD_|apply qA_); exact BK200.out) hb); have n1_ := Aside0.mk (below_step (by repeat (first | (with_reducible first|exact HB.out|apply vA_|apply vN_|apply vD_ | refine vS_ ?_ GE200.out) | exact HB.out)) hb); have n2_ := Aside0.mk (hbox); have n3_ := Aside0.mk ((by rw [hg]; exact (below_size (by repeat (first | (with_reducible first|exact HB.out|apply vA_|apply vN_|apply vD_ | refine vS_ ?_ GE200.out) | exact HB.out))) : w.heap.size ≤ gb201)); have n4_ := Aside0.mk ((by rw [hg]; exact (below_size (by repeat (first | (with_reducible first|exact HB.out|apply vA_|apply vN_|apply vD_ | refine vS_ ?_ GE200.out) | exact HB.out))) : w.heap.size ≤ gb201)); have n5_ := Aside0.mk ((by rw [hg]; exact Nat.ne_of_lt (blk_lt (g := gb200) (o := .cells #[.slice A0_0 l0_0.length c0_0, .slice A0_1 l0_1.length c0_1, .slice A0_2 l0_2.length c0_2, .int .i64 a0_3] 70 (0, 0)) (by (with_reducible repeat first|apply qN_|apply qD_|apply qA_); exact BK200.out)) : gb200 ≠ gb201)); have n6_ := Aside0.mk ((by rw [hg]; exact Nat.ne_of_gt (blk_lt (g := gb200) (o := .cells #[.slice A0_0 l0_0.length c0_0, .slice A0_1 l0_1.length c0_1, .slice A0_2 l0_2.length c0_2, .int .i64 a0_3] 70 (0, 0)) (by (with_reducible repeat first|apply qN_|apply qD_|apply qA_); exact BK200.out)) : gb201 ≠ gb200)); clear BK200; clear HB; have BK200 := n0_; have HB := n1_; have BK201 := n2_; have GW201 := n3_; have GE201 := n4_; have NB200_201 := n5_; have NB201_200 := n6_; clear n0_ n1_ n2_ n3_ n4_ n5_ n6_; clear hb hbox hg; have hnb28 := NB200_201.out; have hnc28 := NB201_200.out; have hcz29_0 : w27.cell? ⟨gb200, 0, none⟩ = some (.slice A0_0 l0_0.length c0_0) := (blk_cell BK200.out 0).trans rfl; have hcz29_1 : w27.cell? ⟨gb200, 1, none⟩ = some (.slice A0_1 l0_1.length c0_1) := (blk_cell BK200.out 1).trans rfl; have hcz29_2 : w27.cell? ⟨gb200, 2, none⟩ = some (.slice A0_2 l0_2.length c0_2) := (blk_cell BK200.out 2).trans rfl; have hcz29_3 : w27.cell? ⟨gb200, 3, none⟩ = some (.int .i64 a0_3) := (blk_cell BK200.out 3).trans rfl; have hfz29_0 := blk_frozen BK200.out 0; have hfz29_1 := blk_frozen BK200.out 1; have hfz29_2 := blk_frozen BK200.out 2; have hfz29_3 := blk_frozen BK200.out 3) | ((with_reducible refine gate_callee (f := 54) rfl ?_); refine goesL_ (some 12) rfl rfl Try.func54 (by kernel_rfl) rfl #[.agg #[.slice A0_0 l0_0.length c0_0, .slice A0_1 l0_1.length c0_1, .slice A0_2 l0_2.length c0_2, .int .i64 a0_3], .int .i64 1048576] rfl (by (try simp only [List.map_toArray, List.map_cons, List.map_nil]); first | done | rfl | (simp only [List.length_drop, List.length_take]; rfl)) ?_; (with_reducible refine (laws_szState.calls k _ _ l0_0 _ _ l0_1 _ _ l0_2 a0_3 1048576 t202 _ ?side1 ?side2 ?side3 ?side4 ?side5 ?side6 A3.out).mono ?_); (case side1 => repeat (first | exact (Kd.C_below HR0_0.out HB.out) | with_reducible apply cA_|with_reducible apply cN_|with_reducible apply cD_)); (case side2 => exact HC0_0.out); (case side3 => repeat (first | exact (Kd.C_below HR0_1.out HB.out) | with_reducible apply cA_|with_reducible apply cN_|with_reducible apply cD_)); (case side4 => exact HC0_1.out); (case side5 => repeat (first | exact (Kd.C_below HR0_2.out HB.out) | with_reducible apply cA_|with_reducible apply cN_|with_reducible apply cD_)); (case side6 => exact HC0_2.out); rintro e w30 ⟨rfl, hb⟩; refine ⟨_, rfl, ?_⟩; have n0_ := Aside0.mk (blk_below (by (with_reducible repeat first|apply qN_|apply qD_|apply qA_); exact BK200.out) hb); have n1_ := Aside0.mk (blk_below (by (with_reducible repeat first|apply qN_|apply qD_|apply qA_); exact BK201.out) hb); have n2_ := Aside0.mk (below_step (by repeat (first | (with_reducible first|exact HB.out|apply vA_|apply vN_|apply vD_ | refine vS_ ?_ GE200.out | refine vS_ ?_ GE201.out) | exact HB.out)) hb); clear BK200; clear BK201; clear HB; have BK200 := n0_; have BK201 := n1_; have HB := n2_; clear n0_ n1_ n2_; (try clear hb); (try clear hb2); (try clear hk); (try clear hi); have hcz31_0 : w30.cell? ⟨gb201, 0, none⟩ = some (.slice A1_0 l1_0.length c1_0) := (blk_cell BK201.out 0).trans rfl; have hcz31_1 : w30.cell? ⟨gb201, 1, none⟩ = some (.slice A1_1 l1_1.length c1_1) := (blk_cell BK201.out 1).trans rfl; have hcz31_2 : w30.cell? ⟨gb201, 2, none⟩ = some (.slice A1_2 l1_2.length c1_2) := (blk_cell BK201.out 2).trans rfl; have hcz31_3 : w30.cell? ⟨gb201, 3, none⟩ = some (.int .i64 a1_3) := (blk_cell BK201.out 3).trans rfl; have hfz31_0 := blk_frozen BK201.out 0; have hfz31_1 := blk_frozen BK201.out 1; have hfz31_2 := blk_frozen BK201.out 2; have hfz31_3 := blk_frozen BK201.out 3) | ((with_reducible refine gate_callee (f := 54) rfl ?_); refine goesL_ (some 17) rfl rfl Try.func54 (by kernel_rfl) rfl #[.agg #[.slice A1_0 l1_0.length c1_0, .slice A1_1 l1_1.length c1_1, .slice A1_2 l1_2.length c1_2, .int .i64 a1_3], .int .i64 t202] rfl (by (try simp only [List.map_toArray, List.map_cons, List.map_nil]); first | done | rfl | (simp only [List.length_drop, List.length_take]; rfl)) ?_; (with_reducible refine (laws_szState.calls k _ _ l1_0 _ _ l1_1 _ _ l1_2 a1_3 t202 t203 _ ?side1 ?side2 ?side3 ?side4 ?side5 ?side6 A10.out).mono ?_); (case side1 => repeat (first | exact (Kd.C_below HR1_0.out HB.out) | with_reducible apply cA_|with_reducible apply cN_|with_reducible apply cD_)); (case side2 => exact HC1_0.out); (case side3 => repeat (first | exact (Kd.C_below HR1_1.out HB.out) | with_reducible apply cA_|with_reducible apply cN_|with_reducible apply cD_)); (case side4 => exact HC1_1.out); (case side5 => repeat (first | exact (Kd.C_below HR1_2.out HB.out) | with_reducible apply cA_|with_reducible apply cN_|with_reducible apply cD_)); (case side6 => exact HC1_2.out); rintro e w32 ⟨rfl, hb⟩; refine ⟨_, rfl, ?_⟩; have n0_ := Aside0.mk (blk_below (by (with_reducible repeat first|apply qN_|apply qD_|apply qA_); exact BK200.out) hb); have n1_ := Aside0.mk (blk_below (by (with_reducible repeat first|apply qN_|apply qD_|apply qA_); exact BK201.out) hb); have n2_ := Aside0.mk (below_step (by repeat (first | (with_reducible first|exact HB.out|apply vA_|apply vN_|apply vD_ | refine vS_ ?_ GE200.out | refine vS_ ?_ GE201.out) | exact HB.out)) hb); clear BK200; clear BK201; clear HB; have BK200 := n0_; have BK201 := n1_; have HB := n2_; clear n0_ n1_ n2_; (try clear hb); (try clear hb2); (try clear hk); (try clear hi)))
      have n0_ := Aside0.mk (blk_drew BK200.out)
      have n1_ := Aside0.mk (blk_drew BK201.out)
      have n2_ := Aside0.mk (below_drew1 HB.out)
      clear BK200
      clear BK201
      clear HB
      have BK200 := n0_
      have BK201 := n1_
      have HB := n2_
      clear n0_ n1_ n2_
      refine start_ (n := 6) (S := fun w' => w'.cell? ⟨gb200, 0, none⟩ = some (.slice A0_0 l0_0.length c0_0) ∧ w'.cell? ⟨gb200, 1, none⟩ = some (.slice A0_1 l0_1.length c0_1) ∧ w'.cell? ⟨gb200, 2, none⟩ = some (.slice A0_2 l0_2.length c0_2) ∧ w'.cell? ⟨gb200, 3, none⟩ = some (.int .i64 a0_3) ∧ w'.cell? ⟨gb201, 0, none⟩ = some (.slice A1_0 l1_0.length c1_0) ∧ w'.cell? ⟨gb201, 1, none⟩ = some (.slice A1_1 l1_1.length c1_1) ∧ w'.cell? ⟨gb201, 2, none⟩ = some (.slice A1_2 l1_2.length c1_2) ∧ w'.cell? ⟨gb201, 3, none⟩ = some (.int .i64 a1_3)) (ds := []) #[false, false, false, false, false, false] (by kernel_rfl) rfl rfl ⟨(blk_cell BK200.out 0).trans rfl, (blk_cell BK200.out 1).trans rfl, (blk_cell BK200.out 2).trans rfl, (blk_cell BK200.out 3).trans rfl, (blk_cell BK201.out 0).trans rfl, (blk_cell BK201.out 1).trans rfl, (blk_cell BK201.out 2).trans rfl, (blk_cell BK201.out 3).trans rfl⟩ (fun hHeld => ?_)
      generalize w32.drew = w33 at BK200 BK201 HB hHeld ⊢
      refine take_ (i := 0) (N := some 20) (v := ?_) (a' := ?_) #[true, false, false, false, false, false] rfl rfl (by kernel_rfl) (fun _ _ _ h => h) (Or.inl ⟨by rfl, ?_⟩) hHeld ?_ ?_
      rotate_left
      · rintro w' ⟨s0, s1, s2, s3, s4, s5, s6, s7⟩
        go_simp
        with_reducible rfl
      rotate_left
      · simp only [Act.put, List.setIfInBounds_toArray, List.set_cons_zero, List.set_cons_succ, i64_w, i32_w]
        rfl
      refine take_ (i := 2) (N := some 22) (v := ?_) (a' := ?_) #[true, false, true, false, false, false] rfl rfl (by kernel_rfl) (fun _ _ _ h => h) (Or.inl ⟨by rfl, ?_⟩) hHeld ?_ ?_
      rotate_left
      · rintro w' ⟨s0, s1, s2, s3, s4, s5, s6, s7⟩
        go_simp
        with_reducible rfl
      rotate_left
      · simp only [Act.put, List.setIfInBounds_toArray, List.set_cons_zero, List.set_cons_succ, i64_w, i32_w]
        rfl
      refine one_ (i := 1) (N := some 21) #[true, true, true, false, false, false] rfl rfl (by kernel_rfl) (by decide) (fun K hK => ?_)
      first | refine goes_ Try.func56 (by kernel_rfl) rfl #[.agg #[.slice A0_0 l0_0.length c0_0, .slice A0_1 l0_1.length c0_1, .slice A0_2 l0_2.length c0_2, .int .i64 a0_3]] (by rfl) rfl rfl (by (try simp only [List.map_toArray, List.map_cons, List.map_nil]); first | done | rfl | (simp only [List.length_drop, List.length_take]; rfl)) ?_ | refine goesV_ Try.func56 (by kernel_rfl) rfl #[.agg #[.slice A0_0 l0_0.length c0_0, .slice A0_1 l0_1.length c0_1, .slice A0_2 l0_2.length c0_2, .int .i64 a0_3]] (by rfl) rfl rfl (by rfl) (by first | rfl | (simp only [List.map_toArray, List.map_cons, List.map_nil]; rfl)) ?_
      with_reducible refine (laws_toState.calls k _ _ l0_0 _ _ l0_1 _ _ l0_2 a0_3 t204 t207 t210 t213 _ ?side1 ?side2 ?side3 ?side4 ?side5 ?side6 A19.out).mono ?_
      (case side1 => repeat (first | exact (Kd.C_below HR0_0.out HB.out) | with_reducible apply cA_|with_reducible apply cN_|with_reducible apply cD_))
      (case side2 => exact HC0_0.out)
      (case side3 => repeat (first | exact (Kd.C_below HR0_1.out HB.out) | with_reducible apply cA_|with_reducible apply cN_|with_reducible apply cD_))
      (case side4 => exact HC0_1.out)
      (case side5 => repeat (first | exact (Kd.C_below HR0_2.out HB.out) | with_reducible apply cA_|with_reducible apply cN_|with_reducible apply cD_))
      (case side6 => exact HC0_2.out)
      rintro e w34 ⟨v205, v208, v211, rfl, ho0, ho1, ho2, hb⟩
      refine ⟨_, rfl, ?_⟩
      have n0_ := Aside0.mk (Kd.S_lower ho0 (below_size (by repeat (first | (with_reducible first|exact HB.out|apply vA_|apply vN_|apply vD_ | refine vS_ ?_ GE200.out | refine vS_ ?_ GE201.out) | exact HB.out))))
      have n1_ := Aside0.mk (Kd.R_lower ho1 (below_size (by repeat (first | (with_reducible first|exact HB.out|apply vA_|apply vN_|apply vD_ | refine vS_ ?_ GE200.out | refine vS_ ?_ GE201.out) | exact HB.out))))
      have n2_ := Aside0.mk (Kd.R_lower ho2 (below_size (by repeat (first | (with_reducible first|exact HB.out|apply vA_|apply vN_|apply vD_ | refine vS_ ?_ GE200.out | refine vS_ ?_ GE201.out) | exact HB.out))))
      have n3_ := Aside0.mk (blk_below (by (with_reducible repeat first|apply qN_|apply qD_|apply qA_); exact BK200.out) hb)
      have n4_ := Aside0.mk (blk_below (by (with_reducible repeat first|apply qN_|apply qD_|apply qA_); exact BK201.out) hb)
      have n5_ := Aside0.mk (below_step (by repeat (first | (with_reducible first|exact HB.out|apply vA_|apply vN_|apply vD_ | refine vS_ ?_ GE200.out | refine vS_ ?_ GE201.out) | exact HB.out)) hb)
      clear BK200
      clear BK201
      clear HB
      have HO206 := n0_
      have HO209 := n1_
      have HO212 := n2_
      have BK200 := n3_
      have BK201 := n4_
      have HB := n5_
      clear n0_ n1_ n2_ n3_ n4_ n5_
      (try clear hb)
      (try clear hb2)
      (try clear hk)
      (try clear hi)
      (try clear ho0)
      (try clear ho1)
      (try clear ho2)
      refine hK.out _ _ ⟨(blk_cell BK200.out 0).trans rfl, (blk_cell BK200.out 1).trans rfl, (blk_cell BK200.out 2).trans rfl, (blk_cell BK200.out 3).trans rfl, (blk_cell BK201.out 0).trans rfl, (blk_cell BK201.out 1).trans rfl, (blk_cell BK201.out 2).trans rfl, (blk_cell BK201.out 3).trans rfl⟩ (fun hHeld => ?_)
      clear hK K
      refine norm_ (a' := ?_) ?_ ?_
      rotate_left
      · show Act.put _ (some 21) _ = _
        simp only [Act.put, List.setIfInBounds_toArray, List.set_cons_zero, List.set_cons_succ, i64_w, i32_w]
        rfl
      refine one_ (i := 3) (N := some 23) #[true, true, true, true, false, false] rfl rfl (by kernel_rfl) (by decide) (fun K hK => ?_)
      first | refine goes_ Try.func56 (by kernel_rfl) rfl #[.agg #[.slice A1_0 l1_0.length c1_0, .slice A1_1 l1_1.length c1_1, .slice A1_2 l1_2.length c1_2, .int .i64 a1_3]] (by rfl) rfl rfl (by (try simp only [List.map_toArray, List.map_cons, List.map_nil]); first | done | rfl | (simp only [List.length_drop, List.length_take]; rfl)) ?_ | refine goesV_ Try.func56 (by kernel_rfl) rfl #[.agg #[.slice A1_0 l1_0.length c1_0, .slice A1_1 l1_1.length c1_1, .slice A1_2 l1_2.length c1_2, .int .i64 a1_3]] (by rfl) rfl rfl (by rfl) (by first | rfl | (simp only [List.map_toArray, List.map_cons, List.map_nil]; rfl)) ?_
      with_reducible refine (laws_toState.calls k _ _ l1_0 _ _ l1_1 _ _ l1_2 a1_3 t214 t217 t220 t223 _ ?side1 ?side2 ?side3 ?side4 ?side5 ?side6 A20.out).mono ?_
      (case side1 => repeat (first | exact (Kd.C_below HR1_0.out HB.out) | with_reducible apply cA_|with_reducible apply cN_|with_reducible apply cD_))
      (case side2 => exact HC1_0.out)
      (case side3 => repeat (first | exact (Kd.C_below HR1_1.out HB.out) | with_reducible apply cA_|with_reducible apply cN_|with_reducible apply cD_))
      (case side4 => exact HC1_1.out)
      (case side5 => repeat (first | exact (Kd.C_below HR1_2.out HB.out) | with_reducible apply cA_|with_reducible apply cN_|with_reducible apply cD_))
      (case side6 => exact HC1_2.out)
      rintro e w35 ⟨v215, v218, v221, rfl, ho0, ho1, ho2, hb⟩
      refine ⟨_, rfl, ?_⟩
      have n0_ := Aside0.mk (Kd.S_mono (Kd.S_told (Kd.S_told (Kd.S_old (by (with_reducible repeat first|apply sA_|apply sN_|apply sD_); exact HO206.out) hb) (by first | exact Kd.S_base ho0 | exact Kd.R_base ho0)) (by first | exact Kd.R_base ho1 | exact Kd.S_base ho1 | exact Kd.R_base ho1)) (fun _ h_ => h_.1))
      have n1_ := Aside0.mk (Kd.R_elder' (by (with_reducible repeat first|apply rA_|apply rN_|apply rD_); exact HO209.out) (by first | exact Kd.R_base ho1 | exact Kd.S_base ho1 | exact Kd.R_base ho1) hb)
      have n2_ := Aside0.mk (Kd.R_elder' (by (with_reducible repeat first|apply rA_|apply rN_|apply rD_); exact HO212.out) (by first | exact Kd.R_base ho2 | exact Kd.S_base ho2 | exact Kd.R_base ho2) hb)
      have n3_ := Aside0.mk (Kd.S_lower (Kd.S_new' (Kd.S_new' ho0 (Kd.S_lt (by (with_reducible repeat first|apply sA_|apply sN_|apply sD_); exact HO206.out))) (Kd.R_lt (by (with_reducible repeat first|apply rA_|apply rN_|apply rD_); exact HO209.out))) (below_size (by repeat (first | (with_reducible first|exact HB.out|apply vA_|apply vN_|apply vD_ | refine vS_ ?_ GE200.out | refine vS_ ?_ GE201.out) | exact HB.out))))
      have n4_ := Aside0.mk (Kd.R_lower (Kd.R_new' ho1 (Kd.R_lt (by (with_reducible repeat first|apply rA_|apply rN_|apply rD_); exact HO209.out))) (below_size (by repeat (first | (with_reducible first|exact HB.out|apply vA_|apply vN_|apply vD_ | refine vS_ ?_ GE200.out | refine vS_ ?_ GE201.out) | exact HB.out))))
      have n5_ := Aside0.mk (Kd.R_lower (Kd.R_new' ho2 (Kd.R_lt (by (with_reducible repeat first|apply rA_|apply rN_|apply rD_); exact HO212.out))) (below_size (by repeat (first | (with_reducible first|exact HB.out|apply vA_|apply vN_|apply vD_ | refine vS_ ?_ GE200.out | refine vS_ ?_ GE201.out) | exact HB.out))))
      have n6_ := Aside0.mk (blk_below (by (with_reducible repeat first|apply qN_|apply qD_|apply qA_); exact BK200.out) hb)
      have n7_ := Aside0.mk (blk_below (by (with_reducible repeat first|apply qN_|apply qD_|apply qA_); exact BK201.out) hb)
      have n8_ := Aside0.mk (below_step (by repeat (first | (with_reducible first|exact HB.out|apply vA_|apply vN_|apply vD_ | refine vS_ ?_ GE200.out | refine vS_ ?_ GE201.out) | exact HB.out)) hb)
      clear HO206
      clear HO209
      clear HO212
      clear BK200
      clear BK201
      clear HB
      have HO206 := n0_
      have HO209 := n1_
      have HO212 := n2_
      have HO216 := n3_
      have HO219 := n4_
      have HO222 := n5_
      have BK200 := n6_
      have BK201 := n7_
      have HB := n8_
      clear n0_ n1_ n2_ n3_ n4_ n5_ n6_ n7_ n8_
      (try clear hb)
      (try clear hb2)
      (try clear hk)
      (try clear hi)
      (try clear ho0)
      (try clear ho1)
      (try clear ho2)
      obtain ⟨Ao36, co36, eo36⟩ := Kd.S_slice HO206.out
      (first | subst eo36 | (injection eo36 with f1_ f2_ f3_; have f4_ := f1_.symm; have f5_ := f3_.symm; clear f1_ f2_ f3_; subst f4_; subst f5_))
      obtain ⟨Ao37, co37, eo37⟩ := Kd.R_slice HO209.out
      (first | subst eo37 | (injection eo37 with f1_ f2_ f3_; have f4_ := f1_.symm; have f5_ := f3_.symm; clear f1_ f2_ f3_; subst f4_; subst f5_))
      obtain ⟨Ao38, co38, eo38⟩ := Kd.R_slice HO212.out
      (first | subst eo38 | (injection eo38 with f1_ f2_ f3_; have f4_ := f1_.symm; have f5_ := f3_.symm; clear f1_ f2_ f3_; subst f4_; subst f5_))
      obtain ⟨Ao39, co39, eo39⟩ := Kd.S_slice HO216.out
      (first | subst eo39 | (injection eo39 with f1_ f2_ f3_; have f4_ := f1_.symm; have f5_ := f3_.symm; clear f1_ f2_ f3_; subst f4_; subst f5_))
      obtain ⟨Ao40, co40, eo40⟩ := Kd.R_slice HO219.out
      (first | subst eo40 | (injection eo40 with f1_ f2_ f3_; have f4_ := f1_.symm; have f5_ := f3_.symm; clear f1_ f2_ f3_; subst f4_; subst f5_))
      obtain ⟨Ao41, co41, eo41⟩ := Kd.R_slice HO222.out
      (first | subst eo41 | (injection eo41 with f1_ f2_ f3_; have f4_ := f1_.symm; have f5_ := f3_.symm; clear f1_ f2_ f3_; subst f4_; subst f5_))
      refine hK.out _ _ ⟨(blk_cell BK200.out 0).trans rfl, (blk_cell BK200.out 1).trans rfl, (blk_cell BK200.out 2).trans rfl, (blk_cell BK200.out 3).trans rfl, (blk_cell BK201.out 0).trans rfl, (blk_cell BK201.out 1).trans rfl, (blk_cell BK201.out 2).trans rfl, (blk_cell BK201.out 3).trans rfl⟩ (fun hHeld => ?_)
      clear hK K
      refine norm_ (a' := ?_) ?_ ?_
      rotate_left
      · show Act.put _ (some 23) _ = _
        simp only [Act.put, List.setIfInBounds_toArray, List.set_cons_zero, List.set_cons_succ, i64_w, i32_w]
        rfl
      refine one_ (i := 4) (N := some 24) #[true, true, true, true, true, false] rfl rfl (by kernel_rfl) (by decide) (fun K hK => ?_)
      first | refine goes_ Try.func55 (by kernel_rfl) rfl #[.agg #[.slice Ao36 t204.length co36, .slice Ao37 t207.length co37, .slice Ao38 t210.length co38, .int .i64 t213], .agg #[.slice Ao39 t214.length co39, .slice Ao40 t217.length co40, .slice Ao41 t220.length co41, .int .i64 t223]] (by rfl) rfl rfl (by (try simp only [List.map_toArray, List.map_cons, List.map_nil]); first | done | rfl | (simp only [List.length_drop, List.length_take]; rfl)) ?_ | refine goesV_ Try.func55 (by kernel_rfl) rfl #[.agg #[.slice Ao36 t204.length co36, .slice Ao37 t207.length co37, .slice Ao38 t210.length co38, .int .i64 t213], .agg #[.slice Ao39 t214.length co39, .slice Ao40 t217.length co40, .slice Ao41 t220.length co41, .int .i64 t223]] (by rfl) rfl rfl (by rfl) (by first | rfl | (simp only [List.map_toArray, List.map_cons, List.map_nil]; rfl)) ?_
      with_reducible refine (spec_SameState.calls k _ _ t204 _ _ t207 _ _ t210 t213 _ _ t214 _ _ t217 _ _ t220 t223 t224 _ ?side1 ?side2 ?side3 ?side4 ?side5 ?side6 ?side7 ?side8 ?side9 ?side10 ?side11 ?side12 A21.out).mono ?_
      (case side1 => repeat (first | exact (Kd.S_reads' HO206.out).2.2 | with_reducible apply cA_|with_reducible apply cN_|with_reducible apply cD_))
      (case side2 => exact (Kd.S_reads' HO206.out).2.1)
      (case side3 => repeat (first | exact (Kd.R_reads' HO209.out).2.2 | with_reducible apply cA_|with_reducible apply cN_|with_reducible apply cD_))
      (case side4 => exact (Kd.R_reads' HO209.out).2.1)
      (case side5 => repeat (first | exact (Kd.R_reads' HO212.out).2.2 | with_reducible apply cA_|with_reducible apply cN_|with_reducible apply cD_))
      (case side6 => exact (Kd.R_reads' HO212.out).2.1)
      (case side7 => repeat (first | exact (Kd.S_reads' HO216.out).2.2 | with_reducible apply cA_|with_reducible apply cN_|with_reducible apply cD_))
      (case side8 => exact (Kd.S_reads' HO216.out).2.1)
      (case side9 => repeat (first | exact (Kd.R_reads' HO219.out).2.2 | with_reducible apply cA_|with_reducible apply cN_|with_reducible apply cD_))
      (case side10 => exact (Kd.R_reads' HO219.out).2.1)
      (case side11 => repeat (first | exact (Kd.R_reads' HO222.out).2.2 | with_reducible apply cA_|with_reducible apply cN_|with_reducible apply cD_))
      (case side12 => exact (Kd.R_reads' HO222.out).2.1)
      rintro e w42 ⟨rfl, hb⟩
      refine ⟨_, rfl, ?_⟩
      have n0_ := Aside0.mk (Kd.S_below (by (with_reducible repeat first|apply sA_|apply sN_|apply sD_); exact HO206.out) hb)
      have n1_ := Aside0.mk (Kd.R_below (by (with_reducible repeat first|apply rA_|apply rN_|apply rD_); exact HO209.out) hb)
      have n2_ := Aside0.mk (Kd.R_below (by (with_reducible repeat first|apply rA_|apply rN_|apply rD_); exact HO212.out) hb)
      have n3_ := Aside0.mk (Kd.S_below (by (with_reducible repeat first|apply sA_|apply sN_|apply sD_); exact HO216.out) hb)
      have n4_ := Aside0.mk (Kd.R_below (by (with_reducible repeat first|apply rA_|apply rN_|apply rD_); exact HO219.out) hb)
      have n5_ := Aside0.mk (Kd.R_below (by (with_reducible repeat first|apply rA_|apply rN_|apply rD_); exact HO222.out) hb)
      have n6_ := Aside0.mk (blk_below (by (with_reducible repeat first|apply qN_|apply qD_|apply qA_); exact BK200.out) hb)
      have n7_ := Aside0.mk (blk_below (by (with_reducible repeat first|apply qN_|apply qD_|apply qA_); exact BK201.out) hb)
      have n8_ := Aside0.mk (below_step (by repeat (first | (with_reducible first|exact HB.out|apply vA_|apply vN_|apply vD_ | refine vS_ ?_ GE200.out | refine vS_ ?_ GE201.out) | exact HB.out)) hb)
      clear HO206
      clear HO209
      clear HO212
      clear HO216
      clear HO219
      clear HO222
      clear BK200
      clear BK201
      clear HB
      have HO206 := n0_
      have HO209 := n1_
      have HO212 := n2_
      have HO216 := n3_
      have HO219 := n4_
      have HO222 := n5_
      have BK200 := n6_
      have BK201 := n7_
      have HB := n8_
      clear n0_ n1_ n2_ n3_ n4_ n5_ n6_ n7_ n8_
      (try clear hb)
      (try clear hb2)
      (try clear hk)
      (try clear hi)
      refine hK.out _ _ ⟨(blk_cell BK200.out 0).trans rfl, (blk_cell BK200.out 1).trans rfl, (blk_cell BK200.out 2).trans rfl, (blk_cell BK200.out 3).trans rfl, (blk_cell BK201.out 0).trans rfl, (blk_cell BK201.out 1).trans rfl, (blk_cell BK201.out 2).trans rfl, (blk_cell BK201.out 3).trans rfl⟩ (fun hHeld => ?_)
      clear hK K
      refine norm_ (a' := ?_) ?_ ?_
      rotate_left
      · show Act.put _ (some 24) _ = _
        simp only [Act.put, List.setIfInBounds_toArray, List.set_cons_zero, List.set_cons_succ, i64_w, i32_w]
        rfl
      refine pure_ (i := 5) (N := some 6) (v := ?_) (a' := ?_) #[true, true, true, true, true, true] rfl rfl (by kernel_rfl) (fun _ _ _ h => h) (Or.inl ⟨by rfl, ?_⟩) ?_ ?_
      rotate_left
      · intro w'
        go_simp
        with_reducible rfl
      rotate_left
      · simp only [Act.put, List.setIfInBounds_toArray, List.set_cons_zero, List.set_cons_succ, i64_w, i32_w]
        rfl
      refine done_ (by kernel_rfl) ?_
      have hcz43_0 : w42.cell? ⟨gb200, 0, none⟩ = some (.slice A0_0 l0_0.length c0_0) := (blk_cell BK200.out 0).trans rfl
      have hcz43_1 : w42.cell? ⟨gb200, 1, none⟩ = some (.slice A0_1 l0_1.length c0_1) := (blk_cell BK200.out 1).trans rfl
      have hcz43_2 : w42.cell? ⟨gb200, 2, none⟩ = some (.slice A0_2 l0_2.length c0_2) := (blk_cell BK200.out 2).trans rfl
      have hcz43_3 : w42.cell? ⟨gb200, 3, none⟩ = some (.int .i64 a0_3) := (blk_cell BK200.out 3).trans rfl
      have hfz43_0 := blk_frozen BK200.out 0
      have hfz43_1 := blk_frozen BK200.out 1
      have hfz43_2 := blk_frozen BK200.out 2
      have hfz43_3 := blk_frozen BK200.out 3
      go_upto_if 34 with (first | ((with_reducible refine gate_callee (f := 56) rfl ?_); refine goesL_ (some 26) rfl rfl Try.func56 (by kernel_rfl) rfl #[.agg #[.slice A0_0 l0_0.length c0_0, .slice A0_1 l0_1.length c0_1, .slice A0_2 l0_2.length c0_2, .int .i64 a0_3]] rfl (by (try simp only [List.map_toArray, List.map_cons, List.map_nil]); first | done | rfl | (simp only [List.length_drop, List.length_take]; rfl)) ?_; (with_reducible refine (laws_toState.calls k _ _ l0_0 _ _ l0_1 _ _ l0_2 a0_3 t225 t228 t231 t234 _ ?side1 ?side2 ?side3 ?side4 ?side5 ?side6 A22.out).mono ?_); (case side1 => repeat (first | exact (Kd.C_below HR0_0.out HB.out) | with_reducible apply cA_|with_reducible apply cN_|with_reducible apply cD_)); (case side2 => exact HC0_0.out); (case side3 => repeat (first | exact (Kd.C_below HR0_1.out HB.out) | with_reducible apply cA_|with_reducible apply cN_|with_reducible apply cD_)); (case side4 => exact HC0_1.out); (case side5 => repeat (first | exact (Kd.C_below HR0_2.out HB.out) | with_reducible apply cA_|with_reducible apply cN_|with_reducible apply cD_)); (case side6 => exact HC0_2.out); rintro e w44 ⟨v226, v229, v232, rfl, ho0, ho1, ho2, hb⟩; refine ⟨_, rfl, ?_⟩; have n0_ := Aside0.mk (Kd.S_mono (Kd.S_told (Kd.S_told (Kd.S_old (by (with_reducible repeat first|apply sA_|apply sN_|apply sD_); exact HO206.out) hb) (by first | exact Kd.S_base ho0 | exact Kd.R_base ho0)) (by first | exact Kd.R_base ho1 | exact Kd.S_base ho1 | exact Kd.R_base ho1)) (fun _ h_ => h_.1)); have n1_ := Aside0.mk (Kd.R_elder' (by (with_reducible repeat first|apply rA_|apply rN_|apply rD_); exact HO209.out) (by first | exact Kd.R_base ho1 | exact Kd.S_base ho1 | exact Kd.R_base ho1) hb); have n2_ := Aside0.mk (Kd.R_elder' (by (with_reducible repeat first|apply rA_|apply rN_|apply rD_); exact HO212.out) (by first | exact Kd.R_base ho2 | exact Kd.S_base ho2 | exact Kd.R_base ho2) hb); have n3_ := Aside0.mk (Kd.S_mono (Kd.S_told (Kd.S_told (Kd.S_old (by (with_reducible repeat first|apply sA_|apply sN_|apply sD_); exact HO216.out) hb) (by first | exact Kd.S_base ho0 | exact Kd.R_base ho0)) (by first | exact Kd.R_base ho1 | exact Kd.S_base ho1 | exact Kd.R_base ho1)) (fun _ h_ => h_.1)); have n4_ := Aside0.mk (Kd.R_elder' (by (with_reducible repeat first|apply rA_|apply rN_|apply rD_); exact HO219.out) (by first | exact Kd.R_base ho1 | exact Kd.S_base ho1 | exact Kd.R_base ho1) hb); have n5_ := Aside0.mk (Kd.R_elder' (by (with_reducible repeat first|apply rA_|apply rN_|apply rD_); exact HO222.out) (by first | exact Kd.R_base ho2 | exact Kd.S_base ho2 | exact Kd.R_base ho2) hb); have n6_ := Aside0.mk (Kd.S_lower (Kd.S_new' (Kd.S_new' (Kd.S_new' (Kd.S_new' ho0 (Kd.S_lt (by (with_reducible repeat first|apply sA_|apply sN_|apply sD_); exact HO206.out))) (Kd.R_lt (by (with_reducible repeat first|apply rA_|apply rN_|apply rD_); exact HO209.out))) (Kd.S_lt (by (with_reducible repeat first|apply sA_|apply sN_|apply sD_); exact HO216.out))) (Kd.R_lt (by (with_reducible repeat first|apply rA_|apply rN_|apply rD_); exact HO219.out))) (below_size (by repeat (first | (with_reducible first|exact HB.out|apply vA_|apply vN_|apply vD_ | refine vS_ ?_ GE200.out | refine vS_ ?_ GE201.out) | exact HB.out)))); have n7_ := Aside0.mk (Kd.R_lower (Kd.R_new' (Kd.R_new' ho1 (Kd.R_lt (by (with_reducible repeat first|apply rA_|apply rN_|apply rD_); exact HO209.out))) (Kd.R_lt (by (with_reducible repeat first|apply rA_|apply rN_|apply rD_); exact HO219.out))) (below_size (by repeat (first | (with_reducible first|exact HB.out|apply vA_|apply vN_|apply vD_ | refine vS_ ?_ GE200.out | refine vS_ ?_ GE201.out) | exact HB.out)))); have n8_ := Aside0.mk (Kd.R_lower (Kd.R_new' (Kd.R_new' ho2 (Kd.R_lt (by (with_reducible repeat first|apply rA_|apply rN_|apply rD_); exact HO212.out))) (Kd.R_lt (by (with_reducible repeat first|apply rA_|apply rN_|apply rD_); exact HO222.out))) (below_size (by repeat (first | (with_reducible first|exact HB.out|apply vA_|apply vN_|apply vD_ | refine vS_ ?_ GE200.out | refine vS_ ?_ GE201.out) | exact HB.out)))); have n9_ := Aside0.mk (blk_below (by (with_reducible repeat first|apply qN_|apply qD_|apply qA_); exact BK200.out) hb); have n10_ := Aside0.mk (blk_below (by (with_reducible repeat first|apply qN_|apply qD_|apply qA_); exact BK201.out) hb); have n11_ := Aside0.mk (below_step (by repeat (first | (with_reducible first|exact HB.out|apply vA_|apply vN_|apply vD_ | refine vS_ ?_ GE200.out | refine vS_ ?_ GE201.out) | exact HB.out)) hb); clear HO206; clear HO209; clear HO212; clear HO216; clear HO219; clear HO222; clear BK200; clear BK201; clear HB; have HO206 := n0_; have HO209 := n1_; have HO212 := n2_; have HO216 := n3_; have HO219 := n4_; have HO222 := n5_; have HO227 := n6_; have HO230 := n7_; have HO233 := n8_; have BK200 := n9_; have BK201 := n10_; have HB := n11_; clear n0_ n1_ n2_ n3_ n4_ n5_ n6_ n7_ n8_ n9_ n10_ n11_; (try clear hb); (try clear hb2); (try clear hk); (try clear hi); (try clear ho0); (try clear ho1); (try clear ho2)) | ((with_reducible refine gate_dst (N := 7) rfl ?_); refine box_event ?hg (N := 7) ?hd (cs := #[.slice none 0 0, .slice none 0 0, .slice none 0 0, .int .i64 0]) (t := 75) ?hr ?_; (case hd => rfl); (case hg => rfl); (case hr => first | (go_simp; done) | (go_simp; rfl)); intro gb235 hg w45 hbox hb; have n0_ := Aside0.mk (Kd.S_below (by (with_reducible repeat first|apply sA_|apply sN_|apply sD_); exact HO206.out) hb); have n1_ := Aside0.mk (Kd.R_below (by (with_reducible repeat first|apply rA_|apply rN_|apply rD_); exact HO209.out) hb); have n2_ := Aside0.mk (Kd.R_below (by (with_reducible repeat first|apply rA_|apply rN_|apply rD_); exact HO212.out) hb); have n3_ := Aside0.mk (Kd.S_below (by (with_reducible repeat first|apply sA_|apply sN_|apply sD_); exact HO216.out) hb); have n4_ := Aside0.mk (Kd.R_below (by (with_reducible repeat first|apply rA_|apply rN_|apply rD_); exact HO219.out) hb); have n5_ := Aside0.mk (Kd.R_below (by (with_reducible repeat first|apply rA_|apply rN_|apply rD_); exact HO222.out) hb); have n6_ := Aside0.mk (Kd.S_below (by (with_reducible repeat first|apply sA_|apply sN_|apply sD_); exact HO227.out) hb); have n7_ := Aside0.mk (Kd.R_below (by (with_reducible repeat first|apply rA_|apply rN_|apply rD_); exact HO230.out) hb); have n8_ := Aside0.mk (Kd.R_below (by (with_reducible repeat first|apply rA_|apply rN_|apply rD_); exact HO233.out) hb); have n9_ := Aside0.mk (blk_below (by (with_reducible repeat first|apply qN_|apply qD_|apply qA_); exact BK200.out) hb); have n10_ := Aside0.mk (blk_below (by (with_reducible repeat first|apply qN_|apply qD_|apply qA_); exact BK201.out) hb); have n11_ := Aside0.mk (below_step (by repeat (first | (with_reducible first|exact HB.out|apply vA_|apply vN_|apply vD_ | refine vS_ ?_ GE200.out | refine vS_ ?_ GE201.out) | exact HB.out)) hb); have n12_ := Aside0.mk (hbox); have n13_ := Aside0.mk ((by rw [hg]; exact (below_size (by repeat (first | (with_reducible first|exact HB.out|apply vA_|apply vN_|apply vD_ | refine vS_ ?_ GE200.out | refine vS_ ?_ GE201.out) | exact HB.out))) : w.heap.size ≤ gb235)); have n14_ := Aside0.mk ((by rw [hg]; exact (below_size (by repeat (first | (with_reducible first|exact HB.out|apply vA_|apply vN_|apply vD_ | refine vS_ ?_ GE200.out | refine vS_ ?_ GE201.out) | exact HB.out))) : w.heap.size ≤ gb235)); have n15_ := Aside0.mk ((by rw [hg]; exact Nat.ne_of_lt (blk_lt (g := gb200) (o := .cells #[.slice A0_0 l0_0.length c0_0, .slice A0_1 l0_1.length c0_1, .slice A0_2 l0_2.length c0_2, .int .i64 a0_3] 70 (0, 0)) (by (with_reducible repeat first|apply qN_|apply qD_|apply qA_); exact BK200.out)) : gb200 ≠ gb235)); have n16_ := Aside0.mk ((by rw [hg]; exact Nat.ne_of_gt (blk_lt (g := gb200) (o := .cells #[.slice A0_0 l0_0.length c0_0, .slice A0_1 l0_1.length c0_1, .slice A0_2 l0_2.length c0_2, .int .i64 a0_3] 70 (0, 0)) (by (with_reducible repeat first|apply qN_|apply qD_|apply qA_); exact BK200.out)) : gb235 ≠ gb200)); have n17_ := Aside0.mk ((by rw [hg]; exact Nat.ne_of_lt (blk_lt (g := gb201) (o := .cells #[.slice A1_0 l1_0.length c1_0, .slice A1_1 l1_1.length c1_1, .slice A1_2 l1_2.length c1_2, .int .i64 a1_3] 70 (0, 0)) (by (with_reducible repeat first|apply qN_|apply qD_|apply qA_); exact BK201.out)) : gb201 ≠ gb235)); have n18_ := Aside0.mk ((by rw [hg]; exact Nat.ne_of_gt (blk_lt (g := gb201) (o := .cells #[.slice A1_0 l1_0.length c1_0, .slice A1_1 l1_1.length c1_1, .slice A1_2 l1_2.length c1_2, .int .i64 a1_3] 70 (0, 0)) (by (with_reducible repeat first|apply qN_|apply qD_|apply qA_); exact BK201.out)) : gb235 ≠ gb201)); clear HO206; clear HO209; clear HO212; clear HO216; clear HO219; clear HO222; clear HO227; clear HO230; clear HO233; clear BK200; clear BK201; clear HB; have HO206 := n0_; have HO209 := n1_; have HO212 := n2_; have HO216 := n3_; have HO219 := n4_; have HO222 := n5_; have HO227 := n6_; have HO230 := n7_; have HO233 := n8_; have BK200 := n9_; have BK201 := n10_; have HB := n11_; have BK235 := n12_; have GW235 := n13_; have GE235 := n14_; have NB200_235 := n15_; have NB235_200 := n16_; have NB201_235 := n17_; have NB235_201 := n18_; clear n0_ n1_ n2_ n3_ n4_ n5_ n6_ n7_ n8_ n9_ n10_ n11_ n12_ n13_ n14_ n15_ n16_ n17_ n18_; clear hb hbox hg; obtain ⟨Ao46, co46, eo46⟩ := Kd.S_slice HO227.out; subst eo46; have hnb47 := NB235_200.out; have hnc47 := NB200_235.out; have hnb48 := NB235_201.out; have hnc48 := NB201_235.out; have hcz49_0 : w45.cell? ⟨gb235, 0, none⟩ = some (.slice none 0 0) := (blk_cell BK235.out 0).trans rfl; have hcz49_1 : w45.cell? ⟨gb235, 1, none⟩ = some (.slice none 0 0) := (blk_cell BK235.out 1).trans rfl; have hcz49_2 : w45.cell? ⟨gb235, 2, none⟩ = some (.slice none 0 0) := (blk_cell BK235.out 2).trans rfl; have hcz49_3 : w45.cell? ⟨gb235, 3, none⟩ = some (.int .i64 0) := (blk_cell BK235.out 3).trans rfl; have hfz49_0 := blk_frozen BK235.out 0; have hfz49_1 := blk_frozen BK235.out 1; have hfz49_2 := blk_frozen BK235.out 2; have hfz49_3 := blk_frozen BK235.out 3; obtain ⟨Ao50, co50, eo50⟩ := Kd.R_slice HO230.out; subst eo50; obtain ⟨Ao51, co51, eo51⟩ := Kd.R_slice HO233.out; subst eo51; have hcz52_0 : w45.cell? ⟨gb201, 0, none⟩ = some (.slice A1_0 l1_0.length c1_0) := (blk_cell BK201.out 0).trans rfl; have hcz52_1 : w45.cell? ⟨gb201, 1, none⟩ = some (.slice A1_1 l1_1.length c1_1) := (blk_cell BK201.out 1).trans rfl; have hcz52_2 : w45.cell? ⟨gb201, 2, none⟩ = some (.slice A1_2 l1_2.length c1_2) := (blk_cell BK201.out 2).trans rfl; have hcz52_3 : w45.cell? ⟨gb201, 3, none⟩ = some (.int .i64 a1_3) := (blk_cell BK201.out 3).trans rfl; have hfz52_0 := blk_frozen BK201.out 0; have hfz52_1 := blk_frozen BK201.out 1; have hfz52_2 := blk_frozen BK201.out 2; have hfz52_3 := blk_frozen BK201.out 3) | ((with_reducible refine gate_callee (f := 56) rfl ?_); refine goesL_ (some 28) rfl rfl Try.func56 (by kernel_rfl) rfl #[.agg #[.slice A1_0 l1_0.length c1_0, .slice A1_1 l1_1.length c1_1, .slice A1_2 l1_2.length c1_2, .int .i64 a1_3]] rfl (by (try simp only [List.map_toArray, List.map_cons, List.map_nil]); first | done | rfl | (simp only [List.length_drop, List.length_take]; rfl)) ?_; (with_reducible refine (laws_toState.calls k _ _ l1_0 _ _ l1_1 _ _ l1_2 a1_3 t236 t239 t242 t245 _ ?side1 ?side2 ?side3 ?side4 ?side5 ?side6 A23.out).mono ?_); (case side1 => exact Kd.C_below HR1_0.out (by repeat (first | (with_reducible first|exact HB.out|apply vA_|apply vN_|apply vD_ | refine vS_ ?_ GE200.out | refine vS_ ?_ GE201.out | refine vS_ ?_ GE235.out) | exact HB.out))); (case side2 => exact HC1_0.out); (case side3 => exact Kd.C_below HR1_1.out (by repeat (first | (with_reducible first|exact HB.out|apply vA_|apply vN_|apply vD_ | refine vS_ ?_ GE200.out | refine vS_ ?_ GE201.out | refine vS_ ?_ GE235.out) | exact HB.out))); (case side4 => exact HC1_1.out); (case side5 => exact Kd.C_below HR1_2.out (by repeat (first | (with_reducible first|exact HB.out|apply vA_|apply vN_|apply vD_ | refine vS_ ?_ GE200.out | refine vS_ ?_ GE201.out | refine vS_ ?_ GE235.out) | exact HB.out))); (case side6 => exact HC1_2.out); rintro e w53 ⟨v237, v240, v243, rfl, ho0, ho1, ho2, hb⟩; refine ⟨_, rfl, ?_⟩; have n0_ := Aside0.mk (Kd.S_mono (Kd.S_told (Kd.S_told (Kd.S_old (by (with_reducible repeat first|apply sA_|apply sN_|apply sD_); exact (s4_ HO206.out BK235.out (by decide))) hb) (by first | exact Kd.S_base ho0 | exact Kd.R_base ho0)) (by first | exact Kd.R_base ho1 | exact Kd.S_base ho1 | exact Kd.R_base ho1)) (fun _ h_ => h_.1)); have n1_ := Aside0.mk (Kd.R_elder' (by (with_reducible repeat first|apply rA_|apply rN_|apply rD_); exact (r4_ HO209.out BK235.out (by decide))) (by first | exact Kd.R_base ho1 | exact Kd.S_base ho1 | exact Kd.R_base ho1) hb); have n2_ := Aside0.mk (Kd.R_elder' (by (with_reducible repeat first|apply rA_|apply rN_|apply rD_); exact (r4_ HO212.out BK235.out (by decide))) (by first | exact Kd.R_base ho2 | exact Kd.S_base ho2 | exact Kd.R_base ho2) hb); have n3_ := Aside0.mk (Kd.S_mono (Kd.S_told (Kd.S_told (Kd.S_old (by (with_reducible repeat first|apply sA_|apply sN_|apply sD_); exact (s4_ HO216.out BK235.out (by decide))) hb) (by first | exact Kd.S_base ho0 | exact Kd.R_base ho0)) (by first | exact Kd.R_base ho1 | exact Kd.S_base ho1 | exact Kd.R_base ho1)) (fun _ h_ => h_.1)); have n4_ := Aside0.mk (Kd.R_elder' (by (with_reducible repeat first|apply rA_|apply rN_|apply rD_); exact (r4_ HO219.out BK235.out (by decide))) (by first | exact Kd.R_base ho1 | exact Kd.S_base ho1 | exact Kd.R_base ho1) hb); have n5_ := Aside0.mk (Kd.R_elder' (by (with_reducible repeat first|apply rA_|apply rN_|apply rD_); exact (r4_ HO222.out BK235.out (by decide))) (by first | exact Kd.R_base ho2 | exact Kd.S_base ho2 | exact Kd.R_base ho2) hb); have n6_ := Aside0.mk (Kd.S_mono (Kd.S_told (Kd.S_told (Kd.S_old (by (with_reducible repeat first|apply sA_|apply sN_|apply sD_); exact (s4_ HO227.out BK235.out (by decide))) hb) (by first | exact Kd.S_base ho0 | exact Kd.R_base ho0)) (by first | exact Kd.R_base ho1 | exact Kd.S_base ho1 | exact Kd.R_base ho1)) (fun _ h_ => h_.1)); have n7_ := Aside0.mk (Kd.R_elder' (by (with_reducible repeat first|apply rA_|apply rN_|apply rD_); exact (r4_ HO230.out BK235.out (by decide))) (by first | exact Kd.R_base ho1 | exact Kd.S_base ho1 | exact Kd.R_base ho1) hb); have n8_ := Aside0.mk (Kd.R_elder' (by (with_reducible repeat first|apply rA_|apply rN_|apply rD_); exact (r4_ HO233.out BK235.out (by decide))) (by first | exact Kd.R_base ho2 | exact Kd.S_base ho2 | exact Kd.R_base ho2) hb); have n9_ := Aside0.mk (Kd.S_lower (Kd.S_new' (Kd.S_new' (Kd.S_new' (Kd.S_new' (Kd.S_new' (Kd.S_new' ho0 (Kd.S_lt (by (with_reducible repeat first|apply sA_|apply sN_|apply sD_); exact (s4_ HO206.out BK235.out (by decide))))) (Kd.R_lt (by (with_reducible repeat first|apply rA_|apply rN_|apply rD_); exact (r4_ HO209.out BK235.out (by decide))))) (Kd.S_lt (by (with_reducible repeat first|apply sA_|apply sN_|apply sD_); exact (s4_ HO216.out BK235.out (by decide))))) (Kd.R_lt (by (with_reducible repeat first|apply rA_|apply rN_|apply rD_); exact (r4_ HO219.out BK235.out (by decide))))) (Kd.S_lt (by (with_reducible repeat first|apply sA_|apply sN_|apply sD_); exact (s4_ HO227.out BK235.out (by decide))))) (Kd.R_lt (by (with_reducible repeat first|apply rA_|apply rN_|apply rD_); exact (r4_ HO230.out BK235.out (by decide))))) (below_size (by repeat (first | (with_reducible first|exact HB.out|apply vA_|apply vN_|apply vD_ | refine vS_ ?_ GE200.out | refine vS_ ?_ GE201.out | refine vS_ ?_ GE235.out) | exact HB.out)))); have n10_ := Aside0.mk (Kd.R_lower (Kd.R_new' (Kd.R_new' (Kd.R_new' ho1 (Kd.R_lt (by (with_reducible repeat first|apply rA_|apply rN_|apply rD_); exact (r4_ HO209.out BK235.out (by decide))))) (Kd.R_lt (by (with_reducible repeat first|apply rA_|apply rN_|apply rD_); exact (r4_ HO219.out BK235.out (by decide))))) (Kd.R_lt (by (with_reducible repeat first|apply rA_|apply rN_|apply rD_); exact (r4_ HO230.out BK235.out (by decide))))) (below_size (by repeat (first | (with_reducible first|exact HB.out|apply vA_|apply vN_|apply vD_ | refine vS_ ?_ GE200.out | refine vS_ ?_ GE201.out | refine vS_ ?_ GE235.out) | exact HB.out)))); have n11_ := Aside0.mk (Kd.R_lower (Kd.R_new' (Kd.R_new' (Kd.R_new' ho2 (Kd.R_lt (by (with_reducible repeat first|apply rA_|apply rN_|apply rD_); exact (r4_ HO212.out BK235.out (by decide))))) (Kd.R_lt (by (with_reducible repeat first|apply rA_|apply rN_|apply rD_); exact (r4_ HO222.out BK235.out (by decide))))) (Kd.R_lt (by (with_reducible repeat first|apply rA_|apply rN_|apply rD_); exact (r4_ HO233.out BK235.out (by decide))))) (below_size (by repeat (first | (with_reducible first|exact HB.out|apply vA_|apply vN_|apply vD_ | refine vS_ ?_ GE200.out | refine vS_ ?_ GE201.out | refine vS_ ?_ GE235.out) | exact HB.out)))); have n12_ := Aside0.mk (blk_below (g := gb200) (o := .cells #[.slice A0_0 l0_0.length c0_0, .slice A0_1 l0_1.length c0_1, .slice A0_2 l0_2.length c0_2, .int .i64 a0_3] 70 (0, 0)) (by (with_reducible repeat first|apply qN_|apply qD_|apply qA_); refine blk_far ?_ NB200_235.out _; (with_reducible repeat first|apply qN_|apply qD_|apply qA_); refine blk_far ?_ NB200_235.out _; (with_reducible repeat first|apply qN_|apply qD_|apply qA_); refine blk_far ?_ NB200_235.out _; (with_reducible repeat first|apply qN_|apply qD_|apply qA_); refine blk_far ?_ NB200_235.out _; (with_reducible repeat first|apply qN_|apply qD_|apply qA_); exact BK200.out) hb); have n13_ := Aside0.mk (blk_below (g := gb201) (o := .cells #[.slice A1_0 l1_0.length c1_0, .slice A1_1 l1_1.length c1_1, .slice A1_2 l1_2.length c1_2, .int .i64 a1_3] 70 (0, 0)) (by (with_reducible repeat first|apply qN_|apply qD_|apply qA_); refine blk_far ?_ NB201_235.out _; (with_reducible repeat first|apply qN_|apply qD_|apply qA_); refine blk_far ?_ NB201_235.out _; (with_reducible repeat first|apply qN_|apply qD_|apply qA_); refine blk_far ?_ NB201_235.out _; (with_reducible repeat first|apply qN_|apply qD_|apply qA_); refine blk_far ?_ NB201_235.out _; (with_reducible repeat first|apply qN_|apply qD_|apply qA_); exact BK201.out) hb); have n14_ := Aside0.mk (blk_below (g := gb235) (o := .cells #[.slice Ao46 t225.length co46, .slice Ao50 t228.length co50, .slice Ao51 t231.length co51, .int .i64 t234] 75 (0, 0)) (by (with_reducible repeat first|apply qN_|apply qD_|apply qA_); refine blk_put (cs := #[.slice Ao46 t225.length co46, .slice Ao50 t228.length co50, .slice Ao51 t231.length co51, .int .i64 0]) ?_ 3 _ rfl; (with_reducible repeat first|apply qN_|apply qD_|apply qA_); refine blk_put (cs := #[.slice Ao46 t225.length co46, .slice Ao50 t228.length co50, .slice none 0 0, .int .i64 0]) ?_ 2 _ rfl; (with_reducible repeat first|apply qN_|apply qD_|apply qA_); refine blk_put (cs := #[.slice Ao46 t225.length co46, .slice none 0 0, .slice none 0 0, .int .i64 0]) ?_ 1 _ rfl; (with_reducible repeat first|apply qN_|apply qD_|apply qA_); refine blk_put (cs := #[.slice none 0 0, .slice none 0 0, .slice none 0 0, .int .i64 0]) ?_ 0 _ rfl; (with_reducible repeat first|apply qN_|apply qD_|apply qA_); exact BK235.out) hb); have n15_ := Aside0.mk (below_step (by repeat (first | (with_reducible first|exact HB.out|apply vA_|apply vN_|apply vD_ | refine vS_ ?_ GE200.out | refine vS_ ?_ GE201.out | refine vS_ ?_ GE235.out) | exact HB.out)) hb); clear HO206; clear HO209; clear HO212; clear HO216; clear HO219; clear HO222; clear HO227; clear HO230; clear HO233; clear BK200; clear BK201; clear BK235; clear HB; have HO206 := n0_; have HO209 := n1_; have HO212 := n2_; have HO216 := n3_; have HO219 := n4_; have HO222 := n5_; have HO227 := n6_; have HO230 := n7_; have HO233 := n8_; have HO238 := n9_; have HO241 := n10_; have HO244 := n11_; have BK200 := n12_; have BK201 := n13_; have BK235 := n14_; have HB := n15_; clear n0_ n1_ n2_ n3_ n4_ n5_ n6_ n7_ n8_ n9_ n10_ n11_ n12_ n13_ n14_ n15_; (try clear hb); (try clear hb2); (try clear hk); (try clear hi); (try clear ho0); (try clear ho1); (try clear ho2)) | ((with_reducible refine gate_dst (N := 8) rfl ?_); refine box_event ?hg (N := 8) ?hd (cs := #[.slice none 0 0, .slice none 0 0, .slice none 0 0, .int .i64 0]) (t := 75) ?hr ?_; (case hd => rfl); (case hg => rfl); (case hr => first | (go_simp; done) | (go_simp; rfl)); intro gb246 hg w54 hbox hb; have n0_ := Aside0.mk (Kd.S_below (by (with_reducible repeat first|apply sA_|apply sN_|apply sD_); exact HO206.out) hb); have n1_ := Aside0.mk (Kd.R_below (by (with_reducible repeat first|apply rA_|apply rN_|apply rD_); exact HO209.out) hb); have n2_ := Aside0.mk (Kd.R_below (by (with_reducible repeat first|apply rA_|apply rN_|apply rD_); exact HO212.out) hb); have n3_ := Aside0.mk (Kd.S_below (by (with_reducible repeat first|apply sA_|apply sN_|apply sD_); exact HO216.out) hb); have n4_ := Aside0.mk (Kd.R_below (by (with_reducible repeat first|apply rA_|apply rN_|apply rD_); exact HO219.out) hb); have n5_ := Aside0.mk (Kd.R_below (by (with_reducible repeat first|apply rA_|apply rN_|apply rD_); exact HO222.out) hb); have n6_ := Aside0.mk (Kd.S_below (by (with_reducible repeat first|apply sA_|apply sN_|apply sD_); exact HO227.out) hb); have n7_ := Aside0.mk (Kd.R_below (by (with_reducible repeat first|apply rA_|apply rN_|apply rD_); exact HO230.out) hb); have n8_ := Aside0.mk (Kd.R_below (by (with_reducible repeat first|apply rA_|apply rN_|apply rD_); exact HO233.out) hb); have n9_ := Aside0.mk (Kd.S_below (by (with_reducible repeat first|apply sA_|apply sN_|apply sD_); exact HO238.out) hb); have n10_ := Aside0.mk (Kd.R_below (by (with_reducible repeat first|apply rA_|apply rN_|apply rD_); exact HO241.out) hb); have n11_ := Aside0.mk (Kd.R_below (by (with_reducible repeat first|apply rA_|apply rN_|apply rD_); exact HO244.out) hb); have n12_ := Aside0.mk (blk_below (by (with_reducible repeat first|apply qN_|apply qD_|apply qA_); exact BK200.out) hb); have n13_ := Aside0.mk (blk_below (by (with_reducible repeat first|apply qN_|apply qD_|apply qA_); exact BK201.out) hb); have n14_ := Aside0.mk (blk_below (by (with_reducible repeat first|apply qN_|apply qD_|apply qA_); exact BK235.out) hb); have n15_ := Aside0.mk (below_step (by repeat (first | (with_reducible first|exact HB.out|apply vA_|apply vN_|apply vD_ | refine vS_ ?_ GE200.out | refine vS_ ?_ GE201.out | refine vS_ ?_ GE235.out) | exact HB.out)) hb); have n16_ := Aside0.mk (hbox); have n17_ := Aside0.mk ((by rw [hg]; exact (below_size (by repeat (first | (with_reducible first|exact HB.out|apply vA_|apply vN_|apply vD_ | refine vS_ ?_ GE200.out | refine vS_ ?_ GE201.out | refine vS_ ?_ GE235.out) | exact HB.out))) : w.heap.size ≤ gb246)); have n18_ := Aside0.mk ((by rw [hg]; exact (below_size (by repeat (first | (with_reducible first|exact HB.out|apply vA_|apply vN_|apply vD_ | refine vS_ ?_ GE200.out | refine vS_ ?_ GE201.out | refine vS_ ?_ GE235.out) | exact HB.out))) : w.heap.size ≤ gb246)); have n19_ := Aside0.mk ((by rw [hg]; exact Nat.ne_of_lt (blk_lt (g := gb200) (o := .cells #[.slice A0_0 l0_0.length c0_0, .slice A0_1 l0_1.length c0_1, .slice A0_2 l0_2.length c0_2, .int .i64 a0_3] 70 (0, 0)) (by (with_reducible repeat first|apply qN_|apply qD_|apply qA_); exact BK200.out)) : gb200 ≠ gb246)); have n20_ := Aside0.mk ((by rw [hg]; exact Nat.ne_of_gt (blk_lt (g := gb200) (o := .cells #[.slice A0_0 l0_0.length c0_0, .slice A0_1 l0_1.length c0_1, .slice A0_2 l0_2.length c0_2, .int .i64 a0_3] 70 (0, 0)) (by (with_reducible repeat first|apply qN_|apply qD_|apply qA_); exact BK200.out)) : gb246 ≠ gb200)); have n21_ := Aside0.mk ((by rw [hg]; exact Nat.ne_of_lt (blk_lt (g := gb201) (o := .cells #[.slice A1_0 l1_0.length c1_0, .slice A1_1 l1_1.length c1_1, .slice A1_2 l1_2.length c1_2, .int .i64 a1_3] 70 (0, 0)) (by (with_reducible repeat first|apply qN_|apply qD_|apply qA_); exact BK201.out)) : gb201 ≠ gb246)); have n22_ := Aside0.mk ((by rw [hg]; exact Nat.ne_of_gt (blk_lt (g := gb201) (o := .cells #[.slice A1_0 l1_0.length c1_0, .slice A1_1 l1_1.length c1_1, .slice A1_2 l1_2.length c1_2, .int .i64 a1_3] 70 (0, 0)) (by (with_reducible repeat first|apply qN_|apply qD_|apply qA_); exact BK201.out)) : gb246 ≠ gb201)); have n23_ := Aside0.mk ((by rw [hg]; exact Nat.ne_of_lt (blk_lt (g := gb235) (o := .cells #[.slice Ao46 t225.length co46, .slice Ao50 t228.length co50, .slice Ao51 t231.length co51, .int .i64 t234] 75 (0, 0)) (by (with_reducible repeat first|apply qN_|apply qD_|apply qA_); exact BK235.out)) : gb235 ≠ gb246)); have n24_ := Aside0.mk ((by rw [hg]; exact Nat.ne_of_gt (blk_lt (g := gb235) (o := .cells #[.slice Ao46 t225.length co46, .slice Ao50 t228.length co50, .slice Ao51 t231.length co51, .int .i64 t234] 75 (0, 0)) (by (with_reducible repeat first|apply qN_|apply qD_|apply qA_); exact BK235.out)) : gb246 ≠ gb235)); clear HO206; clear HO209; clear HO212; clear HO216; clear HO219; clear HO222; clear HO227; clear HO230; clear HO233; clear HO238; clear HO241; clear HO244; clear BK200; clear BK201; clear BK235; clear HB; have HO206 := n0_; have HO209 := n1_; have HO212 := n2_; have HO216 := n3_; have HO219 := n4_; have HO222 := n5_; have HO227 := n6_; have HO230 := n7_; have HO233 := n8_; have HO238 := n9_; have HO241 := n10_; have HO244 := n11_; have BK200 := n12_; have BK201 := n13_; have BK235 := n14_; have HB := n15_; have BK246 := n16_; have GW246 := n17_; have GE246 := n18_; have NB200_246 := n19_; have NB246_200 := n20_; have NB201_246 := n21_; have NB246_201 := n22_; have NB235_246 := n23_; have NB246_235 := n24_; clear n0_ n1_ n2_ n3_ n4_ n5_ n6_ n7_ n8_ n9_ n10_ n11_ n12_ n13_ n14_ n15_ n16_ n17_ n18_ n19_ n20_ n21_ n22_ n23_ n24_; clear hb hbox hg; obtain ⟨Ao55, co55, eo55⟩ := Kd.S_slice HO238.out; subst eo55; have hnb56 := NB246_200.out; have hnc56 := NB200_246.out; have hnb57 := NB246_201.out; have hnc57 := NB201_246.out; have hnb58 := NB246_235.out; have hnc58 := NB235_246.out; have hcz59_0 : w54.cell? ⟨gb246, 0, none⟩ = some (.slice none 0 0) := (blk_cell BK246.out 0).trans rfl; have hcz59_1 : w54.cell? ⟨gb246, 1, none⟩ = some (.slice none 0 0) := (blk_cell BK246.out 1).trans rfl; have hcz59_2 : w54.cell? ⟨gb246, 2, none⟩ = some (.slice none 0 0) := (blk_cell BK246.out 2).trans rfl; have hcz59_3 : w54.cell? ⟨gb246, 3, none⟩ = some (.int .i64 0) := (blk_cell BK246.out 3).trans rfl; have hfz59_0 := blk_frozen BK246.out 0; have hfz59_1 := blk_frozen BK246.out 1; have hfz59_2 := blk_frozen BK246.out 2; have hfz59_3 := blk_frozen BK246.out 3; obtain ⟨Ao60, co60, eo60⟩ := Kd.R_slice HO241.out; subst eo60; obtain ⟨Ao61, co61, eo61⟩ := Kd.R_slice HO244.out; subst eo61; have hcz62_0 : w54.cell? ⟨gb235, 0, none⟩ = some (.slice Ao46 t225.length co46) := (blk_cell BK235.out 0).trans rfl; have hcz62_1 : w54.cell? ⟨gb235, 1, none⟩ = some (.slice Ao50 t228.length co50) := (blk_cell BK235.out 1).trans rfl; have hcz62_2 : w54.cell? ⟨gb235, 2, none⟩ = some (.slice Ao51 t231.length co51) := (blk_cell BK235.out 2).trans rfl; have hcz62_3 : w54.cell? ⟨gb235, 3, none⟩ = some (.int .i64 t234) := (blk_cell BK235.out 3).trans rfl; have hfz62_0 := blk_frozen BK235.out 0; have hfz62_1 := blk_frozen BK235.out 1; have hfz62_2 := blk_frozen BK235.out 2; have hfz62_3 := blk_frozen BK235.out 3) | ((with_reducible refine gate_callee (f := 57) rfl ?_); refine goesL_ (some 31) rfl rfl Try.func57 (by kernel_rfl) rfl #[.agg #[.slice Ao46 t225.length co46, .slice Ao50 t228.length co50, .slice Ao51 t231.length co51, .int .i64 t234], .agg #[.slice Ao55 t236.length co55, .slice Ao60 t239.length co60, .slice Ao61 t242.length co61, .int .i64 t245]] rfl (by (try simp only [List.map_toArray, List.map_cons, List.map_nil]); first | done | rfl | (simp only [List.length_drop, List.length_take]; rfl)) ?_; (with_reducible refine (impl_SameState.calls k _ _ t225 _ _ t228 _ _ t231 t234 _ _ t236 _ _ t239 _ _ t242 t245 t247 _ ?side1 ?side2 ?side3 ?side4 ?side5 ?side6 ?side7 ?side8 ?side9 ?side10 ?side11 ?side12 A24.out).mono ?_); (case side1 => refine (Kd.S_reads' (e := 135) (base := w.heap.size) (ok := fun k_ => ((((((some k_ ≠ (.slice Ao50 t228.length co50 : Value).ownBlock ∧ some k_ ≠ (.slice Ao36 t204.length co36 : Value).ownBlock) ∧ some k_ ≠ (.slice Ao37 t207.length co37 : Value).ownBlock) ∧ some k_ ≠ (.slice Ao39 t214.length co39 : Value).ownBlock) ∧ some k_ ≠ (.slice Ao40 t217.length co40 : Value).ownBlock) ∧ some k_ ≠ (.slice Ao55 t236.length co55 : Value).ownBlock) ∧ some k_ ≠ (.slice Ao60 t239.length co60 : Value).ownBlock)) (n := t225.length) (c := co46) ?_).2.2; exact (by (with_reducible repeat first|apply sA_|apply sN_|apply sD_); exact (s4_ HO227.out BK246.out (by decide)))); (case side2 => exact (Kd.S_reads' HO227.out).2.1); (case side3 => refine (Kd.R_reads' (e := 90) (base := w.heap.size) (ok := fun k_ => (((True ∧ some k_ ≠ (.slice Ao37 t207.length co37 : Value).ownBlock) ∧ some k_ ≠ (.slice Ao40 t217.length co40 : Value).ownBlock) ∧ some k_ ≠ (.slice Ao60 t239.length co60 : Value).ownBlock)) (n := t228.length) (c := co50) ?_).2.2; exact (by (with_reducible repeat first|apply rA_|apply rN_|apply rD_); exact (r4_ HO230.out BK246.out (by decide)))); (case side4 => exact (Kd.R_reads' HO230.out).2.1); (case side5 => refine (Kd.R_reads' (e := 3) (base := w.heap.size) (ok := fun k_ => (((True ∧ some k_ ≠ (.slice Ao38 t210.length co38 : Value).ownBlock) ∧ some k_ ≠ (.slice Ao41 t220.length co41 : Value).ownBlock) ∧ some k_ ≠ (.slice Ao61 t242.length co61 : Value).ownBlock)) (n := t231.length) (c := co51) ?_).2.2; exact (by (with_reducible repeat first|apply rA_|apply rN_|apply rD_); exact (r4_ HO233.out BK246.out (by decide)))); (case side6 => exact (Kd.R_reads' HO233.out).2.1); (case side7 => refine (Kd.S_reads' (e := 135) (base := w.heap.size) (ok := fun k_ => ((((((some k_ ≠ (.slice Ao60 t239.length co60 : Value).ownBlock ∧ some k_ ≠ (.slice Ao36 t204.length co36 : Value).ownBlock) ∧ some k_ ≠ (.slice Ao37 t207.length co37 : Value).ownBlock) ∧ some k_ ≠ (.slice Ao39 t214.length co39 : Value).ownBlock) ∧ some k_ ≠ (.slice Ao40 t217.length co40 : Value).ownBlock) ∧ some k_ ≠ (.slice Ao46 t225.length co46 : Value).ownBlock) ∧ some k_ ≠ (.slice Ao50 t228.length co50 : Value).ownBlock)) (n := t236.length) (c := co55) ?_).2.2; exact (by (with_reducible repeat first|apply sA_|apply sN_|apply sD_); exact (s4_ HO238.out BK246.out (by decide)))); (case side8 => exact (Kd.S_reads' HO238.out).2.1); (case side9 => refine (Kd.R_reads' (e := 90) (base := w.heap.size) (ok := fun k_ => (((True ∧ some k_ ≠ (.slice Ao37 t207.length co37 : Value).ownBlock) ∧ some k_ ≠ (.slice Ao40 t217.length co40 : Value).ownBlock) ∧ some k_ ≠ (.slice Ao50 t228.length co50 : Value).ownBlock)) (n := t239.length) (c := co60) ?_).2.2; exact (by (with_reducible repeat first|apply rA_|apply rN_|apply rD_); exact (r4_ HO241.out BK246.out (by decide)))); (case side10 => exact (Kd.R_reads' HO241.out).2.1); (case side11 => refine (Kd.R_reads' (e := 3) (base := w.heap.size) (ok := fun k_ => (((True ∧ some k_ ≠ (.slice Ao38 t210.length co38 : Value).ownBlock) ∧ some k_ ≠ (.slice Ao41 t220.length co41 : Value).ownBlock) ∧ some k_ ≠ (.slice Ao51 t231.length co51 : Value).ownBlock)) (n := t242.length) (c := co61) ?_).2.2; exact (by (with_reducible repeat first|apply rA_|apply rN_|apply rD_); exact (r4_ HO244.out BK246.out (by decide)))); (case side12 => exact (Kd.R_reads' HO244.out).2.1); rintro e w63 ⟨rfl, hb⟩; refine ⟨_, rfl, ?_⟩; have n0_ := Aside0.mk (Kd.S_below (by (with_reducible repeat first|apply sA_|apply sN_|apply sD_); exact (s4_ HO206.out BK246.out (by decide))) hb); have n1_ := Aside0.mk (Kd.R_below (by (with_reducible repeat first|apply rA_|apply rN_|apply rD_); exact (r4_ HO209.out BK246.out (by decide))) hb); have n2_ := Aside0.mk (Kd.R_below (by (with_reducible repeat first|apply rA_|apply rN_|apply rD_); exact (r4_ HO212.out BK246.out (by decide))) hb); have n3_ := Aside0.mk (Kd.S_below (by (with_reducible repeat first|apply sA_|apply sN_|apply sD_); exact (s4_ HO216.out BK246.out (by decide))) hb); have n4_ := Aside0.mk (Kd.R_below (by (with_reducible repeat first|apply rA_|apply rN_|apply rD_); exact (r4_ HO219.out BK246.out (by decide))) hb); have n5_ := Aside0.mk (Kd.R_below (by (with_reducible repeat first|apply rA_|apply rN_|apply rD_); exact (r4_ HO222.out BK246.out (by decide))) hb); have n6_ := Aside0.mk (Kd.S_below (by (with_reducible repeat first|apply sA_|apply sN_|apply sD_); exact (s4_ HO227.out BK246.out (by decide))) hb); have n7_ := Aside0.mk (Kd.R_below (by (with_reducible repeat first|apply rA_|apply rN_|apply rD_); exact (r4_ HO230.out BK246.out (by decide))) hb); have n8_ := Aside0.mk (Kd.R_below (by (with_reducible repeat first|apply rA_|apply rN_|apply rD_); exact (r4_ HO233.out BK246.out (by decide))) hb); have n9_ := Aside0.mk (Kd.S_below (by (with_reducible repeat first|apply sA_|apply sN_|apply sD_); exact (s4_ HO238.out BK246.out (by decide))) hb); have n10_ := Aside0.mk (Kd.R_below (by (with_reducible repeat first|apply rA_|apply rN_|apply rD_); exact (r4_ HO241.out BK246.out (by decide))) hb); have n11_ := Aside0.mk (Kd.R_below (by (with_reducible repeat first|apply rA_|apply rN_|apply rD_); exact (r4_ HO244.out BK246.out (by decide))) hb); have n12_ := Aside0.mk (blk_below (g := gb200) (o := .cells #[.slice A0_0 l0_0.length c0_0, .slice A0_1 l0_1.length c0_1, .slice A0_2 l0_2.length c0_2, .int .i64 a0_3] 70 (0, 0)) (by (with_reducible repeat first|apply qN_|apply qD_|apply qA_); refine blk_far ?_ NB200_246.out _; (with_reducible repeat first|apply qN_|apply qD_|apply qA_); refine blk_far ?_ NB200_246.out _; (with_reducible repeat first|apply qN_|apply qD_|apply qA_); refine blk_far ?_ NB200_246.out _; (with_reducible repeat first|apply qN_|apply qD_|apply qA_); refine blk_far ?_ NB200_246.out _; (with_reducible repeat first|apply qN_|apply qD_|apply qA_); exact BK200.out) hb); have n13_ := Aside0.mk (blk_below (g := gb201) (o := .cells #[.slice A1_0 l1_0.length c1_0, .slice A1_1 l1_1.length c1_1, .slice A1_2 l1_2.length c1_2, .int .i64 a1_3] 70 (0, 0)) (by (with_reducible repeat first|apply qN_|apply qD_|apply qA_); refine blk_far ?_ NB201_246.out _; (with_reducible repeat first|apply qN_|apply qD_|apply qA_); refine blk_far ?_ NB201_246.out _; (with_reducible repeat first|apply qN_|apply qD_|apply qA_); refine blk_far ?_ NB201_246.out _; (with_reducible repeat first|apply qN_|apply qD_|apply qA_); refine blk_far ?_ NB201_246.out _; (with_reducible repeat first|apply qN_|apply qD_|apply qA_); exact BK201.out) hb); have n14_ := Aside0.mk (blk_below (g := gb235) (o := .cells #[.slice Ao46 t225.length co46, .slice Ao50 t228.length co50, .slice Ao51 t231.length co51, .int .i64 t234] 75 (0, 0)) (by (with_reducible repeat first|apply qN_|apply qD_|apply qA_); refine blk_far ?_ NB235_246.out _; (with_reducible repeat first|apply qN_|apply qD_|apply qA_); refine blk_far ?_ NB235_246.out _; (with_reducible repeat first|apply qN_|apply qD_|apply qA_); refine blk_far ?_ NB235_246.out _; (with_reducible repeat first|apply qN_|apply qD_|apply qA_); refine blk_far ?_ NB235_246.out _; (with_reducible repeat first|apply qN_|apply qD_|apply qA_); exact BK235.out) hb); have n15_ := Aside0.mk (blk_below (g := gb246) (o := .cells #[.slice Ao55 t236.length co55, .slice Ao60 t239.length co60, .slice Ao61 t242.length co61, .int .i64 t245] 75 (0, 0)) (by (with_reducible repeat first|apply qN_|apply qD_|apply qA_); refine blk_put (cs := #[.slice Ao55 t236.length co55, .slice Ao60 t239.length co60, .slice Ao61 t242.length co61, .int .i64 0]) ?_ 3 _ rfl; (with_reducible repeat first|apply qN_|apply qD_|apply qA_); refine blk_put (cs := #[.slice Ao55 t236.length co55, .slice Ao60 t239.length co60, .slice none 0 0, .int .i64 0]) ?_ 2 _ rfl; (with_reducible repeat first|apply qN_|apply qD_|apply qA_); refine blk_put (cs := #[.slice Ao55 t236.length co55, .slice none 0 0, .slice none 0 0, .int .i64 0]) ?_ 1 _ rfl; (with_reducible repeat first|apply qN_|apply qD_|apply qA_); refine blk_put (cs := #[.slice none 0 0, .slice none 0 0, .slice none 0 0, .int .i64 0]) ?_ 0 _ rfl; (with_reducible repeat first|apply qN_|apply qD_|apply qA_); exact BK246.out) hb); have n16_ := Aside0.mk (below_step (by repeat (first | (with_reducible first|exact HB.out|apply vA_|apply vN_|apply vD_ | refine vS_ ?_ GE200.out | refine vS_ ?_ GE201.out | refine vS_ ?_ GE235.out | refine vS_ ?_ GE246.out) | exact HB.out)) hb); clear HO206; clear HO209; clear HO212; clear HO216; clear HO219; clear HO222; clear HO227; clear HO230; clear HO233; clear HO238; clear HO241; clear HO244; clear BK200; clear BK201; clear BK235; clear BK246; clear HB; have HO206 := n0_; have HO209 := n1_; have HO212 := n2_; have HO216 := n3_; have HO219 := n4_; have HO222 := n5_; have HO227 := n6_; have HO230 := n7_; have HO233 := n8_; have HO238 := n9_; have HO241 := n10_; have HO244 := n11_; have BK200 := n12_; have BK201 := n13_; have BK235 := n14_; have BK246 := n15_; have HB := n16_; clear n0_ n1_ n2_ n3_ n4_ n5_ n6_ n7_ n8_ n9_ n10_ n11_ n12_ n13_ n14_ n15_ n16_; (try clear hb); (try clear hb2); (try clear hk); (try clear hi)))
      by_cases c25 : (t247 != t224) = true
      · rw [if_pos c25] at H
        have c25b0 : (t247 != t224) = true := c25
        (try (have c25b1 : decide (t247 = t224) = false := by simpa using c25))
        (try (have c25b2 : (t247 == t224) = false := by simpa using c25))
        (try (have c25b3 : ¬ (t247 = t224) := by simpa using c25))
        rw [show (!(t247 == t224)) = true from by simpa using c25]
        clear c25
        obtain rfl := Option.some.inj H
        try go_wp2
        go_ret
        exact ⟨by first | rfl | (simp [errW_none, errW_some] <;> rfl) | (simp [*, errW_none, errW_some] <;> rfl), by repeat (first | (with_reducible first|exact HB.out|apply vA_|apply vN_|apply vD_ | refine vS_ ?_ GE200.out | refine vS_ ?_ GE201.out | refine vS_ ?_ GE235.out | refine vS_ ?_ GE246.out) | exact HB.out)⟩
      · rw [if_neg c25] at H
        have c25b0 : (t247 != t224) = false := by simpa using c25
        (try (have c25b1 : decide (t247 = t224) = true := by simpa using c25))
        (try (have c25b2 : (t247 == t224) = true := by simpa using c25))
        rw [show (!(t247 == t224)) = false from by simpa using c25]
        clear c25
        replace H := Option.bind_eq_some_iff.mp H
        obtain ⟨⟨t248, t251, t254, t257⟩, A640, H⟩ := H
        replace H : ((laws_eqState.f k t225 t228 t231 t234 t248 t251 t254 t257).bind fun t258 => (if t258 = true then ((laws_toState.f k l1_0 l1_1 l1_2 a1_3).bind fun bt259 => ((laws_eqState.f k t236 t239 t242 t245 bt259.1 bt259.2.1 bt259.2.2.1 bt259.2.2.2).bind fun t269 => (if t269 = true then (some true) else (some false)))) else (some false))) = some r := H
        have A64 := Aside0.mk A640
        clear A640
        replace H := Option.bind_eq_some_iff.mp H
        obtain ⟨t258, A650, H⟩ := H
        replace H : (if t258 = true then ((laws_toState.f k l1_0 l1_1 l1_2 a1_3).bind fun bt259 => ((laws_eqState.f k t236 t239 t242 t245 bt259.1 bt259.2.1 bt259.2.2.1 bt259.2.2.2).bind fun t269 => (if t269 = true then (some true) else (some false)))) else (some false)) = some r := H
        have A65 := Aside0.mk A650
        clear A650
        by_cases c66 : t258 = true
        · subst c66
          have H1 : ((laws_toState.f k l1_0 l1_1 l1_2 a1_3).bind fun bt259 => ((laws_eqState.f k t236 t239 t242 t245 bt259.1 bt259.2.1 bt259.2.2.1 bt259.2.2.2).bind fun t269 => (if t269 = true then (some true) else (some false)))) = some r := by rw [if_pos rfl] at H; exact H
          clear H
          have H := H1
          clear H1
          replace H := Option.bind_eq_some_iff.mp H
          obtain ⟨⟨t259, t262, t265, t268⟩, A670, H⟩ := H
          replace H : ((laws_eqState.f k t236 t239 t242 t245 t259 t262 t265 t268).bind fun t269 => (if t269 = true then (some true) else (some false))) = some r := H
          have A67 := Aside0.mk A670
          clear A670
          replace H := Option.bind_eq_some_iff.mp H
          obtain ⟨t269, A680, H⟩ := H
          replace H : (if t269 = true then (some true) else (some false)) = some r := H
          have A68 := Aside0.mk A680
          clear A680
          by_cases c69 : t269 = true
          · subst c69
            have H1 : (some true) = some r := by rw [if_pos rfl] at H; exact H
            clear H
            have H := H1
            clear H1
            obtain rfl := Option.some.inj H
            try go_wp2
            have n0_ := Aside0.mk (Kd.S_drew HO206.out)
            have n1_ := Aside0.mk (Kd.R_drew HO209.out)
            have n2_ := Aside0.mk (Kd.R_drew HO212.out)
            have n3_ := Aside0.mk (Kd.S_drew HO216.out)
            have n4_ := Aside0.mk (Kd.R_drew HO219.out)
            have n5_ := Aside0.mk (Kd.R_drew HO222.out)
            have n6_ := Aside0.mk (Kd.S_drew HO227.out)
            have n7_ := Aside0.mk (Kd.R_drew HO230.out)
            have n8_ := Aside0.mk (Kd.R_drew HO233.out)
            have n9_ := Aside0.mk (Kd.S_drew HO238.out)
            have n10_ := Aside0.mk (Kd.R_drew HO241.out)
            have n11_ := Aside0.mk (Kd.R_drew HO244.out)
            have n12_ := Aside0.mk (blk_drew BK200.out)
            have n13_ := Aside0.mk (blk_drew BK201.out)
            have n14_ := Aside0.mk (blk_drew BK235.out)
            have n15_ := Aside0.mk (blk_drew BK246.out)
            have n16_ := Aside0.mk (below_drew1 HB.out)
            clear HO206
            clear HO209
            clear HO212
            clear HO216
            clear HO219
            clear HO222
            clear HO227
            clear HO230
            clear HO233
            clear HO238
            clear HO241
            clear HO244
            clear BK200
            clear BK201
            clear BK235
            clear BK246
            clear HB
            have HO206 := n0_
            have HO209 := n1_
            have HO212 := n2_
            have HO216 := n3_
            have HO219 := n4_
            have HO222 := n5_
            have HO227 := n6_
            have HO230 := n7_
            have HO233 := n8_
            have HO238 := n9_
            have HO241 := n10_
            have HO244 := n11_
            have BK200 := n12_
            have BK201 := n13_
            have BK235 := n14_
            have BK246 := n15_
            have HB := n16_
            clear n0_ n1_ n2_ n3_ n4_ n5_ n6_ n7_ n8_ n9_ n10_ n11_ n12_ n13_ n14_ n15_ n16_
            refine start_ (n := 5) (S := fun w' => w'.cell? ⟨gb235, 0, none⟩ = some (.slice Ao46 t225.length co46) ∧ w'.cell? ⟨gb235, 1, none⟩ = some (.slice Ao50 t228.length co50) ∧ w'.cell? ⟨gb235, 2, none⟩ = some (.slice Ao51 t231.length co51) ∧ w'.cell? ⟨gb235, 3, none⟩ = some (.int .i64 t234) ∧ w'.cell? ⟨gb200, 0, none⟩ = some (.slice A0_0 l0_0.length c0_0) ∧ w'.cell? ⟨gb200, 1, none⟩ = some (.slice A0_1 l0_1.length c0_1) ∧ w'.cell? ⟨gb200, 2, none⟩ = some (.slice A0_2 l0_2.length c0_2) ∧ w'.cell? ⟨gb200, 3, none⟩ = some (.int .i64 a0_3)) (ds := []) #[false, false, false, false, false] (by kernel_rfl) rfl rfl ⟨(blk_cell BK235.out 0).trans rfl, (blk_cell BK235.out 1).trans rfl, (blk_cell BK235.out 2).trans rfl, (blk_cell BK235.out 3).trans rfl, (blk_cell BK200.out 0).trans rfl, (blk_cell BK200.out 1).trans rfl, (blk_cell BK200.out 2).trans rfl, (blk_cell BK200.out 3).trans rfl⟩ (fun hHeld => ?_)
            generalize w63.drew = w108 at HO206 HO209 HO212 HO216 HO219 HO222 HO227 HO230 HO233 HO238 HO241 HO244 BK200 BK201 BK235 BK246 HB hHeld ⊢
            refine take_ (i := 0) (N := some 35) (v := ?_) (a' := ?_) #[true, false, false, false, false] rfl rfl (by kernel_rfl) (fun _ _ _ h => h) (Or.inl ⟨by rfl, ?_⟩) hHeld ?_ ?_
            rotate_left
            · rintro w' ⟨s0, s1, s2, s3, s4, s5, s6, s7⟩
              go_simp
              with_reducible rfl
            rotate_left
            · simp only [Act.put, List.setIfInBounds_toArray, List.set_cons_zero, List.set_cons_succ, i64_w, i32_w]
              rfl
            refine take_ (i := 1) (N := some 36) (v := ?_) (a' := ?_) #[true, true, false, false, false] rfl rfl (by kernel_rfl) (fun _ _ _ h => h) (Or.inl ⟨by rfl, ?_⟩) hHeld ?_ ?_
            rotate_left
            · rintro w' ⟨s0, s1, s2, s3, s4, s5, s6, s7⟩
              go_simp
              with_reducible rfl
            rotate_left
            · simp only [Act.put, List.setIfInBounds_toArray, List.set_cons_zero, List.set_cons_succ, i64_w, i32_w]
              rfl
            refine one_ (i := 2) (N := some 37) #[true, true, true, false, false] rfl rfl (by kernel_rfl) (by decide) (fun K hK => ?_)
            first | refine goes_ Try.func56 (by kernel_rfl) rfl #[.agg #[.slice A0_0 l0_0.length c0_0, .slice A0_1 l0_1.length c0_1, .slice A0_2 l0_2.length c0_2, .int .i64 a0_3]] (by rfl) rfl rfl (by (try simp only [List.map_toArray, List.map_cons, List.map_nil]); first | done | rfl | (simp only [List.length_drop, List.length_take]; rfl)) ?_ | refine goesV_ Try.func56 (by kernel_rfl) rfl #[.agg #[.slice A0_0 l0_0.length c0_0, .slice A0_1 l0_1.length c0_1, .slice A0_2 l0_2.length c0_2, .int .i64 a0_3]] (by rfl) rfl rfl (by rfl) (by first | rfl | (simp only [List.map_toArray, List.map_cons, List.map_nil]; rfl)) ?_
            with_reducible refine (laws_toState.calls k _ _ l0_0 _ _ l0_1 _ _ l0_2 a0_3 t248 t251 t254 t257 _ ?side1 ?side2 ?side3 ?side4 ?side5 ?side6 A64.out).mono ?_
            (case side1 => repeat (first | exact (Kd.C_below HR0_0.out HB.out) | with_reducible apply cA_|with_reducible apply cN_|with_reducible apply cD_))
            (case side2 => exact HC0_0.out)
            (case side3 => repeat (first | exact (Kd.C_below HR0_1.out HB.out) | with_reducible apply cA_|with_reducible apply cN_|with_reducible apply cD_))
            (case side4 => exact HC0_1.out)
            (case side5 => repeat (first | exact (Kd.C_below HR0_2.out HB.out) | with_reducible apply cA_|with_reducible apply cN_|with_reducible apply cD_))
            (case side6 => exact HC0_2.out)
            rintro e w109 ⟨v249, v252, v255, rfl, ho0, ho1, ho2, hb⟩
            refine ⟨_, rfl, ?_⟩
            have n0_ := Aside0.mk (Kd.S_mono (Kd.S_told (Kd.S_told (Kd.S_old (by (with_reducible repeat first|apply sA_|apply sN_|apply sD_); exact HO206.out) hb) (by first | exact Kd.S_base ho0 | exact Kd.R_base ho0)) (by first | exact Kd.R_base ho1 | exact Kd.S_base ho1 | exact Kd.R_base ho1)) (fun _ h_ => h_.1))
            have n1_ := Aside0.mk (Kd.R_elder' (by (with_reducible repeat first|apply rA_|apply rN_|apply rD_); exact HO209.out) (by first | exact Kd.R_base ho1 | exact Kd.S_base ho1 | exact Kd.R_base ho1) hb)
            have n2_ := Aside0.mk (Kd.R_elder' (by (with_reducible repeat first|apply rA_|apply rN_|apply rD_); exact HO212.out) (by first | exact Kd.R_base ho2 | exact Kd.S_base ho2 | exact Kd.R_base ho2) hb)
            have n3_ := Aside0.mk (Kd.S_mono (Kd.S_told (Kd.S_told (Kd.S_old (by (with_reducible repeat first|apply sA_|apply sN_|apply sD_); exact HO216.out) hb) (by first | exact Kd.S_base ho0 | exact Kd.R_base ho0)) (by first | exact Kd.R_base ho1 | exact Kd.S_base ho1 | exact Kd.R_base ho1)) (fun _ h_ => h_.1))
            have n4_ := Aside0.mk (Kd.R_elder' (by (with_reducible repeat first|apply rA_|apply rN_|apply rD_); exact HO219.out) (by first | exact Kd.R_base ho1 | exact Kd.S_base ho1 | exact Kd.R_base ho1) hb)
            have n5_ := Aside0.mk (Kd.R_elder' (by (with_reducible repeat first|apply rA_|apply rN_|apply rD_); exact HO222.out) (by first | exact Kd.R_base ho2 | exact Kd.S_base ho2 | exact Kd.R_base ho2) hb)
            have n6_ := Aside0.mk (Kd.S_mono (Kd.S_told (Kd.S_told (Kd.S_old (by (with_reducible repeat first|apply sA_|apply sN_|apply sD_); exact HO227.out) hb) (by first | exact Kd.S_base ho0 | exact Kd.R_base ho0)) (by first | exact Kd.R_base ho1 | exact Kd.S_base ho1 | exact Kd.R_base ho1)) (fun _ h_ => h_.1))
            have n7_ := Aside0.mk (Kd.R_elder' (by (with_reducible repeat first|apply rA_|apply rN_|apply rD_); exact HO230.out) (by first | exact Kd.R_base ho1 | exact Kd.S_base ho1 | exact Kd.R_base ho1) hb)
            have n8_ := Aside0.mk (Kd.R_elder' (by (with_reducible repeat first|apply rA_|apply rN_|apply rD_); exact HO233.out) (by first | exact Kd.R_base ho2 | exact Kd.S_base ho2 | exact Kd.R_base ho2) hb)
            have n9_ := Aside0.mk (Kd.S_mono (Kd.S_told (Kd.S_told (Kd.S_old (by (with_reducible repeat first|apply sA_|apply sN_|apply sD_); exact HO238.out) hb) (by first | exact Kd.S_base ho0 | exact Kd.R_base ho0)) (by first | exact Kd.R_base ho1 | exact Kd.S_base ho1 | exact Kd.R_base ho1)) (fun _ h_ => h_.1))
            have n10_ := Aside0.mk (Kd.R_elder' (by (with_reducible repeat first|apply rA_|apply rN_|apply rD_); exact HO241.out) (by first | exact Kd.R_base ho1 | exact Kd.S_base ho1 | exact Kd.R_base ho1) hb)
            have n11_ := Aside0.mk (Kd.R_elder' (by (with_reducible repeat first|apply rA_|apply rN_|apply rD_); exact HO244.out) (by first | exact Kd.R_base ho2 | exact Kd.S_base ho2 | exact Kd.R_base ho2) hb)
            have n12_ := Aside0.mk (Kd.S_lower (Kd.S_new' (Kd.S_new' (Kd.S_new' (Kd.S_new' (Kd.S_new' (Kd.S_new' (Kd.S_new' (Kd.S_new' ho0 (Kd.S_lt (by (with_reducible repeat first|apply sA_|apply sN_|apply sD_); exact HO206.out))) (Kd.R_lt (by (with_reducible repeat first|apply rA_|apply rN_|apply rD_); exact HO209.out))) (Kd.S_lt (by (with_reducible repeat first|apply sA_|apply sN_|apply sD_); exact HO216.out))) (Kd.R_lt (by (with_reducible repeat first|apply rA_|apply rN_|apply rD_); exact HO219.out))) (Kd.S_lt (by (with_reducible repeat first|apply sA_|apply sN_|apply sD_); exact HO227.out))) (Kd.R_lt (by (with_reducible repeat first|apply rA_|apply rN_|apply rD_); exact HO230.out))) (Kd.S_lt (by (with_reducible repeat first|apply sA_|apply sN_|apply sD_); exact HO238.out))) (Kd.R_lt (by (with_reducible repeat first|apply rA_|apply rN_|apply rD_); exact HO241.out))) (below_size (by repeat (first | (with_reducible first|exact HB.out|apply vA_|apply vN_|apply vD_ | refine vS_ ?_ GE200.out | refine vS_ ?_ GE201.out | refine vS_ ?_ GE235.out | refine vS_ ?_ GE246.out) | exact HB.out))))
            have n13_ := Aside0.mk (Kd.R_lower (Kd.R_new' (Kd.R_new' (Kd.R_new' (Kd.R_new' ho1 (Kd.R_lt (by (with_reducible repeat first|apply rA_|apply rN_|apply rD_); exact HO209.out))) (Kd.R_lt (by (with_reducible repeat first|apply rA_|apply rN_|apply rD_); exact HO219.out))) (Kd.R_lt (by (with_reducible repeat first|apply rA_|apply rN_|apply rD_); exact HO230.out))) (Kd.R_lt (by (with_reducible repeat first|apply rA_|apply rN_|apply rD_); exact HO241.out))) (below_size (by repeat (first | (with_reducible first|exact HB.out|apply vA_|apply vN_|apply vD_ | refine vS_ ?_ GE200.out | refine vS_ ?_ GE201.out | refine vS_ ?_ GE235.out | refine vS_ ?_ GE246.out) | exact HB.out))))
            have n14_ := Aside0.mk (Kd.R_lower (Kd.R_new' (Kd.R_new' (Kd.R_new' (Kd.R_new' ho2 (Kd.R_lt (by (with_reducible repeat first|apply rA_|apply rN_|apply rD_); exact HO212.out))) (Kd.R_lt (by (with_reducible repeat first|apply rA_|apply rN_|apply rD_); exact HO222.out))) (Kd.R_lt (by (with_reducible repeat first|apply rA_|apply rN_|apply rD_); exact HO233.out))) (Kd.R_lt (by (with_reducible repeat first|apply rA_|apply rN_|apply rD_); exact HO244.out))) (below_size (by repeat (first | (with_reducible first|exact HB.out|apply vA_|apply vN_|apply vD_ | refine vS_ ?_ GE200.out | refine vS_ ?_ GE201.out | refine vS_ ?_ GE235.out | refine vS_ ?_ GE246.out) | exact HB.out))))
            have n15_ := Aside0.mk (blk_below (by (with_reducible repeat first|apply qN_|apply qD_|apply qA_); exact BK200.out) hb)
            have n16_ := Aside0.mk (blk_below (by (with_reducible repeat first|apply qN_|apply qD_|apply qA_); exact BK201.out) hb)
            have n17_ := Aside0.mk (blk_below (by (with_reducible repeat first|apply qN_|apply qD_|apply qA_); exact BK235.out) hb)
            have n18_ := Aside0.mk (blk_below (by (with_reducible repeat first|apply qN_|apply qD_|apply qA_); exact BK246.out) hb)
            have n19_ := Aside0.mk (below_step (by repeat (first | (with_reducible first|exact HB.out|apply vA_|apply vN_|apply vD_ | refine vS_ ?_ GE200.out | refine vS_ ?_ GE201.out | refine vS_ ?_ GE235.out | refine vS_ ?_ GE246.out) | exact HB.out)) hb)
            clear HO206
            clear HO209
            clear HO212
            clear HO216
            clear HO219
            clear HO222
            clear HO227
            clear HO230
            clear HO233
            clear HO238
            clear HO241
            clear HO244
            clear BK200
            clear BK201
            clear BK235
            clear BK246
            clear HB
            have HO206 := n0_
            have HO209 := n1_
            have HO212 := n2_
            have HO216 := n3_
            have HO219 := n4_
            have HO222 := n5_
            have HO227 := n6_
            have HO230 := n7_
            have HO233 := n8_
            have HO238 := n9_
            have HO241 := n10_
            have HO244 := n11_
            have HO250 := n12_
            have HO253 := n13_
            have HO256 := n14_
            have BK200 := n15_
            have BK201 := n16_
            have BK235 := n17_
            have BK246 := n18_
            have HB := n19_
            clear n0_ n1_ n2_ n3_ n4_ n5_ n6_ n7_ n8_ n9_ n10_ n11_ n12_ n13_ n14_ n15_ n16_ n17_ n18_ n19_
            (try clear hb)
            (try clear hb2)
            (try clear hk)
            (try clear hi)
            (try clear ho0)
            (try clear ho1)
            (try clear ho2)
            obtain ⟨Ao110, co110, eo110⟩ := Kd.S_slice HO250.out
            (first | subst eo110 | (injection eo110 with f1_ f2_ f3_; have f4_ := f1_.symm; have f5_ := f3_.symm; clear f1_ f2_ f3_; subst f4_; subst f5_))
            obtain ⟨Ao111, co111, eo111⟩ := Kd.R_slice HO253.out
            (first | subst eo111 | (injection eo111 with f1_ f2_ f3_; have f4_ := f1_.symm; have f5_ := f3_.symm; clear f1_ f2_ f3_; subst f4_; subst f5_))
            obtain ⟨Ao112, co112, eo112⟩ := Kd.R_slice HO256.out
            (first | subst eo112 | (injection eo112 with f1_ f2_ f3_; have f4_ := f1_.symm; have f5_ := f3_.symm; clear f1_ f2_ f3_; subst f4_; subst f5_))
            refine hK.out _ _ ⟨(blk_cell BK235.out 0).trans rfl, (blk_cell BK235.out 1).trans rfl, (blk_cell BK235.out 2).trans rfl, (blk_cell BK235.out 3).trans rfl, (blk_cell BK200.out 0).trans rfl, (blk_cell BK200.out 1).trans rfl, (blk_cell BK200.out 2).trans rfl, (blk_cell BK200.out 3).trans rfl⟩ (fun hHeld => ?_)
            clear hK K
            refine norm_ (a' := ?_) ?_ ?_
            rotate_left
            · show Act.put _ (some 37) _ = _
              simp only [Act.put, List.setIfInBounds_toArray, List.set_cons_zero, List.set_cons_succ, i64_w, i32_w]
              rfl
            refine one_ (i := 3) (N := some 38) #[true, true, true, true, false] rfl rfl (by kernel_rfl) (by decide) (fun K hK => ?_)
            first | refine goes_ Try.func58 (by kernel_rfl) rfl #[.agg #[.slice Ao46 t225.length co46, .slice Ao50 t228.length co50, .slice Ao51 t231.length co51, .int .i64 t234], .agg #[.slice Ao110 t248.length co110, .slice Ao111 t251.length co111, .slice Ao112 t254.length co112, .int .i64 t257]] (by rfl) rfl rfl (by (try simp only [List.map_toArray, List.map_cons, List.map_nil]); first | done | rfl | (simp only [List.length_drop, List.length_take]; rfl)) ?_ | refine goesV_ Try.func58 (by kernel_rfl) rfl #[.agg #[.slice Ao46 t225.length co46, .slice Ao50 t228.length co50, .slice Ao51 t231.length co51, .int .i64 t234], .agg #[.slice Ao110 t248.length co110, .slice Ao111 t251.length co111, .slice Ao112 t254.length co112, .int .i64 t257]] (by rfl) rfl rfl (by rfl) (by first | rfl | (simp only [List.map_toArray, List.map_cons, List.map_nil]; rfl)) ?_
            with_reducible refine (laws_eqState.calls k _ _ t225 _ _ t228 _ _ t231 t234 _ _ t248 _ _ t251 _ _ t254 t257 true _ ?side1 ?side2 ?side3 ?side4 ?side5 ?side6 ?side7 ?side8 ?side9 ?side10 ?side11 ?side12 A65.out).mono ?_
            (case side1 => repeat (first | exact (Kd.S_reads' HO227.out).2.2 | with_reducible apply cA_|with_reducible apply cN_|with_reducible apply cD_))
            (case side2 => exact (Kd.S_reads' HO227.out).2.1)
            (case side3 => repeat (first | exact (Kd.R_reads' HO230.out).2.2 | with_reducible apply cA_|with_reducible apply cN_|with_reducible apply cD_))
            (case side4 => exact (Kd.R_reads' HO230.out).2.1)
            (case side5 => repeat (first | exact (Kd.R_reads' HO233.out).2.2 | with_reducible apply cA_|with_reducible apply cN_|with_reducible apply cD_))
            (case side6 => exact (Kd.R_reads' HO233.out).2.1)
            (case side7 => repeat (first | exact (Kd.S_reads' HO250.out).2.2 | with_reducible apply cA_|with_reducible apply cN_|with_reducible apply cD_))
            (case side8 => exact (Kd.S_reads' HO250.out).2.1)
            (case side9 => repeat (first | exact (Kd.R_reads' HO253.out).2.2 | with_reducible apply cA_|with_reducible apply cN_|with_reducible apply cD_))
            (case side10 => exact (Kd.R_reads' HO253.out).2.1)
            (case side11 => repeat (first | exact (Kd.R_reads' HO256.out).2.2 | with_reducible apply cA_|with_reducible apply cN_|with_reducible apply cD_))
            (case side12 => exact (Kd.R_reads' HO256.out).2.1)
            rintro e w113 ⟨rfl, hb⟩
            refine ⟨_, rfl, ?_⟩
            have n0_ := Aside0.mk (Kd.S_below (by (with_reducible repeat first|apply sA_|apply sN_|apply sD_); exact HO206.out) hb)
            have n1_ := Aside0.mk (Kd.R_below (by (with_reducible repeat first|apply rA_|apply rN_|apply rD_); exact HO209.out) hb)
            have n2_ := Aside0.mk (Kd.R_below (by (with_reducible repeat first|apply rA_|apply rN_|apply rD_); exact HO212.out) hb)
            have n3_ := Aside0.mk (Kd.S_below (by (with_reducible repeat first|apply sA_|apply sN_|apply sD_); exact HO216.out) hb)
            have n4_ := Aside0.mk (Kd.R_below (by (with_reducible repeat first|apply rA_|apply rN_|apply rD_); exact HO219.out) hb)
            have n5_ := Aside0.mk (Kd.R_below (by (with_reducible repeat first|apply rA_|apply rN_|apply rD_); exact HO222.out) hb)
            have n6_ := Aside0.mk (Kd.S_below (by (with_reducible repeat first|apply sA_|apply sN_|apply sD_); exact HO227.out) hb)
            have n7_ := Aside0.mk (Kd.R_below (by (with_reducible repeat first|apply rA_|apply rN_|apply rD_); exact HO230.out) hb)
            have n8_ := Aside0.mk (Kd.R_below (by (with_reducible repeat first|apply rA_|apply rN_|apply rD_); exact HO233.out) hb)
            have n9_ := Aside0.mk (Kd.S_below (by (with_reducible repeat first|apply sA_|apply sN_|apply sD_); exact HO238.out) hb)
            have n10_ := Aside0.mk (Kd.R_below (by (with_reducible repeat first|apply rA_|apply rN_|apply rD_); exact HO241.out) hb)
            have n11_ := Aside0.mk (Kd.R_below (by (with_reducible repeat first|apply rA_|apply rN_|apply rD_); exact HO244.out) hb)
            have n12_ := Aside0.mk (Kd.S_below (by (with_reducible repeat first|apply sA_|apply sN_|apply sD_); exact HO250.out) hb)
            have n13_ := Aside0.mk (Kd.R_below (by (with_reducible repeat first|apply rA_|apply rN_|apply rD_); exact HO253.out) hb)
            have n14_ := Aside0.mk (Kd.R_below (by (with_reducible repeat first|apply rA_|apply rN_|apply rD_); exact HO256.out) hb)
            have n15_ := Aside0.mk (blk_below (by (with_reducible repeat first|apply qN_|apply qD_|apply qA_); exact BK200.out) hb)
            have n16_ := Aside0.mk (blk_below (by (with_reducible repeat first|apply qN_|apply qD_|apply qA_); exact BK201.out) hb)
            have n17_ := Aside0.mk (blk_below (by (with_reducible repeat first|apply qN_|apply qD_|apply qA_); exact BK235.out) hb)
            have n18_ := Aside0.mk (blk_below (by (with_reducible repeat first|apply qN_|apply qD_|apply qA_); exact BK246.out) hb)
            have n19_ := Aside0.mk (below_step (by repeat (first | (with_reducible first|exact HB.out|apply vA_|apply vN_|apply vD_ | refine vS_ ?_ GE200.out | refine vS_ ?_ GE201.out | refine vS_ ?_ GE235.out | refine vS_ ?_ GE246.out) | exact HB.out)) hb)
            clear HO206
            clear HO209
            clear HO212
            clear HO216
            clear HO219
            clear HO222
            clear HO227
            clear HO230
            clear HO233
            clear HO238
            clear HO241
            clear HO244
            clear HO250
            clear HO253
            clear HO256
            clear BK200
            clear BK201
            clear BK235
            clear BK246
            clear HB
            have HO206 := n0_
            have HO209 := n1_
            have HO212 := n2_
            have HO216 := n3_
            have HO219 := n4_
            have HO222 := n5_
            have HO227 := n6_
            have HO230 := n7_
            have HO233 := n8_
            have HO238 := n9_
            have HO241 := n10_
            have HO244 := n11_
            have HO250 := n12_
            have HO253 := n13_
            have HO256 := n14_
            have BK200 := n15_
            have BK201 := n16_
            have BK235 := n17_
            have BK246 := n18_
            have HB := n19_
            clear n0_ n1_ n2_ n3_ n4_ n5_ n6_ n7_ n8_ n9_ n10_ n11_ n12_ n13_ n14_ n15_ n16_ n17_ n18_ n19_
            (try clear hb)
            (try clear hb2)
            (try clear hk)
            (try clear hi)
            refine hK.out _ _ ⟨(blk_cell BK235.out 0).trans rfl, (blk_cell BK235.out 1).trans rfl, (blk_cell BK235.out 2).trans rfl, (blk_cell BK235.out 3).trans rfl, (blk_cell BK200.out 0).trans rfl, (blk_cell BK200.out 1).trans rfl, (blk_cell BK200.out 2).trans rfl, (blk_cell BK200.out 3).trans rfl⟩ (fun hHeld => ?_)
            clear hK K
            refine norm_ (a' := ?_) ?_ ?_
            rotate_left
            · show Act.put _ (some 38) _ = _
              simp only [Act.put, List.setIfInBounds_toArray, List.set_cons_zero, List.set_cons_succ, i64_w, i32_w]
              rfl
            refine pure_ (i := 4) (N := some 39) (v := ?_) (a' := ?_) #[true, true, true, true, true] rfl rfl (by kernel_rfl) (fun _ _ _ h => h) (Or.inl ⟨by rfl, ?_⟩) ?_ ?_
            rotate_left
            · intro w'
              go_simp
              with_reducible rfl
            rotate_left
            · simp only [Act.put, List.setIfInBounds_toArray, List.set_cons_zero, List.set_cons_succ, i64_w, i32_w]
              rfl
            refine done_ (by kernel_rfl) ?_
            try go_wp2
            have n0_ := Aside0.mk (Kd.S_drew HO206.out)
            have n1_ := Aside0.mk (Kd.R_drew HO209.out)
            have n2_ := Aside0.mk (Kd.R_drew HO212.out)
            have n3_ := Aside0.mk (Kd.S_drew HO216.out)
            have n4_ := Aside0.mk (Kd.R_drew HO219.out)
            have n5_ := Aside0.mk (Kd.R_drew HO222.out)
            have n6_ := Aside0.mk (Kd.S_drew HO227.out)
            have n7_ := Aside0.mk (Kd.R_drew HO230.out)
            have n8_ := Aside0.mk (Kd.R_drew HO233.out)
            have n9_ := Aside0.mk (Kd.S_drew HO238.out)
            have n10_ := Aside0.mk (Kd.R_drew HO241.out)
            have n11_ := Aside0.mk (Kd.R_drew HO244.out)
            have n12_ := Aside0.mk (Kd.S_drew HO250.out)
            have n13_ := Aside0.mk (Kd.R_drew HO253.out)
            have n14_ := Aside0.mk (Kd.R_drew HO256.out)
            have n15_ := Aside0.mk (blk_drew BK200.out)
            have n16_ := Aside0.mk (blk_drew BK201.out)
            have n17_ := Aside0.mk (blk_drew BK235.out)
            have n18_ := Aside0.mk (blk_drew BK246.out)
            have n19_ := Aside0.mk (below_drew1 HB.out)
            clear HO206
            clear HO209
            clear HO212
            clear HO216
            clear HO219
            clear HO222
            clear HO227
            clear HO230
            clear HO233
            clear HO238
            clear HO241
            clear HO244
            clear HO250
            clear HO253
            clear HO256
            clear BK200
            clear BK201
            clear BK235
            clear BK246
            clear HB
            have HO206 := n0_
            have HO209 := n1_
            have HO212 := n2_
            have HO216 := n3_
            have HO219 := n4_
            have HO222 := n5_
            have HO227 := n6_
            have HO230 := n7_
            have HO233 := n8_
            have HO238 := n9_
            have HO241 := n10_
            have HO244 := n11_
            have HO250 := n12_
            have HO253 := n13_
            have HO256 := n14_
            have BK200 := n15_
            have BK201 := n16_
            have BK235 := n17_
            have BK246 := n18_
            have HB := n19_
            clear n0_ n1_ n2_ n3_ n4_ n5_ n6_ n7_ n8_ n9_ n10_ n11_ n12_ n13_ n14_ n15_ n16_ n17_ n18_ n19_
            refine start_ (n := 5) (S := fun w' => w'.cell? ⟨gb246, 0, none⟩ = some (.slice Ao55 t236.length co55) ∧ w'.cell? ⟨gb246, 1, none⟩ = some (.slice Ao60 t239.length co60) ∧ w'.cell? ⟨gb246, 2, none⟩ = some (.slice Ao61 t242.length co61) ∧ w'.cell? ⟨gb246, 3, none⟩ = some (.int .i64 t245) ∧ w'.cell? ⟨gb201, 0, none⟩ = some (.slice A1_0 l1_0.length c1_0) ∧ w'.cell? ⟨gb201, 1, none⟩ = some (.slice A1_1 l1_1.length c1_1) ∧ w'.cell? ⟨gb201, 2, none⟩ = some (.slice A1_2 l1_2.length c1_2) ∧ w'.cell? ⟨gb201, 3, none⟩ = some (.int .i64 a1_3)) (ds := []) #[false, false, false, false, false] (by kernel_rfl) rfl rfl ⟨(blk_cell BK246.out 0).trans rfl, (blk_cell BK246.out 1).trans rfl, (blk_cell BK246.out 2).trans rfl, (blk_cell BK246.out 3).trans rfl, (blk_cell BK201.out 0).trans rfl, (blk_cell BK201.out 1).trans rfl, (blk_cell BK201.out 2).trans rfl, (blk_cell BK201.out 3).trans rfl⟩ (fun hHeld => ?_)
            generalize w113.drew = w114 at HO206 HO209 HO212 HO216 HO219 HO222 HO227 HO230 HO233 HO238 HO241 HO244 HO250 HO253 HO256 BK200 BK201 BK235 BK246 HB hHeld ⊢
            refine take_ (i := 0) (N := some 40) (v := ?_) (a' := ?_) #[true, false, false, false, false] rfl rfl (by kernel_rfl) (fun _ _ _ h => h) (Or.inl ⟨by rfl, ?_⟩) hHeld ?_ ?_
            rotate_left
            · rintro w' ⟨s0, s1, s2, s3, s4, s5, s6, s7⟩
              go_simp
              with_reducible rfl
            rotate_left
            · simp only [Act.put, List.setIfInBounds_toArray, List.set_cons_zero, List.set_cons_succ, i64_w, i32_w]
              rfl
            refine take_ (i := 1) (N := some 41) (v := ?_) (a' := ?_) #[true, true, false, false, false] rfl rfl (by kernel_rfl) (fun _ _ _ h => h) (Or.inl ⟨by rfl, ?_⟩) hHeld ?_ ?_
            rotate_left
            · rintro w' ⟨s0, s1, s2, s3, s4, s5, s6, s7⟩
              go_simp
              with_reducible rfl
            rotate_left
            · simp only [Act.put, List.setIfInBounds_toArray, List.set_cons_zero, List.set_cons_succ, i64_w, i32_w]
              rfl
            refine one_ (i := 2) (N := some 42) #[true, true, true, false, false] rfl rfl (by kernel_rfl) (by decide) (fun K hK => ?_)
            first | refine goes_ Try.func56 (by kernel_rfl) rfl #[.agg #[.slice A1_0 l1_0.length c1_0, .slice A1_1 l1_1.length c1_1, .slice A1_2 l1_2.length c1_2, .int .i64 a1_3]] (by rfl) rfl rfl (by (try simp only [List.map_toArray, List.map_cons, List.map_nil]); first | done | rfl | (simp only [List.length_drop, List.length_take]; rfl)) ?_ | refine goesV_ Try.func56 (by kernel_rfl) rfl #[.agg #[.slice A1_0 l1_0.length c1_0, .slice A1_1 l1_1.length c1_1, .slice A1_2 l1_2.length c1_2, .int .i64 a1_3]] (by rfl) rfl rfl (by rfl) (by first | rfl | (simp only [List.map_toArray, List.map_cons, List.map_nil]; rfl)) ?_
            with_reducible refine (laws_toState.calls k _ _ l1_0 _ _ l1_1 _ _ l1_2 a1_3 t259 t262 t265 t268 _ ?side1 ?side2 ?side3 ?side4 ?side5 ?side6 A67.out).mono ?_
            (case side1 => repeat (first | exact (Kd.C_below HR1_0.out HB.out) | with_reducible apply cA_|with_reducible apply cN_|with_reducible apply cD_))
            (case side2 => exact HC1_0.out)
            (case side3 => repeat (first | exact (Kd.C_below HR1_1.out HB.out) | with_reducible apply cA_|with_reducible apply cN_|with_reducible apply cD_))
            (case side4 => exact HC1_1.out)
            (case side5 => repeat (first | exact (Kd.C_below HR1_2.out HB.out) | with_reducible apply cA_|with_reducible apply cN_|with_reducible apply cD_))
            (case side6 => exact HC1_2.out)
            rintro e w115 ⟨v260, v263, v266, rfl, ho0, ho1, ho2, hb⟩
            refine ⟨_, rfl, ?_⟩
            have n0_ := Aside0.mk (Kd.S_mono (Kd.S_told (Kd.S_told (Kd.S_old (by (with_reducible repeat first|apply sA_|apply sN_|apply sD_); exact HO206.out) hb) (by first | exact Kd.S_base ho0 | exact Kd.R_base ho0)) (by first | exact Kd.R_base ho1 | exact Kd.S_base ho1 | exact Kd.R_base ho1)) (fun _ h_ => h_.1))
            have n1_ := Aside0.mk (Kd.R_elder' (by (with_reducible repeat first|apply rA_|apply rN_|apply rD_); exact HO209.out) (by first | exact Kd.R_base ho1 | exact Kd.S_base ho1 | exact Kd.R_base ho1) hb)
            have n2_ := Aside0.mk (Kd.R_elder' (by (with_reducible repeat first|apply rA_|apply rN_|apply rD_); exact HO212.out) (by first | exact Kd.R_base ho2 | exact Kd.S_base ho2 | exact Kd.R_base ho2) hb)
            have n3_ := Aside0.mk (Kd.S_mono (Kd.S_told (Kd.S_told (Kd.S_old (by (with_reducible repeat first|apply sA_|apply sN_|apply sD_); exact HO216.out) hb) (by first | exact Kd.S_base ho0 | exact Kd.R_base ho0)) (by first | exact Kd.R_base ho1 | exact Kd.S_base ho1 | exact Kd.R_base ho1)) (fun _ h_ => h_.1))
            have n4_ := Aside0.mk (Kd.R_elder' (by (with_reducible repeat first|apply rA_|apply rN_|apply rD_); exact HO219.out) (by first | exact Kd.R_base ho1 | exact Kd.S_base ho1 | exact Kd.R_base ho1) hb)
            have n5_ := Aside0.mk (Kd.R_elder' (by (with_reducible repeat first|apply rA_|apply rN_|apply rD_); exact HO222.out) (by first | exact Kd.R_base ho2 | exact Kd.S_base ho2 | exact Kd.R_base ho2) hb)
            have n6_ := Aside0.mk (Kd.S_mono (Kd.S_told (Kd.S_told (Kd.S_old (by (with_reducible repeat first|apply sA_|apply sN_|apply sD_); exact HO227.out) hb) (by first | exact Kd.S_base ho0 | exact Kd.R_base ho0)) (by first | exact Kd.R_base ho1 | exact Kd.S_base ho1 | exact Kd.R_base ho1)) (fun _ h_ => h_.1))
            have n7_ := Aside0.mk (Kd.R_elder' (by (with_reducible repeat first|apply rA_|apply rN_|apply rD_); exact HO230.out) (by first | exact Kd.R_base ho1 | exact Kd.S_base ho1 | exact Kd.R_base ho1) hb)
            have n8_ := Aside0.mk (Kd.R_elder' (by (with_reducible repeat first|apply rA_|apply rN_|apply rD_); exact HO233.out) (by first | exact Kd.R_base ho2 | exact Kd.S_base ho2 | exact Kd.R_base ho2) hb)
            have n9_ := Aside0.mk (Kd.S_mono (Kd.S_told (Kd.S_told (Kd.S_old (by (with_reducible repeat first|apply sA_|apply sN_|apply sD_); exact HO238.out) hb) (by first | exact Kd.S_base ho0 | exact Kd.R_base ho0)) (by first | exact Kd.R_base ho1 | exact Kd.S_base ho1 | exact Kd.R_base ho1)) (fun _ h_ => h_.1))
            have n10_ := Aside0.mk (Kd.R_elder' (by (with_reducible repeat first|apply rA_|apply rN_|apply rD_); exact HO241.out) (by first | exact Kd.R_base ho1 | exact Kd.S_base ho1 | exact Kd.R_base ho1) hb)
            have n11_ := Aside0.mk (Kd.R_elder' (by (with_reducible repeat first|apply rA_|apply rN_|apply rD_); exact HO244.out) (by first | exact Kd.R_base ho2 | exact Kd.S_base ho2 | exact Kd.R_base ho2) hb)
            have n12_ := Aside0.mk (Kd.S_mono (Kd.S_told (Kd.S_told (Kd.S_old (by (with_reducible repeat first|apply sA_|apply sN_|apply sD_); exact HO250.out) hb) (by first | exact Kd.S_base ho0 | exact Kd.R_base ho0)) (by first | exact Kd.R_base ho1 | exact Kd.S_base ho1 | exact Kd.R_base ho1)) (fun _ h_ => h_.1))
            have n13_ := Aside0.mk (Kd.R_elder' (by (with_reducible repeat first|apply rA_|apply rN_|apply rD_); exact HO253.out) (by first | exact Kd.R_base ho1 | exact Kd.S_base ho1 | exact Kd.R_base ho1) hb)
            have n14_ := Aside0.mk (Kd.R_elder' (by (with_reducible repeat first|apply rA_|apply rN_|apply rD_); exact HO256.out) (by first | exact Kd.R_base ho2 | exact Kd.S_base ho2 | exact Kd.R_base ho2) hb)
            have n15_ := Aside0.mk (Kd.S_lower (Kd.S_new' (Kd.S_new' (Kd.S_new' (Kd.S_new' (Kd.S_new' (Kd.S_new' (Kd.S_new' (Kd.S_new' (Kd.S_new' (Kd.S_new' ho0 (Kd.S_lt (by (with_reducible repeat first|apply sA_|apply sN_|apply sD_); exact HO206.out))) (Kd.R_lt (by (with_reducible repeat first|apply rA_|apply rN_|apply rD_); exact HO209.out))) (Kd.S_lt (by (with_reducible repeat first|apply sA_|apply sN_|apply sD_); exact HO216.out))) (Kd.R_lt (by (with_reducible repeat first|apply rA_|apply rN_|apply rD_); exact HO219.out))) (Kd.S_lt (by (with_reducible repeat first|apply sA_|apply sN_|apply sD_); exact HO227.out))) (Kd.R_lt (by (with_reducible repeat first|apply rA_|apply rN_|apply rD_); exact HO230.out))) (Kd.S_lt (by (with_reducible repeat first|apply sA_|apply sN_|apply sD_); exact HO238.out))) (Kd.R_lt (by (with_reducible repeat first|apply rA_|apply rN_|apply rD_); exact HO241.out))) (Kd.S_lt (by (with_reducible repeat first|apply sA_|apply sN_|apply sD_); exact HO250.out))) (Kd.R_lt (by (with_reducible repeat first|apply rA_|apply rN_|apply rD_); exact HO253.out))) (below_size (by repeat (first | (with_reducible first|exact HB.out|apply vA_|apply vN_|apply vD_ | refine vS_ ?_ GE200.out | refine vS_ ?_ GE201.out | refine vS_ ?_ GE235.out | refine vS_ ?_ GE246.out) | exact HB.out))))
            have n16_ := Aside0.mk (Kd.R_lower (Kd.R_new' (Kd.R_new' (Kd.R_new' (Kd.R_new' (Kd.R_new' ho1 (Kd.R_lt (by (with_reducible repeat first|apply rA_|apply rN_|apply rD_); exact HO209.out))) (Kd.R_lt (by (with_reducible repeat first|apply rA_|apply rN_|apply rD_); exact HO219.out))) (Kd.R_lt (by (with_reducible repeat first|apply rA_|apply rN_|apply rD_); exact HO230.out))) (Kd.R_lt (by (with_reducible repeat first|apply rA_|apply rN_|apply rD_); exact HO241.out))) (Kd.R_lt (by (with_reducible repeat first|apply rA_|apply rN_|apply rD_); exact HO253.out))) (below_size (by repeat (first | (with_reducible first|exact HB.out|apply vA_|apply vN_|apply vD_ | refine vS_ ?_ GE200.out | refine vS_ ?_ GE201.out | refine vS_ ?_ GE235.out | refine vS_ ?_ GE246.out) | exact HB.out))))
            have n17_ := Aside0.mk (Kd.R_lower (Kd.R_new' (Kd.R_new' (Kd.R_new' (Kd.R_new' (Kd.R_new' ho2 (Kd.R_lt (by (with_reducible repeat first|apply rA_|apply rN_|apply rD_); exact HO212.out))) (Kd.R_lt (by (with_reducible repeat first|apply rA_|apply rN_|apply rD_); exact HO222.out))) (Kd.R_lt (by (with_reducible repeat first|apply rA_|apply rN_|apply rD_); exact HO233.out))) (Kd.R_lt (by (with_reducible repeat first|apply rA_|apply rN_|apply rD_); exact HO244.out))) (Kd.R_lt (by (with_reducible repeat first|apply rA_|apply rN_|apply rD_); exact HO256.out))) (below_size (by repeat (first | (with_reducible first|exact HB.out|apply vA_|apply vN_|apply vD_ | refine vS_ ?_ GE200.out | refine vS_ ?_ GE201.out | refine vS_ ?_ GE235.out | refine vS_ ?_ GE246.out) | exact HB.out))))
            have n18_ := Aside0.mk (blk_below (by (with_reducible repeat first|apply qN_|apply qD_|apply qA_); exact BK200.out) hb)
            have n19_ := Aside0.mk (blk_below (by (with_reducible repeat first|apply qN_|apply qD_|apply qA_); exact BK201.out) hb)
            have n20_ := Aside0.mk (blk_below (by (with_reducible repeat first|apply qN_|apply qD_|apply qA_); exact BK235.out) hb)
            have n21_ := Aside0.mk (blk_below (by (with_reducible repeat first|apply qN_|apply qD_|apply qA_); exact BK246.out) hb)
            have n22_ := Aside0.mk (below_step (by repeat (first | (with_reducible first|exact HB.out|apply vA_|apply vN_|apply vD_ | refine vS_ ?_ GE200.out | refine vS_ ?_ GE201.out | refine vS_ ?_ GE235.out | refine vS_ ?_ GE246.out) | exact HB.out)) hb)
            clear HO206
            clear HO209
            clear HO212
            clear HO216
            clear HO219
            clear HO222
            clear HO227
            clear HO230
            clear HO233
            clear HO238
            clear HO241
            clear HO244
            clear HO250
            clear HO253
            clear HO256
            clear BK200
            clear BK201
            clear BK235
            clear BK246
            clear HB
            have HO206 := n0_
            have HO209 := n1_
            have HO212 := n2_
            have HO216 := n3_
            have HO219 := n4_
            have HO222 := n5_
            have HO227 := n6_
            have HO230 := n7_
            have HO233 := n8_
            have HO238 := n9_
            have HO241 := n10_
            have HO244 := n11_
            have HO250 := n12_
            have HO253 := n13_
            have HO256 := n14_
            have HO261 := n15_
            have HO264 := n16_
            have HO267 := n17_
            have BK200 := n18_
            have BK201 := n19_
            have BK235 := n20_
            have BK246 := n21_
            have HB := n22_
            clear n0_ n1_ n2_ n3_ n4_ n5_ n6_ n7_ n8_ n9_ n10_ n11_ n12_ n13_ n14_ n15_ n16_ n17_ n18_ n19_ n20_ n21_ n22_
            (try clear hb)
            (try clear hb2)
            (try clear hk)
            (try clear hi)
            (try clear ho0)
            (try clear ho1)
            (try clear ho2)
            obtain ⟨Ao116, co116, eo116⟩ := Kd.S_slice HO261.out
            (first | subst eo116 | (injection eo116 with f1_ f2_ f3_; have f4_ := f1_.symm; have f5_ := f3_.symm; clear f1_ f2_ f3_; subst f4_; subst f5_))
            obtain ⟨Ao117, co117, eo117⟩ := Kd.R_slice HO264.out
            (first | subst eo117 | (injection eo117 with f1_ f2_ f3_; have f4_ := f1_.symm; have f5_ := f3_.symm; clear f1_ f2_ f3_; subst f4_; subst f5_))
            obtain ⟨Ao118, co118, eo118⟩ := Kd.R_slice HO267.out
            (first | subst eo118 | (injection eo118 with f1_ f2_ f3_; have f4_ := f1_.symm; have f5_ := f3_.symm; clear f1_ f2_ f3_; subst f4_; subst f5_))
            refine hK.out _ _ ⟨(blk_cell BK246.out 0).trans rfl, (blk_cell BK246.out 1).trans rfl, (blk_cell BK246.out 2).trans rfl, (blk_cell BK246.out 3).trans rfl, (blk_cell BK201.out 0).trans rfl, (blk_cell BK201.out 1).trans rfl, (blk_cell BK201.out 2).trans rfl, (blk_cell BK201.out 3).trans rfl⟩ (fun hHeld => ?_)
            clear hK K
            refine norm_ (a' := ?_) ?_ ?_
            rotate_left
            · show Act.put _ (some 42) _ = _
              simp only [Act.put, List.setIfInBounds_toArray, List.set_cons_zero, List.set_cons_succ, i64_w, i32_w]
              rfl
            refine one_ (i := 3) (N := some 43) #[true, true, true, true, false] rfl rfl (by kernel_rfl) (by decide) (fun K hK => ?_)
            first | refine goes_ Try.func58 (by kernel_rfl) rfl #[.agg #[.slice Ao55 t236.length co55, .slice Ao60 t239.length co60, .slice Ao61 t242.length co61, .int .i64 t245], .agg #[.slice Ao116 t259.length co116, .slice Ao117 t262.length co117, .slice Ao118 t265.length co118, .int .i64 t268]] (by rfl) rfl rfl (by (try simp only [List.map_toArray, List.map_cons, List.map_nil]); first | done | rfl | (simp only [List.length_drop, List.length_take]; rfl)) ?_ | refine goesV_ Try.func58 (by kernel_rfl) rfl #[.agg #[.slice Ao55 t236.length co55, .slice Ao60 t239.length co60, .slice Ao61 t242.length co61, .int .i64 t245], .agg #[.slice Ao116 t259.length co116, .slice Ao117 t262.length co117, .slice Ao118 t265.length co118, .int .i64 t268]] (by rfl) rfl rfl (by rfl) (by first | rfl | (simp only [List.map_toArray, List.map_cons, List.map_nil]; rfl)) ?_
            with_reducible refine (laws_eqState.calls k _ _ t236 _ _ t239 _ _ t242 t245 _ _ t259 _ _ t262 _ _ t265 t268 true _ ?side1 ?side2 ?side3 ?side4 ?side5 ?side6 ?side7 ?side8 ?side9 ?side10 ?side11 ?side12 A68.out).mono ?_
            (case side1 => repeat (first | exact (Kd.S_reads' HO238.out).2.2 | with_reducible apply cA_|with_reducible apply cN_|with_reducible apply cD_))
            (case side2 => exact (Kd.S_reads' HO238.out).2.1)
            (case side3 => repeat (first | exact (Kd.R_reads' HO241.out).2.2 | with_reducible apply cA_|with_reducible apply cN_|with_reducible apply cD_))
            (case side4 => exact (Kd.R_reads' HO241.out).2.1)
            (case side5 => repeat (first | exact (Kd.R_reads' HO244.out).2.2 | with_reducible apply cA_|with_reducible apply cN_|with_reducible apply cD_))
            (case side6 => exact (Kd.R_reads' HO244.out).2.1)
            (case side7 => repeat (first | exact (Kd.S_reads' HO261.out).2.2 | with_reducible apply cA_|with_reducible apply cN_|with_reducible apply cD_))
            (case side8 => exact (Kd.S_reads' HO261.out).2.1)
            (case side9 => repeat (first | exact (Kd.R_reads' HO264.out).2.2 | with_reducible apply cA_|with_reducible apply cN_|with_reducible apply cD_))
            (case side10 => exact (Kd.R_reads' HO264.out).2.1)
            (case side11 => repeat (first | exact (Kd.R_reads' HO267.out).2.2 | with_reducible apply cA_|with_reducible apply cN_|with_reducible apply cD_))
            (case side12 => exact (Kd.R_reads' HO267.out).2.1)
            rintro e w119 ⟨rfl, hb⟩
            refine ⟨_, rfl, ?_⟩
            have n0_ := Aside0.mk (Kd.S_below (by (with_reducible repeat first|apply sA_|apply sN_|apply sD_); exact HO206.out) hb)
            have n1_ := Aside0.mk (Kd.R_below (by (with_reducible repeat first|apply rA_|apply rN_|apply rD_); exact HO209.out) hb)
            have n2_ := Aside0.mk (Kd.R_below (by (with_reducible repeat first|apply rA_|apply rN_|apply rD_); exact HO212.out) hb)
            have n3_ := Aside0.mk (Kd.S_below (by (with_reducible repeat first|apply sA_|apply sN_|apply sD_); exact HO216.out) hb)
            have n4_ := Aside0.mk (Kd.R_below (by (with_reducible repeat first|apply rA_|apply rN_|apply rD_); exact HO219.out) hb)
            have n5_ := Aside0.mk (Kd.R_below (by (with_reducible repeat first|apply rA_|apply rN_|apply rD_); exact HO222.out) hb)
            have n6_ := Aside0.mk (Kd.S_below (by (with_reducible repeat first|apply sA_|apply sN_|apply sD_); exact HO227.out) hb)
            have n7_ := Aside0.mk (Kd.R_below (by (with_reducible repeat first|apply rA_|apply rN_|apply rD_); exact HO230.out) hb)
            have n8_ := Aside0.mk (Kd.R_below (by (with_reducible repeat first|apply rA_|apply rN_|apply rD_); exact HO233.out) hb)
            have n9_ := Aside0.mk (Kd.S_below (by (with_reducible repeat first|apply sA_|apply sN_|apply sD_); exact HO238.out) hb)
            have n10_ := Aside0.mk (Kd.R_below (by (with_reducible repeat first|apply rA_|apply rN_|apply rD_); exact HO241.out) hb)
            have n11_ := Aside0.mk (Kd.R_below (by (with_reducible repeat first|apply rA_|apply rN_|apply rD_); exact HO244.out) hb)
            have n12_ := Aside0.mk (Kd.S_below (by (with_reducible repeat first|apply sA_|apply sN_|apply sD_); exact HO250.out) hb)
            have n13_ := Aside0.mk (Kd.R_below (by (with_reducible repeat first|apply rA_|apply rN_|apply rD_); exact HO253.out) hb)
            have n14_ := Aside0.mk (Kd.R_below (by (with_reducible repeat first|apply rA_|apply rN_|apply rD_); exact HO256.out) hb)
            have n15_ := Aside0.mk (Kd.S_below (by (with_reducible repeat first|apply sA_|apply sN_|apply sD_); exact HO261.out) hb)
            have n16_ := Aside0.mk (Kd.R_below (by (with_reducible repeat first|apply rA_|apply rN_|apply rD_); exact HO264.out) hb)
            have n17_ := Aside0.mk (Kd.R_below (by (with_reducible repeat first|apply rA_|apply rN_|apply rD_); exact HO267.out) hb)
            have n18_ := Aside0.mk (blk_below (by (with_reducible repeat first|apply qN_|apply qD_|apply qA_); exact BK200.out) hb)
            have n19_ := Aside0.mk (blk_below (by (with_reducible repeat first|apply qN_|apply qD_|apply qA_); exact BK201.out) hb)
            have n20_ := Aside0.mk (blk_below (by (with_reducible repeat first|apply qN_|apply qD_|apply qA_); exact BK235.out) hb)
            have n21_ := Aside0.mk (blk_below (by (with_reducible repeat first|apply qN_|apply qD_|apply qA_); exact BK246.out) hb)
            have n22_ := Aside0.mk (below_step (by repeat (first | (with_reducible first|exact HB.out|apply vA_|apply vN_|apply vD_ | refine vS_ ?_ GE200.out | refine vS_ ?_ GE201.out | refine vS_ ?_ GE235.out | refine vS_ ?_ GE246.out) | exact HB.out)) hb)
            clear HO206
            clear HO209
            clear HO212
            clear HO216
            clear HO219
            clear HO222
            clear HO227
            clear HO230
            clear HO233
            clear HO238
            clear HO241
            clear HO244
            clear HO250
            clear HO253
            clear HO256
            clear HO261
            clear HO264
            clear HO267
            clear BK200
            clear BK201
            clear BK235
            clear BK246
            clear HB
            have HO206 := n0_
            have HO209 := n1_
            have HO212 := n2_
            have HO216 := n3_
            have HO219 := n4_
            have HO222 := n5_
            have HO227 := n6_
            have HO230 := n7_
            have HO233 := n8_
            have HO238 := n9_
            have HO241 := n10_
            have HO244 := n11_
            have HO250 := n12_
            have HO253 := n13_
            have HO256 := n14_
            have HO261 := n15_
            have HO264 := n16_
            have HO267 := n17_
            have BK200 := n18_
            have BK201 := n19_
            have BK235 := n20_
            have BK246 := n21_
            have HB := n22_
            clear n0_ n1_ n2_ n3_ n4_ n5_ n6_ n7_ n8_ n9_ n10_ n11_ n12_ n13_ n14_ n15_ n16_ n17_ n18_ n19_ n20_ n21_ n22_
            (try clear hb)
            (try clear hb2)
            (try clear hk)
            (try clear hi)
            refine hK.out _ _ ⟨(blk_cell BK246.out 0).trans rfl, (blk_cell BK246.out 1).trans rfl, (blk_cell BK246.out 2).trans rfl, (blk_cell BK246.out 3).trans rfl, (blk_cell BK201.out 0).trans rfl, (blk_cell BK201.out 1).trans rfl, (blk_cell BK201.out 2).trans rfl, (blk_cell BK201.out 3).trans rfl⟩ (fun hHeld => ?_)
            clear hK K
            refine norm_ (a' := ?_) ?_ ?_
            rotate_left
            · show Act.put _ (some 43) _ = _
              simp only [Act.put, List.setIfInBounds_toArray, List.set_cons_zero, List.set_cons_succ, i64_w, i32_w]
              rfl
            refine pure_ (i := 4) (N := some 44) (v := ?_) (a' := ?_) #[true, true, true, true, true] rfl rfl (by kernel_rfl) (fun _ _ _ h => h) (Or.inl ⟨by rfl, ?_⟩) ?_ ?_
            rotate_left
            · intro w'
              go_simp
              with_reducible rfl
            rotate_left
            · simp only [Act.put, List.setIfInBounds_toArray, List.set_cons_zero, List.set_cons_succ, i64_w, i32_w]
              rfl
            refine done_ (by kernel_rfl) ?_
            try go_wp2
            go_ret
            exact ⟨by first | rfl | (simp [errW_none, errW_some] <;> rfl) | (simp [*, errW_none, errW_some] <;> rfl), by repeat (first | (with_reducible first|exact HB.out|apply vA_|apply vN_|apply vD_ | refine vS_ ?_ GE200.out | refine vS_ ?_ GE201.out | refine vS_ ?_ GE235.out | refine vS_ ?_ GE246.out) | exact HB.out)⟩
          · replace c69 := Bool.eq_false_iff.mpr c69
            subst c69
            have H1 : (some false) = some r := by rw [if_neg (show ¬ (false = true) by decide)] at H; exact H
            clear H
            have H := H1
            clear H1
            obtain rfl := Option.some.inj H
            try go_wp2
            have n0_ := Aside0.mk (Kd.S_drew HO206.out)
            have n1_ := Aside0.mk (Kd.R_drew HO209.out)
            have n2_ := Aside0.mk (Kd.R_drew HO212.out)
            have n3_ := Aside0.mk (Kd.S_drew HO216.out)
            have n4_ := Aside0.mk (Kd.R_drew HO219.out)
            have n5_ := Aside0.mk (Kd.R_drew HO222.out)
            have n6_ := Aside0.mk (Kd.S_drew HO227.out)
            have n7_ := Aside0.mk (Kd.R_drew HO230.out)
            have n8_ := Aside0.mk (Kd.R_drew HO233.out)
            have n9_ := Aside0.mk (Kd.S_drew HO238.out)
            have n10_ := Aside0.mk (Kd.R_drew HO241.out)
            have n11_ := Aside0.mk (Kd.R_drew HO244.out)
            have n12_ := Aside0.mk (blk_drew BK200.out)
            have n13_ := Aside0.mk (blk_drew BK201.out)
            have n14_ := Aside0.mk (blk_drew BK235.out)
            have n15_ := Aside0.mk (blk_drew BK246.out)
            have n16_ := Aside0.mk (below_drew1 HB.out)
            clear HO206
            clear HO209
            clear HO212
            clear HO216
            clear HO219
            clear HO222
            clear HO227
            clear HO230
            clear HO233
            clear HO238
            clear HO241
            clear HO244
            clear BK200
            clear BK201
            clear BK235
            clear BK246
            clear HB
            have HO206 := n0_
            have HO209 := n1_
            have HO212 := n2_
            have HO216 := n3_
            have HO219 := n4_
            have HO222 := n5_
            have HO227 := n6_
            have HO230 := n7_
            have HO233 := n8_
            have HO238 := n9_
            have HO241 := n10_
            have HO244 := n11_
            have BK200 := n12_
            have BK201 := n13_
            have BK235 := n14_
            have BK246 := n15_
            have HB := n16_
            clear n0_ n1_ n2_ n3_ n4_ n5_ n6_ n7_ n8_ n9_ n10_ n11_ n12_ n13_ n14_ n15_ n16_
            refine start_ (n := 5) (S := fun w' => w'.cell? ⟨gb235, 0, none⟩ = some (.slice Ao46 t225.length co46) ∧ w'.cell? ⟨gb235, 1, none⟩ = some (.slice Ao50 t228.length co50) ∧ w'.cell? ⟨gb235, 2, none⟩ = some (.slice Ao51 t231.length co51) ∧ w'.cell? ⟨gb235, 3, none⟩ = some (.int .i64 t234) ∧ w'.cell? ⟨gb200, 0, none⟩ = some (.slice A0_0 l0_0.length c0_0) ∧ w'.cell? ⟨gb200, 1, none⟩ = some (.slice A0_1 l0_1.length c0_1) ∧ w'.cell? ⟨gb200, 2, none⟩ = some (.slice A0_2 l0_2.length c0_2) ∧ w'.cell? ⟨gb200, 3, none⟩ = some (.int .i64 a0_3)) (ds := []) #[false, false, false, false, false] (by kernel_rfl) rfl rfl ⟨(blk_cell BK235.out 0).trans rfl, (blk_cell BK235.out 1).trans rfl, (blk_cell BK235.out 2).trans rfl, (blk_cell BK235.out 3).trans rfl, (blk_cell BK200.out 0).trans rfl, (blk_cell BK200.out 1).trans rfl, (blk_cell BK200.out 2).trans rfl, (blk_cell BK200.out 3).trans rfl⟩ (fun hHeld => ?_)
            generalize w63.drew = w158 at HO206 HO209 HO212 HO216 HO219 HO222 HO227 HO230 HO233 HO238 HO241 HO244 BK200 BK201 BK235 BK246 HB hHeld ⊢
            refine take_ (i := 0) (N := some 35) (v := ?_) (a' := ?_) #[true, false, false, false, false] rfl rfl (by kernel_rfl) (fun _ _ _ h => h) (Or.inl ⟨by rfl, ?_⟩) hHeld ?_ ?_
            rotate_left
            · rintro w' ⟨s0, s1, s2, s3, s4, s5, s6, s7⟩
              go_simp
              with_reducible rfl
            rotate_left
            · simp only [Act.put, List.setIfInBounds_toArray, List.set_cons_zero, List.set_cons_succ, i64_w, i32_w]
              rfl
            refine take_ (i := 1) (N := some 36) (v := ?_) (a' := ?_) #[true, true, false, false, false] rfl rfl (by kernel_rfl) (fun _ _ _ h => h) (Or.inl ⟨by rfl, ?_⟩) hHeld ?_ ?_
            rotate_left
            · rintro w' ⟨s0, s1, s2, s3, s4, s5, s6, s7⟩
              go_simp
              with_reducible rfl
            rotate_left
            · simp only [Act.put, List.setIfInBounds_toArray, List.set_cons_zero, List.set_cons_succ, i64_w, i32_w]
              rfl
            refine one_ (i := 2) (N := some 37) #[true, true, true, false, false] rfl rfl (by kernel_rfl) (by decide) (fun K hK => ?_)
            first | refine goes_ Try.func56 (by kernel_rfl) rfl #[.agg #[.slice A0_0 l0_0.length c0_0, .slice A0_1 l0_1.length c0_1, .slice A0_2 l0_2.length c0_2, .int .i64 a0_3]] (by rfl) rfl rfl (by (try simp only [List.map_toArray, List.map_cons, List.map_nil]); first | done | rfl | (simp only [List.length_drop, List.length_take]; rfl)) ?_ | refine goesV_ Try.func56 (by kernel_rfl) rfl #[.agg #[.slice A0_0 l0_0.length c0_0, .slice A0_1 l0_1.length c0_1, .slice A0_2 l0_2.length c0_2, .int .i64 a0_3]] (by rfl) rfl rfl (by rfl) (by first | rfl | (simp only [List.map_toArray, List.map_cons, List.map_nil]; rfl)) ?_
            with_reducible refine (laws_toState.calls k _ _ l0_0 _ _ l0_1 _ _ l0_2 a0_3 t248 t251 t254 t257 _ ?side1 ?side2 ?side3 ?side4 ?side5 ?side6 A64.out).mono ?_
            (case side1 => repeat (first | exact (Kd.C_below HR0_0.out HB.out) | with_reducible apply cA_|with_reducible apply cN_|with_reducible apply cD_))
            (case side2 => exact HC0_0.out)
            (case side3 => repeat (first | exact (Kd.C_below HR0_1.out HB.out) | with_reducible apply cA_|with_reducible apply cN_|with_reducible apply cD_))
            (case side4 => exact HC0_1.out)
            (case side5 => repeat (first | exact (Kd.C_below HR0_2.out HB.out) | with_reducible apply cA_|with_reducible apply cN_|with_reducible apply cD_))
            (case side6 => exact HC0_2.out)
            rintro e w159 ⟨v249, v252, v255, rfl, ho0, ho1, ho2, hb⟩
            refine ⟨_, rfl, ?_⟩
            have n0_ := Aside0.mk (Kd.S_mono (Kd.S_told (Kd.S_told (Kd.S_old (by (with_reducible repeat first|apply sA_|apply sN_|apply sD_); exact HO206.out) hb) (by first | exact Kd.S_base ho0 | exact Kd.R_base ho0)) (by first | exact Kd.R_base ho1 | exact Kd.S_base ho1 | exact Kd.R_base ho1)) (fun _ h_ => h_.1))
            have n1_ := Aside0.mk (Kd.R_elder' (by (with_reducible repeat first|apply rA_|apply rN_|apply rD_); exact HO209.out) (by first | exact Kd.R_base ho1 | exact Kd.S_base ho1 | exact Kd.R_base ho1) hb)
            have n2_ := Aside0.mk (Kd.R_elder' (by (with_reducible repeat first|apply rA_|apply rN_|apply rD_); exact HO212.out) (by first | exact Kd.R_base ho2 | exact Kd.S_base ho2 | exact Kd.R_base ho2) hb)
            have n3_ := Aside0.mk (Kd.S_mono (Kd.S_told (Kd.S_told (Kd.S_old (by (with_reducible repeat first|apply sA_|apply sN_|apply sD_); exact HO216.out) hb) (by first | exact Kd.S_base ho0 | exact Kd.R_base ho0)) (by first | exact Kd.R_base ho1 | exact Kd.S_base ho1 | exact Kd.R_base ho1)) (fun _ h_ => h_.1))
            have n4_ := Aside0.mk (Kd.R_elder' (by (with_reducible repeat first|apply rA_|apply rN_|apply rD_); exact HO219.out) (by first | exact Kd.R_base ho1 | exact Kd.S_base ho1 | exact Kd.R_base ho1) hb)
            have n5_ := Aside0.mk (Kd.R_elder' (by (with_reducible repeat first|apply rA_|apply rN_|apply rD_); exact HO222.out) (by first | exact Kd.R_base ho2 | exact Kd.S_base ho2 | exact Kd.R_base ho2) hb)
            have n6_ := Aside0.mk (Kd.S_mono (Kd.S_told (Kd.S_told (Kd.S_old (by (with_reducible repeat first|apply sA_|apply sN_|apply sD_); exact HO227.out) hb) (by first | exact Kd.S_base ho0 | exact Kd.R_base ho0)) (by first | exact Kd.R_base ho1 | exact Kd.S_base ho1 | exact Kd.R_base ho1)) (fun _ h_ => h_.1))
            have n7_ := Aside0.mk (Kd.R_elder' (by (with_reducible repeat first|apply rA_|apply rN_|apply rD_); exact HO230.out) (by first | exact Kd.R_base ho1 | exact Kd.S_base ho1 | exact Kd.R_base ho1) hb)
            have n8_ := Aside0.mk (Kd.R_elder' (by (with_reducible repeat first|apply rA_|apply rN_|apply rD_); exact HO233.out) (by first | exact Kd.R_base ho2 | exact Kd.S_base ho2 | exact Kd.R_base ho2) hb)
            have n9_ := Aside0.mk (Kd.S_mono (Kd.S_told (Kd.S_told (Kd.S_old (by (with_reducible repeat first|apply sA_|apply sN_|apply sD_); exact HO238.out) hb) (by first | exact Kd.S_base ho0 | exact Kd.R_base ho0)) (by first | exact Kd.R_base ho1 | exact Kd.S_base ho1 | exact Kd.R_base ho1)) (fun _ h_ => h_.1))
            have n10_ := Aside0.mk (Kd.R_elder' (by (with_reducible repeat first|apply rA_|apply rN_|apply rD_); exact HO241.out) (by first | exact Kd.R_base ho1 | exact Kd.S_base ho1 | exact Kd.R_base ho1) hb)
            have n11_ := Aside0.mk (Kd.R_elder' (by (with_reducible repeat first|apply rA_|apply rN_|apply rD_); exact HO244.out) (by first | exact Kd.R_base ho2 | exact Kd.S_base ho2 | exact Kd.R_base ho2) hb)
            have n12_ := Aside0.mk (Kd.S_lower (Kd.S_new' (Kd.S_new' (Kd.S_new' (Kd.S_new' (Kd.S_new' (Kd.S_new' (Kd.S_new' (Kd.S_new' ho0 (Kd.S_lt (by (with_reducible repeat first|apply sA_|apply sN_|apply sD_); exact HO206.out))) (Kd.R_lt (by (with_reducible repeat first|apply rA_|apply rN_|apply rD_); exact HO209.out))) (Kd.S_lt (by (with_reducible repeat first|apply sA_|apply sN_|apply sD_); exact HO216.out))) (Kd.R_lt (by (with_reducible repeat first|apply rA_|apply rN_|apply rD_); exact HO219.out))) (Kd.S_lt (by (with_reducible repeat first|apply sA_|apply sN_|apply sD_); exact HO227.out))) (Kd.R_lt (by (with_reducible repeat first|apply rA_|apply rN_|apply rD_); exact HO230.out))) (Kd.S_lt (by (with_reducible repeat first|apply sA_|apply sN_|apply sD_); exact HO238.out))) (Kd.R_lt (by (with_reducible repeat first|apply rA_|apply rN_|apply rD_); exact HO241.out))) (below_size (by repeat (first | (with_reducible first|exact HB.out|apply vA_|apply vN_|apply vD_ | refine vS_ ?_ GE200.out | refine vS_ ?_ GE201.out | refine vS_ ?_ GE235.out | refine vS_ ?_ GE246.out) | exact HB.out))))
            have n13_ := Aside0.mk (Kd.R_lower (Kd.R_new' (Kd.R_new' (Kd.R_new' (Kd.R_new' ho1 (Kd.R_lt (by (with_reducible repeat first|apply rA_|apply rN_|apply rD_); exact HO209.out))) (Kd.R_lt (by (with_reducible repeat first|apply rA_|apply rN_|apply rD_); exact HO219.out))) (Kd.R_lt (by (with_reducible repeat first|apply rA_|apply rN_|apply rD_); exact HO230.out))) (Kd.R_lt (by (with_reducible repeat first|apply rA_|apply rN_|apply rD_); exact HO241.out))) (below_size (by repeat (first | (with_reducible first|exact HB.out|apply vA_|apply vN_|apply vD_ | refine vS_ ?_ GE200.out | refine vS_ ?_ GE201.out | refine vS_ ?_ GE235.out | refine vS_ ?_ GE246.out) | exact HB.out))))
            have n14_ := Aside0.mk (Kd.R_lower (Kd.R_new' (Kd.R_new' (Kd.R_new' (Kd.R_new' ho2 (Kd.R_lt (by (with_reducible repeat first|apply rA_|apply rN_|apply rD_); exact HO212.out))) (Kd.R_lt (by (with_reducible repeat first|apply rA_|apply rN_|apply rD_); exact HO222.out))) (Kd.R_lt (by (with_reducible repeat first|apply rA_|apply rN_|apply rD_); exact HO233.out))) (Kd.R_lt (by (with_reducible repeat first|apply rA_|apply rN_|apply rD_); exact HO244.out))) (below_size (by repeat (first | (with_reducible first|exact HB.out|apply vA_|apply vN_|apply vD_ | refine vS_ ?_ GE200.out | refine vS_ ?_ GE201.out | refine vS_ ?_ GE235.out | refine vS_ ?_ GE246.out) | exact HB.out))))
            have n15_ := Aside0.mk (blk_below (by (with_reducible repeat first|apply qN_|apply qD_|apply qA_); exact BK200.out) hb)
            have n16_ := Aside0.mk (blk_below (by (with_reducible repeat first|apply qN_|apply qD_|apply qA_); exact BK201.out) hb)
            have n17_ := Aside0.mk (blk_below (by (with_reducible repeat first|apply qN_|apply qD_|apply qA_); exact BK235.out) hb)
            have n18_ := Aside0.mk (blk_below (by (with_reducible repeat first|apply qN_|apply qD_|apply qA_); exact BK246.out) hb)
            have n19_ := Aside0.mk (below_step (by repeat (first | (with_reducible first|exact HB.out|apply vA_|apply vN_|apply vD_ | refine vS_ ?_ GE200.out | refine vS_ ?_ GE201.out | refine vS_ ?_ GE235.out | refine vS_ ?_ GE246.out) | exact HB.out)) hb)
            clear HO206
            clear HO209
            clear HO212
            clear HO216
            clear HO219
            clear HO222
            clear HO227
            clear HO230
            clear HO233
            clear HO238
            clear HO241
            clear HO244
            clear BK200
            clear BK201
            clear BK235
            clear BK246
            clear HB
            have HO206 := n0_
            have HO209 := n1_
            have HO212 := n2_
            have HO216 := n3_
            have HO219 := n4_
            have HO222 := n5_
            have HO227 := n6_
            have HO230 := n7_
            have HO233 := n8_
            have HO238 := n9_
            have HO241 := n10_
            have HO244 := n11_
            have HO250 := n12_
            have HO253 := n13_
            have HO256 := n14_
            have BK200 := n15_
            have BK201 := n16_
            have BK235 := n17_
            have BK246 := n18_
            have HB := n19_
            clear n0_ n1_ n2_ n3_ n4_ n5_ n6_ n7_ n8_ n9_ n10_ n11_ n12_ n13_ n14_ n15_ n16_ n17_ n18_ n19_
            (try clear hb)
            (try clear hb2)
            (try clear hk)
            (try clear hi)
            (try clear ho0)
            (try clear ho1)
            (try clear ho2)
            obtain ⟨Ao160, co160, eo160⟩ := Kd.S_slice HO250.out
            (first | subst eo160 | (injection eo160 with f1_ f2_ f3_; have f4_ := f1_.symm; have f5_ := f3_.symm; clear f1_ f2_ f3_; subst f4_; subst f5_))
            obtain ⟨Ao161, co161, eo161⟩ := Kd.R_slice HO253.out
            (first | subst eo161 | (injection eo161 with f1_ f2_ f3_; have f4_ := f1_.symm; have f5_ := f3_.symm; clear f1_ f2_ f3_; subst f4_; subst f5_))
            obtain ⟨Ao162, co162, eo162⟩ := Kd.R_slice HO256.out
            (first | subst eo162 | (injection eo162 with f1_ f2_ f3_; have f4_ := f1_.symm; have f5_ := f3_.symm; clear f1_ f2_ f3_; subst f4_; subst f5_))
            refine hK.out _ _ ⟨(blk_cell BK235.out 0).trans rfl, (blk_cell BK235.out 1).trans rfl, (blk_cell BK235.out 2).trans rfl, (blk_cell BK235.out 3).trans rfl, (blk_cell BK200.out 0).trans rfl, (blk_cell BK200.out 1).trans rfl, (blk_cell BK200.out 2).trans rfl, (blk_cell BK200.out 3).trans rfl⟩ (fun hHeld => ?_)
            clear hK K
            refine norm_ (a' := ?_) ?_ ?_
            rotate_left
            · show Act.put _ (some 37) _ = _
              simp only [Act.put, List.setIfInBounds_toArray, List.set_cons_zero, List.set_cons_succ, i64_w, i32_w]
              rfl
            refine one_ (i := 3) (N := some 38) #[true, true, true, true, false] rfl rfl (by kernel_rfl) (by decide) (fun K hK => ?_)
            first | refine goes_ Try.func58 (by kernel_rfl) rfl #[.agg #[.slice Ao46 t225.length co46, .slice Ao50 t228.length co50, .slice Ao51 t231.length co51, .int .i64 t234], .agg #[.slice Ao160 t248.length co160, .slice Ao161 t251.length co161, .slice Ao162 t254.length co162, .int .i64 t257]] (by rfl) rfl rfl (by (try simp only [List.map_toArray, List.map_cons, List.map_nil]); first | done | rfl | (simp only [List.length_drop, List.length_take]; rfl)) ?_ | refine goesV_ Try.func58 (by kernel_rfl) rfl #[.agg #[.slice Ao46 t225.length co46, .slice Ao50 t228.length co50, .slice Ao51 t231.length co51, .int .i64 t234], .agg #[.slice Ao160 t248.length co160, .slice Ao161 t251.length co161, .slice Ao162 t254.length co162, .int .i64 t257]] (by rfl) rfl rfl (by rfl) (by first | rfl | (simp only [List.map_toArray, List.map_cons, List.map_nil]; rfl)) ?_
            with_reducible refine (laws_eqState.calls k _ _ t225 _ _ t228 _ _ t231 t234 _ _ t248 _ _ t251 _ _ t254 t257 true _ ?side1 ?side2 ?side3 ?side4 ?side5 ?side6 ?side7 ?side8 ?side9 ?side10 ?side11 ?side12 A65.out).mono ?_
            (case side1 => repeat (first | exact (Kd.S_reads' HO227.out).2.2 | with_reducible apply cA_|with_reducible apply cN_|with_reducible apply cD_))
            (case side2 => exact (Kd.S_reads' HO227.out).2.1)
            (case side3 => repeat (first | exact (Kd.R_reads' HO230.out).2.2 | with_reducible apply cA_|with_reducible apply cN_|with_reducible apply cD_))
            (case side4 => exact (Kd.R_reads' HO230.out).2.1)
            (case side5 => repeat (first | exact (Kd.R_reads' HO233.out).2.2 | with_reducible apply cA_|with_reducible apply cN_|with_reducible apply cD_))
            (case side6 => exact (Kd.R_reads' HO233.out).2.1)
            (case side7 => repeat (first | exact (Kd.S_reads' HO250.out).2.2 | with_reducible apply cA_|with_reducible apply cN_|with_reducible apply cD_))
            (case side8 => exact (Kd.S_reads' HO250.out).2.1)
            (case side9 => repeat (first | exact (Kd.R_reads' HO253.out).2.2 | with_reducible apply cA_|with_reducible apply cN_|with_reducible apply cD_))
            (case side10 => exact (Kd.R_reads' HO253.out).2.1)
            (case side11 => repeat (first | exact (Kd.R_reads' HO256.out).2.2 | with_reducible apply cA_|with_reducible apply cN_|with_reducible apply cD_))
            (case side12 => exact (Kd.R_reads' HO256.out).2.1)
            rintro e w163 ⟨rfl, hb⟩
            refine ⟨_, rfl, ?_⟩
            have n0_ := Aside0.mk (Kd.S_below (by (with_reducible repeat first|apply sA_|apply sN_|apply sD_); exact HO206.out) hb)
            have n1_ := Aside0.mk (Kd.R_below (by (with_reducible repeat first|apply rA_|apply rN_|apply rD_); exact HO209.out) hb)
            have n2_ := Aside0.mk (Kd.R_below (by (with_reducible repeat first|apply rA_|apply rN_|apply rD_); exact HO212.out) hb)
            have n3_ := Aside0.mk (Kd.S_below (by (with_reducible repeat first|apply sA_|apply sN_|apply sD_); exact HO216.out) hb)
            have n4_ := Aside0.mk (Kd.R_below (by (with_reducible repeat first|apply rA_|apply rN_|apply rD_); exact HO219.out) hb)
            have n5_ := Aside0.mk (Kd.R_below (by (with_reducible repeat first|apply rA_|apply rN_|apply rD_); exact HO222.out) hb)
            have n6_ := Aside0.mk (Kd.S_below (by (with_reducible repeat first|apply sA_|apply sN_|apply sD_); exact HO227.out) hb)
            have n7_ := Aside0.mk (Kd.R_below (by (with_reducible repeat first|apply rA_|apply rN_|apply rD_); exact HO230.out) hb)
            have n8_ := Aside0.mk (Kd.R_below (by (with_reducible repeat first|apply rA_|apply rN_|apply rD_); exact HO233.out) hb)
            have n9_ := Aside0.mk (Kd.S_below (by (with_reducible repeat first|apply sA_|apply sN_|apply sD_); exact HO238.out) hb)
            have n10_ := Aside0.mk (Kd.R_below (by (with_reducible repeat first|apply rA_|apply rN_|apply rD_); exact HO241.out) hb)
            have n11_ := Aside0.mk (Kd.R_below (by (with_reducible repeat first|apply rA_|apply rN_|apply rD_); exact HO244.out) hb)
            have n12_ := Aside0.mk (Kd.S_below (by (with_reducible repeat first|apply sA_|apply sN_|apply sD_); exact HO250.out) hb)
            have n13_ := Aside0.mk (Kd.R_below (by (with_reducible repeat first|apply rA_|apply rN_|apply rD_); exact HO253.out) hb)
            have n14_ := Aside0.mk (Kd.R_below (by (with_reducible repeat first|apply rA_|apply rN_|apply rD_); exact HO256.out) hb)
            have n15_ := Aside0.mk (blk_below (by (with_reducible repeat first|apply qN_|apply qD_|apply qA_); exact BK200.out) hb)
            have n16_ := Aside0.mk (blk_below (by (with_reducible repeat first|apply qN_|apply qD_|apply qA_); exact BK201.out) hb)
            have n17_ := Aside0.mk (blk_below (by (with_reducible repeat first|apply qN_|apply qD_|apply qA_); exact BK235.out) hb)
            have n18_ := Aside0.mk (blk_below (by (with_reducible repeat first|apply qN_|apply qD_|apply qA_); exact BK246.out) hb)
            have n19_ := Aside0.mk (below_step (by repeat (first | (with_reducible first|exact HB.out|apply vA_|apply vN_|apply vD_ | refine vS_ ?_ GE200.out | refine vS_ ?_ GE201.out | refine vS_ ?_ GE235.out | refine vS_ ?_ GE246.out) | exact HB.out)) hb)
            clear HO206
            clear HO209
            clear HO212
            clear HO216
            clear HO219
            clear HO222
            clear HO227
            clear HO230
            clear HO233
            clear HO238
            clear HO241
            clear HO244
            clear HO250
            clear HO253
            clear HO256
            clear BK200
            clear BK201
            clear BK235
            clear BK246
            clear HB
            have HO206 := n0_
            have HO209 := n1_
            have HO212 := n2_
            have HO216 := n3_
            have HO219 := n4_
            have HO222 := n5_
            have HO227 := n6_
            have HO230 := n7_
            have HO233 := n8_
            have HO238 := n9_
            have HO241 := n10_
            have HO244 := n11_
            have HO250 := n12_
            have HO253 := n13_
            have HO256 := n14_
            have BK200 := n15_
            have BK201 := n16_
            have BK235 := n17_
            have BK246 := n18_
            have HB := n19_
            clear n0_ n1_ n2_ n3_ n4_ n5_ n6_ n7_ n8_ n9_ n10_ n11_ n12_ n13_ n14_ n15_ n16_ n17_ n18_ n19_
            (try clear hb)
            (try clear hb2)
            (try clear hk)
            (try clear hi)
            refine hK.out _ _ ⟨(blk_cell BK235.out 0).trans rfl, (blk_cell BK235.out 1).trans rfl, (blk_cell BK235.out 2).trans rfl, (blk_cell BK235.out 3).trans rfl, (blk_cell BK200.out 0).trans rfl, (blk_cell BK200.out 1).trans rfl, (blk_cell BK200.out 2).trans rfl, (blk_cell BK200.out 3).trans rfl⟩ (fun hHeld => ?_)
            clear hK K
            refine norm_ (a' := ?_) ?_ ?_
            rotate_left
            · show Act.put _ (some 38) _ = _
              simp only [Act.put, List.setIfInBounds_toArray, List.set_cons_zero, List.set_cons_succ, i64_w, i32_w]
              rfl
            refine pure_ (i := 4) (N := some 39) (v := ?_) (a' := ?_) #[true, true, true, true, true] rfl rfl (by kernel_rfl) (fun _ _ _ h => h) (Or.inl ⟨by rfl, ?_⟩) ?_ ?_
            rotate_left
            · intro w'
              go_simp
              with_reducible rfl
            rotate_left
            · simp only [Act.put, List.setIfInBounds_toArray, List.set_cons_zero, List.set_cons_succ, i64_w, i32_w]
              rfl
            refine done_ (by kernel_rfl) ?_
            try go_wp2
            have n0_ := Aside0.mk (Kd.S_drew HO206.out)
            have n1_ := Aside0.mk (Kd.R_drew HO209.out)
            have n2_ := Aside0.mk (Kd.R_drew HO212.out)
            have n3_ := Aside0.mk (Kd.S_drew HO216.out)
            have n4_ := Aside0.mk (Kd.R_drew HO219.out)
            have n5_ := Aside0.mk (Kd.R_drew HO222.out)
            have n6_ := Aside0.mk (Kd.S_drew HO227.out)
            have n7_ := Aside0.mk (Kd.R_drew HO230.out)
            have n8_ := Aside0.mk (Kd.R_drew HO233.out)
            have n9_ := Aside0.mk (Kd.S_drew HO238.out)
            have n10_ := Aside0.mk (Kd.R_drew HO241.out)
            have n11_ := Aside0.mk (Kd.R_drew HO244.out)
            have n12_ := Aside0.mk (Kd.S_drew HO250.out)
            have n13_ := Aside0.mk (Kd.R_drew HO253.out)
            have n14_ := Aside0.mk (Kd.R_drew HO256.out)
            have n15_ := Aside0.mk (blk_drew BK200.out)
            have n16_ := Aside0.mk (blk_drew BK201.out)
            have n17_ := Aside0.mk (blk_drew BK235.out)
            have n18_ := Aside0.mk (blk_drew BK246.out)
            have n19_ := Aside0.mk (below_drew1 HB.out)
            clear HO206
            clear HO209
            clear HO212
            clear HO216
            clear HO219
            clear HO222
            clear HO227
            clear HO230
            clear HO233
            clear HO238
            clear HO241
            clear HO244
            clear HO250
            clear HO253
            clear HO256
            clear BK200
            clear BK201
            clear BK235
            clear BK246
            clear HB
            have HO206 := n0_
            have HO209 := n1_
            have HO212 := n2_
            have HO216 := n3_
            have HO219 := n4_
            have HO222 := n5_
            have HO227 := n6_
            have HO230 := n7_
            have HO233 := n8_
            have HO238 := n9_
            have HO241 := n10_
            have HO244 := n11_
            have HO250 := n12_
            have HO253 := n13_
            have HO256 := n14_
            have BK200 := n15_
            have BK201 := n16_
            have BK235 := n17_
            have BK246 := n18_
            have HB := n19_
            clear n0_ n1_ n2_ n3_ n4_ n5_ n6_ n7_ n8_ n9_ n10_ n11_ n12_ n13_ n14_ n15_ n16_ n17_ n18_ n19_
            refine start_ (n := 5) (S := fun w' => w'.cell? ⟨gb246, 0, none⟩ = some (.slice Ao55 t236.length co55) ∧ w'.cell? ⟨gb246, 1, none⟩ = some (.slice Ao60 t239.length co60) ∧ w'.cell? ⟨gb246, 2, none⟩ = some (.slice Ao61 t242.length co61) ∧ w'.cell? ⟨gb246, 3, none⟩ = some (.int .i64 t245) ∧ w'.cell? ⟨gb201, 0, none⟩ = some (.slice A1_0 l1_0.length c1_0) ∧ w'.cell? ⟨gb201, 1, none⟩ = some (.slice A1_1 l1_1.length c1_1) ∧ w'.cell? ⟨gb201, 2, none⟩ = some (.slice A1_2 l1_2.length c1_2) ∧ w'.cell? ⟨gb201, 3, none⟩ = some (.int .i64 a1_3)) (ds := []) #[false, false, false, false, false] (by kernel_rfl) rfl rfl ⟨(blk_cell BK246.out 0).trans rfl, (blk_cell BK246.out 1).trans rfl, (blk_cell BK246.out 2).trans rfl, (blk_cell BK246.out 3).trans rfl, (blk_cell BK201.out 0).trans rfl, (blk_cell BK201.out 1).trans rfl, (blk_cell BK201.out 2).trans rfl, (blk_cell BK201.out 3).trans rfl⟩ (fun hHeld => ?_)
            generalize w163.drew = w164 at HO206 HO209 HO212 HO216 HO219 HO222 HO227 HO230 HO233 HO238 HO241 HO244 HO250 HO253 HO256 BK200 BK201 BK235 BK246 HB hHeld ⊢
            refine take_ (i := 0) (N := some 40) (v := ?_) (a' := ?_) #[true, false, false, false, false] rfl rfl (by kernel_rfl) (fun _ _ _ h => h) (Or.inl ⟨by rfl, ?_⟩) hHeld ?_ ?_
            rotate_left
            · rintro w' ⟨s0, s1, s2, s3, s4, s5, s6, s7⟩
              go_simp
              with_reducible rfl
            rotate_left
            · simp only [Act.put, List.setIfInBounds_toArray, List.set_cons_zero, List.set_cons_succ, i64_w, i32_w]
              rfl
            refine take_ (i := 1) (N := some 41) (v := ?_) (a' := ?_) #[true, true, false, false, false] rfl rfl (by kernel_rfl) (fun _ _ _ h => h) (Or.inl ⟨by rfl, ?_⟩) hHeld ?_ ?_
            rotate_left
            · rintro w' ⟨s0, s1, s2, s3, s4, s5, s6, s7⟩
              go_simp
              with_reducible rfl
            rotate_left
            · simp only [Act.put, List.setIfInBounds_toArray, List.set_cons_zero, List.set_cons_succ, i64_w, i32_w]
              rfl
            refine one_ (i := 2) (N := some 42) #[true, true, true, false, false] rfl rfl (by kernel_rfl) (by decide) (fun K hK => ?_)
            first | refine goes_ Try.func56 (by kernel_rfl) rfl #[.agg #[.slice A1_0 l1_0.length c1_0, .slice A1_1 l1_1.length c1_1, .slice A1_2 l1_2.length c1_2, .int .i64 a1_3]] (by rfl) rfl rfl (by (try simp only [List.map_toArray, List.map_cons, List.map_nil]); first | done | rfl | (simp only [List.length_drop, List.length_take]; rfl)) ?_ | refine goesV_ Try.func56 (by kernel_rfl) rfl #[.agg #[.slice A1_0 l1_0.length c1_0, .slice A1_1 l1_1.length c1_1, .slice A1_2 l1_2.length c1_2, .int .i64 a1_3]] (by rfl) rfl rfl (by rfl) (by first | rfl | (simp only [List.map_toArray, List.map_cons, List.map_nil]; rfl)) ?_
            with_reducible refine (laws_toState.calls k _ _ l1_0 _ _ l1_1 _ _ l1_2 a1_3 t259 t262 t265 t268 _ ?side1 ?side2 ?side3 ?side4 ?side5 ?side6 A67.out).mono ?_
            (case side1 => repeat (first | exact (Kd.C_below HR1_0.out HB.out) | with_reducible apply cA_|with_reducible apply cN_|with_reducible apply cD_))
            (case side2 => exact HC1_0.out)
            (case side3 => repeat (first | exact (Kd.C_below HR1_1.out HB.out) | with_reducible apply cA_|with_reducible apply cN_|with_reducible apply cD_))
            (case side4 => exact HC1_1.out)
            (case side5 => repeat (first | exact (Kd.C_below HR1_2.out HB.out) | with_reducible apply cA_|with_reducible apply cN_|with_reducible apply cD_))
            (case side6 => exact HC1_2.out)
            rintro e w165 ⟨v260, v263, v266, rfl, ho0, ho1, ho2, hb⟩
            refine ⟨_, rfl, ?_⟩
            have n0_ := Aside0.mk (Kd.S_mono (Kd.S_told (Kd.S_told (Kd.S_old (by (with_reducible repeat first|apply sA_|apply sN_|apply sD_); exact HO206.out) hb) (by first | exact Kd.S_base ho0 | exact Kd.R_base ho0)) (by first | exact Kd.R_base ho1 | exact Kd.S_base ho1 | exact Kd.R_base ho1)) (fun _ h_ => h_.1))
            have n1_ := Aside0.mk (Kd.R_elder' (by (with_reducible repeat first|apply rA_|apply rN_|apply rD_); exact HO209.out) (by first | exact Kd.R_base ho1 | exact Kd.S_base ho1 | exact Kd.R_base ho1) hb)
            have n2_ := Aside0.mk (Kd.R_elder' (by (with_reducible repeat first|apply rA_|apply rN_|apply rD_); exact HO212.out) (by first | exact Kd.R_base ho2 | exact Kd.S_base ho2 | exact Kd.R_base ho2) hb)
            have n3_ := Aside0.mk (Kd.S_mono (Kd.S_told (Kd.S_told (Kd.S_old (by (with_reducible repeat first|apply sA_|apply sN_|apply sD_); exact HO216.out) hb) (by first | exact Kd.S_base ho0 | exact Kd.R_base ho0)) (by first | exact Kd.R_base ho1 | exact Kd.S_base ho1 | exact Kd.R_base ho1)) (fun _ h_ => h_.1))
            have n4_ := Aside0.mk (Kd.R_elder' (by (with_reducible repeat first|apply rA_|apply rN_|apply rD_); exact HO219.out) (by first | exact Kd.R_base ho1 | exact Kd.S_base ho1 | exact Kd.R_base ho1) hb)
            have n5_ := Aside0.mk (Kd.R_elder' (by (with_reducible repeat first|apply rA_|apply rN_|apply rD_); exact HO222.out) (by first | exact Kd.R_base ho2 | exact Kd.S_base ho2 | exact Kd.R_base ho2) hb)
            have n6_ := Aside0.mk (Kd.S_mono (Kd.S_told (Kd.S_told (Kd.S_old (by (with_reducible repeat first|apply sA_|apply sN_|apply sD_); exact HO227.out) hb) (by first | exact Kd.S_base ho0 | exact Kd.R_base ho0)) (by first | exact Kd.R_base ho1 | exact Kd.S_base ho1 | exact Kd.R_base ho1)) (fun _ h_ => h_.1))
            have n7_ := Aside0.mk (Kd.R_elder' (by (with_reducible repeat first|apply rA_|apply rN_|apply rD_); exact HO230.out) (by first | exact Kd.R_base ho1 | exact Kd.S_base ho1 | exact Kd.R_base ho1) hb)
            have n8_ := Aside0.mk (Kd.R_elder' (by (with_reducible repeat first|apply rA_|apply rN_|apply rD_); exact HO233.out) (by first | exact Kd.R_base ho2 | exact Kd.S_base ho2 | exact Kd.R_base ho2) hb)
            have n9_ := Aside0.mk (Kd.S_mono (Kd.S_told (Kd.S_told (Kd.S_old (by (with_reducible repeat first|apply sA_|apply sN_|apply sD_); exact HO238.out) hb) (by first | exact Kd.S_base ho0 | exact Kd.R_base ho0)) (by first | exact Kd.R_base ho1 | exact Kd.S_base ho1 | exact Kd.R_base ho1)) (fun _ h_ => h_.1))
            have n10_ := Aside0.mk (Kd.R_elder' (by (with_reducible repeat first|apply rA_|apply rN_|apply rD_); exact HO241.out) (by first | exact Kd.R_base ho1 | exact Kd.S_base ho1 | exact Kd.R_base ho1) hb)
            have n11_ := Aside0.mk (Kd.R_elder' (by (with_reducible repeat first|apply rA_|apply rN_|apply rD_); exact HO244.out) (by first | exact Kd.R_base ho2 | exact Kd.S_base ho2 | exact Kd.R_base ho2) hb)
            have n12_ := Aside0.mk (Kd.S_mono (Kd.S_told (Kd.S_told (Kd.S_old (by (with_reducible repeat first|apply sA_|apply sN_|apply sD_); exact HO250.out) hb) (by first | exact Kd.S_base ho0 | exact Kd.R_base ho0)) (by first | exact Kd.R_base ho1 | exact Kd.S_base ho1 | exact Kd.R_base ho1)) (fun _ h_ => h_.1))
            have n13_ := Aside0.mk (Kd.R_elder' (by (with_reducible repeat first|apply rA_|apply rN_|apply rD_); exact HO253.out) (by first | exact Kd.R_base ho1 | exact Kd.S_base ho1 | exact Kd.R_base ho1) hb)
            have n14_ := Aside0.mk (Kd.R_elder' (by (with_reducible repeat first|apply rA_|apply rN_|apply rD_); exact HO256.out) (by first | exact Kd.R_base ho2 | exact Kd.S_base ho2 | exact Kd.R_base ho2) hb)
            have n15_ := Aside0.mk (Kd.S_lower (Kd.S_new' (Kd.S_new' (Kd.S_new' (Kd.S_new' (Kd.S_new' (Kd.S_new' (Kd.S_new' (Kd.S_new' (Kd.S_new' (Kd.S_new' ho0 (Kd.S_lt (by (with_reducible repeat first|apply sA_|apply sN_|apply sD_); exact HO206.out))) (Kd.R_lt (by (with_reducible repeat first|apply rA_|apply rN_|apply rD_); exact HO209.out))) (Kd.S_lt (by (with_reducible repeat first|apply sA_|apply sN_|apply sD_); exact HO216.out))) (Kd.R_lt (by (with_reducible repeat first|apply rA_|apply rN_|apply rD_); exact HO219.out))) (Kd.S_lt (by (with_reducible repeat first|apply sA_|apply sN_|apply sD_); exact HO227.out))) (Kd.R_lt (by (with_reducible repeat first|apply rA_|apply rN_|apply rD_); exact HO230.out))) (Kd.S_lt (by (with_reducible repeat first|apply sA_|apply sN_|apply sD_); exact HO238.out))) (Kd.R_lt (by (with_reducible repeat first|apply rA_|apply rN_|apply rD_); exact HO241.out))) (Kd.S_lt (by (with_reducible repeat first|apply sA_|apply sN_|apply sD_); exact HO250.out))) (Kd.R_lt (by (with_reducible repeat first|apply rA_|apply rN_|apply rD_); exact HO253.out))) (below_size (by repeat (first | (with_reducible first|exact HB.out|apply vA_|apply vN_|apply vD_ | refine vS_ ?_ GE200.out | refine vS_ ?_ GE201.out | refine vS_ ?_ GE235.out | refine vS_ ?_ GE246.out) | exact HB.out))))
            have n16_ := Aside0.mk (Kd.R_lower (Kd.R_new' (Kd.R_new' (Kd.R_new' (Kd.R_new' (Kd.R_new' ho1 (Kd.R_lt (by (with_reducible repeat first|apply rA_|apply rN_|apply rD_); exact HO209.out))) (Kd.R_lt (by (with_reducible repeat first|apply rA_|apply rN_|apply rD_); exact HO219.out))) (Kd.R_lt (by (with_reducible repeat first|apply rA_|apply rN_|apply rD_); exact HO230.out))) (Kd.R_lt (by (with_reducible repeat first|apply rA_|apply rN_|apply rD_); exact HO241.out))) (Kd.R_lt (by (with_reducible repeat first|apply rA_|apply rN_|apply rD_); exact HO253.out))) (below_size (by repeat (first | (with_reducible first|exact HB.out|apply vA_|apply vN_|apply vD_ | refine vS_ ?_ GE200.out | refine vS_ ?_ GE201.out | refine vS_ ?_ GE235.out | refine vS_ ?_ GE246.out) | exact HB.out))))
            have n17_ := Aside0.mk (Kd.R_lower (Kd.R_new' (Kd.R_new' (Kd.R_new' (Kd.R_new' (Kd.R_new' ho2 (Kd.R_lt (by (with_reducible repeat first|apply rA_|apply rN_|apply rD_); exact HO212.out))) (Kd.R_lt (by (with_reducible repeat first|apply rA_|apply rN_|apply rD_); exact HO222.out))) (Kd.R_lt (by (with_reducible repeat first|apply rA_|apply rN_|apply rD_); exact HO233.out))) (Kd.R_lt (by (with_reducible repeat first|apply rA_|apply rN_|apply rD_); exact HO244.out))) (Kd.R_lt (by (with_reducible repeat first|apply rA_|apply rN_|apply rD_); exact HO256.out))) (below_size (by repeat (first | (with_reducible first|exact HB.out|apply vA_|apply vN_|apply vD_ | refine vS_ ?_ GE200.out | refine vS_ ?_ GE201.out | refine vS_ ?_ GE235.out | refine vS_ ?_ GE246.out) | exact HB.out))))
            have n18_ := Aside0.mk (blk_below (by (with_reducible repeat first|apply qN_|apply qD_|apply qA_); exact BK200.out) hb)
            have n19_ := Aside0.mk (blk_below (by (with_reducible repeat first|apply qN_|apply qD_|apply qA_); exact BK201.out) hb)
            have n20_ := Aside0.mk (blk_below (by (with_reducible repeat first|apply qN_|apply qD_|apply qA_); exact BK235.out) hb)
            have n21_ := Aside0.mk (blk_below (by (with_reducible repeat first|apply qN_|apply qD_|apply qA_); exact BK246.out) hb)
            have n22_ := Aside0.mk (below_step (by repeat (first | (with_reducible first|exact HB.out|apply vA_|apply vN_|apply vD_ | refine vS_ ?_ GE200.out | refine vS_ ?_ GE201.out | refine vS_ ?_ GE235.out | refine vS_ ?_ GE246.out) | exact HB.out)) hb)
            clear HO206
            clear HO209
            clear HO212
            clear HO216
            clear HO219
            clear HO222
            clear HO227
            clear HO230
            clear HO233
            clear HO238
            clear HO241
            clear HO244
            clear HO250
            clear HO253
            clear HO256
            clear BK200
            clear BK201
            clear BK235
            clear BK246
            clear HB
            have HO206 := n0_
            have HO209 := n1_
            have HO212 := n2_
            have HO216 := n3_
            have HO219 := n4_
            have HO222 := n5_
            have HO227 := n6_
            have HO230 := n7_
            have HO233 := n8_
            have HO238 := n9_
            have HO241 := n10_
            have HO244 := n11_
            have HO250 := n12_
            have HO253 := n13_
            have HO256 := n14_
            have HO261 := n15_
            have HO264 := n16_
            have HO267 := n17_
            have BK200 := n18_
            have BK201 := n19_
            have BK235 := n20_
            have BK246 := n21_
            have HB := n22_
            clear n0_ n1_ n2_ n3_ n4_ n5_ n6_ n7_ n8_ n9_ n10_ n11_ n12_ n13_ n14_ n15_ n16_ n17_ n18_ n19_ n20_ n21_ n22_
            (try clear hb)
            (try clear hb2)
            (try clear hk)
            (try clear hi)
            (try clear ho0)
            (try clear ho1)
            (try clear ho2)
            obtain ⟨Ao166, co166, eo166⟩ := Kd.S_slice HO261.out
            (first | subst eo166 | (injection eo166 with f1_ f2_ f3_; have f4_ := f1_.symm; have f5_ := f3_.symm; clear f1_ f2_ f3_; subst f4_; subst f5_))
            obtain ⟨Ao167, co167, eo167⟩ := Kd.R_slice HO264.out
            (first | subst eo167 | (injection eo167 with f1_ f2_ f3_; have f4_ := f1_.symm; have f5_ := f3_.symm; clear f1_ f2_ f3_; subst f4_; subst f5_))
            obtain ⟨Ao168, co168, eo168⟩ := Kd.R_slice HO267.out
            (first | subst eo168 | (injection eo168 with f1_ f2_ f3_; have f4_ := f1_.symm; have f5_ := f3_.symm; clear f1_ f2_ f3_; subst f4_; subst f5_))
            refine hK.out _ _ ⟨(blk_cell BK246.out 0).trans rfl, (blk_cell BK246.out 1).trans rfl, (blk_cell BK246.out 2).trans rfl, (blk_cell BK246.out 3).trans rfl, (blk_cell BK201.out 0).trans rfl, (blk_cell BK201.out 1).trans rfl, (blk_cell BK201.out 2).trans rfl, (blk_cell BK201.out 3).trans rfl⟩ (fun hHeld => ?_)
            clear hK K
            refine norm_ (a' := ?_) ?_ ?_
            rotate_left
            · show Act.put _ (some 42) _ = _
              simp only [Act.put, List.setIfInBounds_toArray, List.set_cons_zero, List.set_cons_succ, i64_w, i32_w]
              rfl
            refine one_ (i := 3) (N := some 43) #[true, true, true, true, false] rfl rfl (by kernel_rfl) (by decide) (fun K hK => ?_)
            first | refine goes_ Try.func58 (by kernel_rfl) rfl #[.agg #[.slice Ao55 t236.length co55, .slice Ao60 t239.length co60, .slice Ao61 t242.length co61, .int .i64 t245], .agg #[.slice Ao166 t259.length co166, .slice Ao167 t262.length co167, .slice Ao168 t265.length co168, .int .i64 t268]] (by rfl) rfl rfl (by (try simp only [List.map_toArray, List.map_cons, List.map_nil]); first | done | rfl | (simp only [List.length_drop, List.length_take]; rfl)) ?_ | refine goesV_ Try.func58 (by kernel_rfl) rfl #[.agg #[.slice Ao55 t236.length co55, .slice Ao60 t239.length co60, .slice Ao61 t242.length co61, .int .i64 t245], .agg #[.slice Ao166 t259.length co166, .slice Ao167 t262.length co167, .slice Ao168 t265.length co168, .int .i64 t268]] (by rfl) rfl rfl (by rfl) (by first | rfl | (simp only [List.map_toArray, List.map_cons, List.map_nil]; rfl)) ?_
            with_reducible refine (laws_eqState.calls k _ _ t236 _ _ t239 _ _ t242 t245 _ _ t259 _ _ t262 _ _ t265 t268 false _ ?side1 ?side2 ?side3 ?side4 ?side5 ?side6 ?side7 ?side8 ?side9 ?side10 ?side11 ?side12 A68.out).mono ?_
            (case side1 => repeat (first | exact (Kd.S_reads' HO238.out).2.2 | with_reducible apply cA_|with_reducible apply cN_|with_reducible apply cD_))
            (case side2 => exact (Kd.S_reads' HO238.out).2.1)
            (case side3 => repeat (first | exact (Kd.R_reads' HO241.out).2.2 | with_reducible apply cA_|with_reducible apply cN_|with_reducible apply cD_))
            (case side4 => exact (Kd.R_reads' HO241.out).2.1)
            (case side5 => repeat (first | exact (Kd.R_reads' HO244.out).2.2 | with_reducible apply cA_|with_reducible apply cN_|with_reducible apply cD_))
            (case side6 => exact (Kd.R_reads' HO244.out).2.1)
            (case side7 => repeat (first | exact (Kd.S_reads' HO261.out).2.2 | with_reducible apply cA_|with_reducible apply cN_|with_reducible apply cD_))
            (case side8 => exact (Kd.S_reads' HO261.out).2.1)
            (case side9 => repeat (first | exact (Kd.R_reads' HO264.out).2.2 | with_reducible apply cA_|with_reducible apply cN_|with_reducible apply cD_))
            (case side10 => exact (Kd.R_reads' HO264.out).2.1)
            (case side11 => repeat (first | exact (Kd.R_reads' HO267.out).2.2 | with_reducible apply cA_|with_reducible apply cN_|with_reducible apply cD_))
            (case side12 => exact (Kd.R_reads' HO267.out).2.1)
            rintro e w169 ⟨rfl, hb⟩
            refine ⟨_, rfl, ?_⟩
            have n0_ := Aside0.mk (Kd.S_below (by (with_reducible repeat first|apply sA_|apply sN_|apply sD_); exact HO206.out) hb)
            have n1_ := Aside0.mk (Kd.R_below (by (with_reducible repeat first|apply rA_|apply rN_|apply rD_); exact HO209.out) hb)
            have n2_ := Aside0.mk (Kd.R_below (by (with_reducible repeat first|apply rA_|apply rN_|apply rD_); exact HO212.out) hb)
            have n3_ := Aside0.mk (Kd.S_below (by (with_reducible repeat first|apply sA_|apply sN_|apply sD_); exact HO216.out) hb)
            have n4_ := Aside0.mk (Kd.R_below (by (with_reducible repeat first|apply rA_|apply rN_|apply rD_); exact HO219.out) hb)
            have n5_ := Aside0.mk (Kd.R_below (by (with_reducible repeat first|apply rA_|apply rN_|apply rD_); exact HO222.out) hb)
            have n6_ := Aside0.mk (Kd.S_below (by (with_reducible repeat first|apply sA_|apply sN_|apply sD_); exact HO227.out) hb)
            have n7_ := Aside0.mk (Kd.R_below (by (with_reducible repeat first|apply rA_|apply rN_|apply rD_); exact HO230.out) hb)
            have n8_ := Aside0.mk (Kd.R_below (by (with_reducible repeat first|apply rA_|apply rN_|apply rD_); exact HO233.out) hb)
            have n9_ := Aside0.mk (Kd.S_below (by (with_reducible repeat first|apply sA_|apply sN_|apply sD_); exact HO238.out) hb)
            have n10_ := Aside0.mk (Kd.R_below (by (with_reducible repeat first|apply rA_|apply rN_|apply rD_); exact HO241.out) hb)
            have n11_ := Aside0.mk (Kd.R_below (by (with_reducible repeat first|apply rA_|apply rN_|apply rD_); exact HO244.out) hb)
            have n12_ := Aside0.mk (Kd.S_below (by (with_reducible repeat first|apply sA_|apply sN_|apply sD_); exact HO250.out) hb)
            have n13_ := Aside0.mk (Kd.R_below (by (with_reducible repeat first|apply rA_|apply rN_|apply rD_); exact HO253.out) hb)
            have n14_ := Aside0.mk (Kd.R_below (by (with_reducible repeat first|apply rA_|apply rN_|apply rD_); exact HO256.out) hb)
            have n15_ := Aside0.mk (Kd.S_below (by (with_reducible repeat first|apply sA_|apply sN_|apply sD_); exact HO261.out) hb)
            have n16_ := Aside0.mk (Kd.R_below (by (with_reducible repeat first|apply rA_|apply rN_|apply rD_); exact HO264.out) hb)
            have n17_ := Aside0.mk (Kd.R_below (by (with_reducible repeat first|apply rA_|apply rN_|apply rD_); exact HO267.out) hb)
            have n18_ := Aside0.mk (blk_below (by (with_reducible repeat first|apply qN_|apply qD_|apply qA_); exact BK200.out) hb)
            have n19_ := Aside0.mk (blk_below (by (with_reducible repeat first|apply qN_|apply qD_|apply qA_); exact BK201.out) hb)
            have n20_ := Aside0.mk (blk_below (by (with_reducible repeat first|apply qN_|apply qD_|apply qA_); exact BK235.out) hb)
            have n21_ := Aside0.mk (blk_below (by (with_reducible repeat first|apply qN_|apply qD_|apply qA_); exact BK246.out) hb)
            have n22_ := Aside0.mk (below_step (by repeat (first | (with_reducible first|exact HB.out|apply vA_|apply vN_|apply vD_ | refine vS_ ?_ GE200.out | refine vS_ ?_ GE201.out | refine vS_ ?_ GE235.out | refine vS_ ?_ GE246.out) | exact HB.out)) hb)
            clear HO206
            clear HO209
            clear HO212
            clear HO216
            clear HO219
            clear HO222
            clear HO227
            clear HO230
            clear HO233
            clear HO238
            clear HO241
            clear HO244
            clear HO250
            clear HO253
            clear HO256
            clear HO261
            clear HO264
            clear HO267
            clear BK200
            clear BK201
            clear BK235
            clear BK246
            clear HB
            have HO206 := n0_
            have HO209 := n1_
            have HO212 := n2_
            have HO216 := n3_
            have HO219 := n4_
            have HO222 := n5_
            have HO227 := n6_
            have HO230 := n7_
            have HO233 := n8_
            have HO238 := n9_
            have HO241 := n10_
            have HO244 := n11_
            have HO250 := n12_
            have HO253 := n13_
            have HO256 := n14_
            have HO261 := n15_
            have HO264 := n16_
            have HO267 := n17_
            have BK200 := n18_
            have BK201 := n19_
            have BK235 := n20_
            have BK246 := n21_
            have HB := n22_
            clear n0_ n1_ n2_ n3_ n4_ n5_ n6_ n7_ n8_ n9_ n10_ n11_ n12_ n13_ n14_ n15_ n16_ n17_ n18_ n19_ n20_ n21_ n22_
            (try clear hb)
            (try clear hb2)
            (try clear hk)
            (try clear hi)
            refine hK.out _ _ ⟨(blk_cell BK246.out 0).trans rfl, (blk_cell BK246.out 1).trans rfl, (blk_cell BK246.out 2).trans rfl, (blk_cell BK246.out 3).trans rfl, (blk_cell BK201.out 0).trans rfl, (blk_cell BK201.out 1).trans rfl, (blk_cell BK201.out 2).trans rfl, (blk_cell BK201.out 3).trans rfl⟩ (fun hHeld => ?_)
            clear hK K
            refine norm_ (a' := ?_) ?_ ?_
            rotate_left
            · show Act.put _ (some 43) _ = _
              simp only [Act.put, List.setIfInBounds_toArray, List.set_cons_zero, List.set_cons_succ, i64_w, i32_w]
              rfl
            refine pure_ (i := 4) (N := some 44) (v := ?_) (a' := ?_) #[true, true, true, true, true] rfl rfl (by kernel_rfl) (fun _ _ _ h => h) (Or.inl ⟨by rfl, ?_⟩) ?_ ?_
            rotate_left
            · intro w'
              go_simp
              with_reducible rfl
            rotate_left
            · simp only [Act.put, List.setIfInBounds_toArray, List.set_cons_zero, List.set_cons_succ, i64_w, i32_w]
              rfl
            refine done_ (by kernel_rfl) ?_
            try go_wp2
            go_ret
            exact ⟨by first | rfl | (simp [errW_none, errW_some] <;> rfl) | (simp [*, errW_none, errW_some] <;> rfl), by repeat (first | (with_reducible first|exact HB.out|apply vA_|apply vN_|apply vD_ | refine vS_ ?_ GE200.out | refine vS_ ?_ GE201.out | refine vS_ ?_ GE235.out | refine vS_ ?_ GE246.out) | exact HB.out)⟩
        · replace c66 := Bool.eq_false_iff.mpr c66
          subst c66
          have H1 : (some false) = some r := by rw [if_neg (show ¬ (false = true) by decide)] at H; exact H
          clear H
          have H := H1
          clear H1
          obtain rfl := Option.some.inj H
          try go_wp2
          have n0_ := Aside0.mk (Kd.S_drew HO206.out)
          have n1_ := Aside0.mk (Kd.R_drew HO209.out)
          have n2_ := Aside0.mk (Kd.R_drew HO212.out)
          have n3_ := Aside0.mk (Kd.S_drew HO216.out)
          have n4_ := Aside0.mk (Kd.R_drew HO219.out)
          have n5_ := Aside0.mk (Kd.R_drew HO222.out)
          have n6_ := Aside0.mk (Kd.S_drew HO227.out)
          have n7_ := Aside0.mk (Kd.R_drew HO230.out)
          have n8_ := Aside0.mk (Kd.R_drew HO233.out)
          have n9_ := Aside0.mk (Kd.S_drew HO238.out)
          have n10_ := Aside0.mk (Kd.R_drew HO241.out)
          have n11_ := Aside0.mk (Kd.R_drew HO244.out)
          have n12_ := Aside0.mk (blk_drew BK200.out)
          have n13_ := Aside0.mk (blk_drew BK201.out)
          have n14_ := Aside0.mk (blk_drew BK235.out)
          have n15_ := Aside0.mk (blk_drew BK246.out)
          have n16_ := Aside0.mk (below_drew1 HB.out)
          clear HO206
          clear HO209
          clear HO212
          clear HO216
          clear HO219
          clear HO222
          clear HO227
          clear HO230
          clear HO233
          clear HO238
          clear HO241
          clear HO244
          clear BK200
          clear BK201
          clear BK235
          clear BK246
          clear HB
          have HO206 := n0_
          have HO209 := n1_
          have HO212 := n2_
          have HO216 := n3_
          have HO219 := n4_
          have HO222 := n5_
          have HO227 := n6_
          have HO230 := n7_
          have HO233 := n8_
          have HO238 := n9_
          have HO241 := n10_
          have HO244 := n11_
          have BK200 := n12_
          have BK201 := n13_
          have BK235 := n14_
          have BK246 := n15_
          have HB := n16_
          clear n0_ n1_ n2_ n3_ n4_ n5_ n6_ n7_ n8_ n9_ n10_ n11_ n12_ n13_ n14_ n15_ n16_
          refine start_ (n := 5) (S := fun w' => w'.cell? ⟨gb235, 0, none⟩ = some (.slice Ao46 t225.length co46) ∧ w'.cell? ⟨gb235, 1, none⟩ = some (.slice Ao50 t228.length co50) ∧ w'.cell? ⟨gb235, 2, none⟩ = some (.slice Ao51 t231.length co51) ∧ w'.cell? ⟨gb235, 3, none⟩ = some (.int .i64 t234) ∧ w'.cell? ⟨gb200, 0, none⟩ = some (.slice A0_0 l0_0.length c0_0) ∧ w'.cell? ⟨gb200, 1, none⟩ = some (.slice A0_1 l0_1.length c0_1) ∧ w'.cell? ⟨gb200, 2, none⟩ = some (.slice A0_2 l0_2.length c0_2) ∧ w'.cell? ⟨gb200, 3, none⟩ = some (.int .i64 a0_3)) (ds := []) #[false, false, false, false, false] (by kernel_rfl) rfl rfl ⟨(blk_cell BK235.out 0).trans rfl, (blk_cell BK235.out 1).trans rfl, (blk_cell BK235.out 2).trans rfl, (blk_cell BK235.out 3).trans rfl, (blk_cell BK200.out 0).trans rfl, (blk_cell BK200.out 1).trans rfl, (blk_cell BK200.out 2).trans rfl, (blk_cell BK200.out 3).trans rfl⟩ (fun hHeld => ?_)
          generalize w63.drew = w208 at HO206 HO209 HO212 HO216 HO219 HO222 HO227 HO230 HO233 HO238 HO241 HO244 BK200 BK201 BK235 BK246 HB hHeld ⊢
          refine take_ (i := 0) (N := some 35) (v := ?_) (a' := ?_) #[true, false, false, false, false] rfl rfl (by kernel_rfl) (fun _ _ _ h => h) (Or.inl ⟨by rfl, ?_⟩) hHeld ?_ ?_
          rotate_left
          · rintro w' ⟨s0, s1, s2, s3, s4, s5, s6, s7⟩
            go_simp
            with_reducible rfl
          rotate_left
          · simp only [Act.put, List.setIfInBounds_toArray, List.set_cons_zero, List.set_cons_succ, i64_w, i32_w]
            rfl
          refine take_ (i := 1) (N := some 36) (v := ?_) (a' := ?_) #[true, true, false, false, false] rfl rfl (by kernel_rfl) (fun _ _ _ h => h) (Or.inl ⟨by rfl, ?_⟩) hHeld ?_ ?_
          rotate_left
          · rintro w' ⟨s0, s1, s2, s3, s4, s5, s6, s7⟩
            go_simp
            with_reducible rfl
          rotate_left
          · simp only [Act.put, List.setIfInBounds_toArray, List.set_cons_zero, List.set_cons_succ, i64_w, i32_w]
            rfl
          refine one_ (i := 2) (N := some 37) #[true, true, true, false, false] rfl rfl (by kernel_rfl) (by decide) (fun K hK => ?_)
          first | refine goes_ Try.func56 (by kernel_rfl) rfl #[.agg #[.slice A0_0 l0_0.length c0_0, .slice A0_1 l0_1.length c0_1, .slice A0_2 l0_2.length c0_2, .int .i64 a0_3]] (by rfl) rfl rfl (by (try simp only [List.map_toArray, List.map_cons, List.map_nil]); first | done | rfl | (simp only [List.length_drop, List.length_take]; rfl)) ?_ | refine goesV_ Try.func56 (by kernel_rfl) rfl #[.agg #[.slice A0_0 l0_0.length c0_0, .slice A0_1 l0_1.length c0_1, .slice A0_2 l0_2.length c0_2, .int .i64 a0_3]] (by rfl) rfl rfl (by rfl) (by first | rfl | (simp only [List.map_toArray, List.map_cons, List.map_nil]; rfl)) ?_
          with_reducible refine (laws_toState.calls k _ _ l0_0 _ _ l0_1 _ _ l0_2 a0_3 t248 t251 t254 t257 _ ?side1 ?side2 ?side3 ?side4 ?side5 ?side6 A64.out).mono ?_
          (case side1 => repeat (first | exact (Kd.C_below HR0_0.out HB.out) | with_reducible apply cA_|with_reducible apply cN_|with_reducible apply cD_))
          (case side2 => exact HC0_0.out)
          (case side3 => repeat (first | exact (Kd.C_below HR0_1.out HB.out) | with_reducible apply cA_|with_reducible apply cN_|with_reducible apply cD_))
          (case side4 => exact HC0_1.out)
          (case side5 => repeat (first | exact (Kd.C_below HR0_2.out HB.out) | with_reducible apply cA_|with_reducible apply cN_|with_reducible apply cD_))
          (case side6 => exact HC0_2.out)
          rintro e w209 ⟨v249, v252, v255, rfl, ho0, ho1, ho2, hb⟩
          refine ⟨_, rfl, ?_⟩
          have n0_ := Aside0.mk (Kd.S_mono (Kd.S_told (Kd.S_told (Kd.S_old (by (with_reducible repeat first|apply sA_|apply sN_|apply sD_); exact HO206.out) hb) (by first | exact Kd.S_base ho0 | exact Kd.R_base ho0)) (by first | exact Kd.R_base ho1 | exact Kd.S_base ho1 | exact Kd.R_base ho1)) (fun _ h_ => h_.1))
          have n1_ := Aside0.mk (Kd.R_elder' (by (with_reducible repeat first|apply rA_|apply rN_|apply rD_); exact HO209.out) (by first | exact Kd.R_base ho1 | exact Kd.S_base ho1 | exact Kd.R_base ho1) hb)
          have n2_ := Aside0.mk (Kd.R_elder' (by (with_reducible repeat first|apply rA_|apply rN_|apply rD_); exact HO212.out) (by first | exact Kd.R_base ho2 | exact Kd.S_base ho2 | exact Kd.R_base ho2) hb)
          have n3_ := Aside0.mk (Kd.S_mono (Kd.S_told (Kd.S_told (Kd.S_old (by (with_reducible repeat first|apply sA_|apply sN_|apply sD_); exact HO216.out) hb) (by first | exact Kd.S_base ho0 | exact Kd.R_base ho0)) (by first | exact Kd.R_base ho1 | exact Kd.S_base ho1 | exact Kd.R_base ho1)) (fun _ h_ => h_.1))
          have n4_ := Aside0.mk (Kd.R_elder' (by (with_reducible repeat first|apply rA_|apply rN_|apply rD_); exact HO219.out) (by first | exact Kd.R_base ho1 | exact Kd.S_base ho1 | exact Kd.R_base ho1) hb)
          have n5_ := Aside0.mk (Kd.R_elder' (by (with_reducible repeat first|apply rA_|apply rN_|apply rD_); exact HO222.out) (by first | exact Kd.R_base ho2 | exact Kd.S_base ho2 | exact Kd.R_base ho2) hb)
          have n6_ := Aside0.mk (Kd.S_mono (Kd.S_told (Kd.S_told (Kd.S_old (by (with_reducible repeat first|apply sA_|apply sN_|apply sD_); exact HO227.out) hb) (by first | exact Kd.S_base ho0 | exact Kd.R_base ho0)) (by first | exact Kd.R_base ho1 | exact Kd.S_base ho1 | exact Kd.R_base ho1)) (fun _ h_ => h_.1))
          have n7_ := Aside0.mk (Kd.R_elder' (by (with_reducible repeat first|apply rA_|apply rN_|apply rD_); exact HO230.out) (by first | exact Kd.R_base ho1 | exact Kd.S_base ho1 | exact Kd.R_base ho1) hb)
          have n8_ := Aside0.mk (Kd.R_elder' (by (with_reducible repeat first|apply rA_|apply rN_|apply rD_); exact HO233.out) (by first | exact Kd.R_base ho2 | exact Kd.S_base ho2 | exact Kd.R_base ho2) hb)
          have n9_ := Aside0.mk (Kd.S_mono (Kd.S_told (Kd.S_told (Kd.S_old (by (with_reducible repeat first|apply sA_|apply sN_|apply sD_); exact HO238.out) hb) (by first | exact Kd.S_base ho0 | exact Kd.R_base ho0)) (by first | exact Kd.R_base ho1 | exact Kd.S_base ho1 | exact Kd.R_base ho1)) (fun _ h_ => h_.1))
          have n10_ := Aside0.mk (Kd.R_elder' (by (with_reducible repeat first|apply rA_|apply rN_|apply rD_); exact HO241.out) (by first | exact Kd.R_base ho1 | exact Kd.S_base ho1 | exact Kd.R_base ho1) hb)
          have n11_ := Aside0.mk (Kd.R_elder' (by (with_reducible repeat first|apply rA_|apply rN_|apply rD_); exact HO244.out) (by first | exact Kd.R_base ho2 | exact Kd.S_base ho2 | exact Kd.R_base ho2) hb)
          have n12_ := Aside0.mk (Kd.S_lower (Kd.S_new' (Kd.S_new' (Kd.S_new' (Kd.S_new' (Kd.S_new' (Kd.S_new' (Kd.S_new' (Kd.S_new' ho0 (Kd.S_lt (by (with_reducible repeat first|apply sA_|apply sN_|apply sD_); exact HO206.out))) (Kd.R_lt (by (with_reducible repeat first|apply rA_|apply rN_|apply rD_); exact HO209.out))) (Kd.S_lt (by (with_reducible repeat first|apply sA_|apply sN_|apply sD_); exact HO216.out))) (Kd.R_lt (by (with_reducible repeat first|apply rA_|apply rN_|apply rD_); exact HO219.out))) (Kd.S_lt (by (with_reducible repeat first|apply sA_|apply sN_|apply sD_); exact HO227.out))) (Kd.R_lt (by (with_reducible repeat first|apply rA_|apply rN_|apply rD_); exact HO230.out))) (Kd.S_lt (by (with_reducible repeat first|apply sA_|apply sN_|apply sD_); exact HO238.out))) (Kd.R_lt (by (with_reducible repeat first|apply rA_|apply rN_|apply rD_); exact HO241.out))) (below_size (by repeat (first | (with_reducible first|exact HB.out|apply vA_|apply vN_|apply vD_ | refine vS_ ?_ GE200.out | refine vS_ ?_ GE201.out | refine vS_ ?_ GE235.out | refine vS_ ?_ GE246.out) | exact HB.out))))
          have n13_ := Aside0.mk (Kd.R_lower (Kd.R_new' (Kd.R_new' (Kd.R_new' (Kd.R_new' ho1 (Kd.R_lt (by (with_reducible repeat first|apply rA_|apply rN_|apply rD_); exact HO209.out))) (Kd.R_lt (by (with_reducible repeat first|apply rA_|apply rN_|apply rD_); exact HO219.out))) (Kd.R_lt (by (with_reducible repeat first|apply rA_|apply rN_|apply rD_); exact HO230.out))) (Kd.R_lt (by (with_reducible repeat first|apply rA_|apply rN_|apply rD_); exact HO241.out))) (below_size (by repeat (first | (with_reducible first|exact HB.out|apply vA_|apply vN_|apply vD_ | refine vS_ ?_ GE200.out | refine vS_ ?_ GE201.out | refine vS_ ?_ GE235.out | refine vS_ ?_ GE246.out) | exact HB.out))))
          have n14_ := Aside0.mk (Kd.R_lower (Kd.R_new' (Kd.R_new' (Kd.R_new' (Kd.R_new' ho2 (Kd.R_lt (by (with_reducible repeat first|apply rA_|apply rN_|apply rD_); exact HO212.out))) (Kd.R_lt (by (with_reducible repeat first|apply rA_|apply rN_|apply rD_); exact HO222.out))) (Kd.R_lt (by (with_reducible repeat first|apply rA_|apply rN_|apply rD_); exact HO233.out))) (Kd.R_lt (by (with_reducible repeat first|apply rA_|apply rN_|apply rD_); exact HO244.out))) (below_size (by repeat (first | (with_reducible first|exact HB.out|apply vA_|apply vN_|apply vD_ | refine vS_ ?_ GE200.out | refine vS_ ?_ GE201.out | refine vS_ ?_ GE235.out | refine vS_ ?_ GE246.out) | exact HB.out))))
          have n15_ := Aside0.mk (blk_below (by (with_reducible repeat first|apply qN_|apply qD_|apply qA_); exact BK200.out) hb)
          have n16_ := Aside0.mk (blk_below (by (with_reducible repeat first|apply qN_|apply qD_|apply qA_); exact BK201.out) hb)
          have n17_ := Aside0.mk (blk_below (by (with_reducible repeat first|apply qN_|apply qD_|apply qA_); exact BK235.out) hb)
          have n18_ := Aside0.mk (blk_below (by (with_reducible repeat first|apply qN_|apply qD_|apply qA_); exact BK246.out) hb)
          have n19_ := Aside0.mk (below_step (by repeat (first | (with_reducible first|exact HB.out|apply vA_|apply vN_|apply vD_ | refine vS_ ?_ GE200.out | refine vS_ ?_ GE201.out | refine vS_ ?_ GE235.out | refine vS_ ?_ GE246.out) | exact HB.out)) hb)
          clear HO206
          clear HO209
          clear HO212
          clear HO216
          clear HO219
          clear HO222
          clear HO227
          clear HO230
          clear HO233
          clear HO238
          clear HO241
          clear HO244
          clear BK200
          clear BK201
          clear BK235
          clear BK246
          clear HB
          have HO206 := n0_
          have HO209 := n1_
          have HO212 := n2_
          have HO216 := n3_
          have HO219 := n4_
          have HO222 := n5_
          have HO227 := n6_
          have HO230 := n7_
          have HO233 := n8_
          have HO238 := n9_
          have HO241 := n10_
          have HO244 := n11_
          have HO250 := n12_
          have HO253 := n13_
          have HO256 := n14_
          have BK200 := n15_
          have BK201 := n16_
          have BK235 := n17_
          have BK246 := n18_
          have HB := n19_
          clear n0_ n1_ n2_ n3_ n4_ n5_ n6_ n7_ n8_ n9_ n10_ n11_ n12_ n13_ n14_ n15_ n16_ n17_ n18_ n19_
          (try clear hb)
          (try clear hb2)
          (try clear hk)
          (try clear hi)
          (try clear ho0)
          (try clear ho1)
          (try clear ho2)
          obtain ⟨Ao210, co210, eo210⟩ := Kd.S_slice HO250.out
          (first | subst eo210 | (injection eo210 with f1_ f2_ f3_; have f4_ := f1_.symm; have f5_ := f3_.symm; clear f1_ f2_ f3_; subst f4_; subst f5_))
          obtain ⟨Ao211, co211, eo211⟩ := Kd.R_slice HO253.out
          (first | subst eo211 | (injection eo211 with f1_ f2_ f3_; have f4_ := f1_.symm; have f5_ := f3_.symm; clear f1_ f2_ f3_; subst f4_; subst f5_))
          obtain ⟨Ao212, co212, eo212⟩ := Kd.R_slice HO256.out
          (first | subst eo212 | (injection eo212 with f1_ f2_ f3_; have f4_ := f1_.symm; have f5_ := f3_.symm; clear f1_ f2_ f3_; subst f4_; subst f5_))
          refine hK.out _ _ ⟨(blk_cell BK235.out 0).trans rfl, (blk_cell BK235.out 1).trans rfl, (blk_cell BK235.out 2).trans rfl, (blk_cell BK235.out 3).trans rfl, (blk_cell BK200.out 0).trans rfl, (blk_cell BK200.out 1).trans rfl, (blk_cell BK200.out 2).trans rfl, (blk_cell BK200.out 3).trans rfl⟩ (fun hHeld => ?_)
          clear hK K
          refine norm_ (a' := ?_) ?_ ?_
          rotate_left
          · show Act.put _ (some 37) _ = _
            simp only [Act.put, List.setIfInBounds_toArray, List.set_cons_zero, List.set_cons_succ, i64_w, i32_w]
            rfl
          refine one_ (i := 3) (N := some 38) #[true, true, true, true, false] rfl rfl (by kernel_rfl) (by decide) (fun K hK => ?_)
          first | refine goes_ Try.func58 (by kernel_rfl) rfl #[.agg #[.slice Ao46 t225.length co46, .slice Ao50 t228.length co50, .slice Ao51 t231.length co51, .int .i64 t234], .agg #[.slice Ao210 t248.length co210, .slice Ao211 t251.length co211, .slice Ao212 t254.length co212, .int .i64 t257]] (by rfl) rfl rfl (by (try simp only [List.map_toArray, List.map_cons, List.map_nil]); first | done | rfl | (simp only [List.length_drop, List.length_take]; rfl)) ?_ | refine goesV_ Try.func58 (by kernel_rfl) rfl #[.agg #[.slice Ao46 t225.length co46, .slice Ao50 t228.length co50, .slice Ao51 t231.length co51, .int .i64 t234], .agg #[.slice Ao210 t248.length co210, .slice Ao211 t251.length co211, .slice Ao212 t254.length co212, .int .i64 t257]] (by rfl) rfl rfl (by rfl) (by first | rfl | (simp only [List.map_toArray, List.map_cons, List.map_nil]; rfl)) ?_
          with_reducible refine (laws_eqState.calls k _ _ t225 _ _ t228 _ _ t231 t234 _ _ t248 _ _ t251 _ _ t254 t257 false _ ?side1 ?side2 ?side3 ?side4 ?side5 ?side6 ?side7 ?side8 ?side9 ?side10 ?side11 ?side12 A65.out).mono ?_
          (case side1 => repeat (first | exact (Kd.S_reads' HO227.out).2.2 | with_reducible apply cA_|with_reducible apply cN_|with_reducible apply cD_))
          (case side2 => exact (Kd.S_reads' HO227.out).2.1)
          (case side3 => repeat (first | exact (Kd.R_reads' HO230.out).2.2 | with_reducible apply cA_|with_reducible apply cN_|with_reducible apply cD_))
          (case side4 => exact (Kd.R_reads' HO230.out).2.1)
          (case side5 => repeat (first | exact (Kd.R_reads' HO233.out).2.2 | with_reducible apply cA_|with_reducible apply cN_|with_reducible apply cD_))
          (case side6 => exact (Kd.R_reads' HO233.out).2.1)
          (case side7 => repeat (first | exact (Kd.S_reads' HO250.out).2.2 | with_reducible apply cA_|with_reducible apply cN_|with_reducible apply cD_))
          (case side8 => exact (Kd.S_reads' HO250.out).2.1)
          (case side9 => repeat (first | exact (Kd.R_reads' HO253.out).2.2 | with_reducible apply cA_|with_reducible apply cN_|with_reducible apply cD_))
          (case side10 => exact (Kd.R_reads' HO253.out).2.1)
          (case side11 => repeat (first | exact (Kd.R_reads' HO256.out).2.2 | with_reducible apply cA_|with_reducible apply cN_|with_reducible apply cD_))
          (case side12 => exact (Kd.R_reads' HO256.out).2.1)
          rintro e w213 ⟨rfl, hb⟩
          refine ⟨_, rfl, ?_⟩
          have n0_ := Aside0.mk (Kd.S_below (by (with_reducible repeat first|apply sA_|apply sN_|apply sD_); exact HO206.out) hb)
          have n1_ := Aside0.mk (Kd.R_below (by (with_reducible repeat first|apply rA_|apply rN_|apply rD_); exact HO209.out) hb)
          have n2_ := Aside0.mk (Kd.R_below (by (with_reducible repeat first|apply rA_|apply rN_|apply rD_); exact HO212.out) hb)
          have n3_ := Aside0.mk (Kd.S_below (by (with_reducible repeat first|apply sA_|apply sN_|apply sD_); exact HO216.out) hb)
          have n4_ := Aside0.mk (Kd.R_below (by (with_reducible repeat first|apply rA_|apply rN_|apply rD_); exact HO219.out) hb)
          have n5_ := Aside0.mk (Kd.R_below (by (with_reducible repeat first|apply rA_|apply rN_|apply rD_); exact HO222.out) hb)
          have n6_ := Aside0.mk (Kd.S_below (by (with_reducible repeat first|apply sA_|apply sN_|apply sD_); exact HO227.out) hb)
          have n7_ := Aside0.mk (Kd.R_below (by (with_reducible repeat first|apply rA_|apply rN_|apply rD_); exact HO230.out) hb)
          have n8_ := Aside0.mk (Kd.R_below (by (with_reducible repeat first|apply rA_|apply rN_|apply rD_); exact HO233.out) hb)
          have n9_ := Aside0.mk (Kd.S_below (by (with_reducible repeat first|apply sA_|apply sN_|apply sD_); exact HO238.out) hb)
          have n10_ := Aside0.mk (Kd.R_below (by (with_reducible repeat first|apply rA_|apply rN_|apply rD_); exact HO241.out) hb)
          have n11_ := Aside0.mk (Kd.R_below (by (with_reducible repeat first|apply rA_|apply rN_|apply rD_); exact HO244.out) hb)
          have n12_ := Aside0.mk (Kd.S_below (by (with_reducible repeat first|apply sA_|apply sN_|apply sD_); exact HO250.out) hb)
          have n13_ := Aside0.mk (Kd.R_below (by (with_reducible repeat first|apply rA_|apply rN_|apply rD_); exact HO253.out) hb)
          have n14_ := Aside0.mk (Kd.R_below (by (with_reducible repeat first|apply rA_|apply rN_|apply rD_); exact HO256.out) hb)
          have n15_ := Aside0.mk (blk_below (by (with_reducible repeat first|apply qN_|apply qD_|apply qA_); exact BK200.out) hb)
          have n16_ := Aside0.mk (blk_below (by (with_reducible repeat first|apply qN_|apply qD_|apply qA_); exact BK201.out) hb)
          have n17_ := Aside0.mk (blk_below (by (with_reducible repeat first|apply qN_|apply qD_|apply qA_); exact BK235.out) hb)
          have n18_ := Aside0.mk (blk_below (by (with_reducible repeat first|apply qN_|apply qD_|apply qA_); exact BK246.out) hb)
          have n19_ := Aside0.mk (below_step (by repeat (first | (with_reducible first|exact HB.out|apply vA_|apply vN_|apply vD_ | refine vS_ ?_ GE200.out | refine vS_ ?_ GE201.out | refine vS_ ?_ GE235.out | refine vS_ ?_ GE246.out) | exact HB.out)) hb)
          clear HO206
          clear HO209
          clear HO212
          clear HO216
          clear HO219
          clear HO222
          clear HO227
          clear HO230
          clear HO233
          clear HO238
          clear HO241
          clear HO244
          clear HO250
          clear HO253
          clear HO256
          clear BK200
          clear BK201
          clear BK235
          clear BK246
          clear HB
          have HO206 := n0_
          have HO209 := n1_
          have HO212 := n2_
          have HO216 := n3_
          have HO219 := n4_
          have HO222 := n5_
          have HO227 := n6_
          have HO230 := n7_
          have HO233 := n8_
          have HO238 := n9_
          have HO241 := n10_
          have HO244 := n11_
          have HO250 := n12_
          have HO253 := n13_
          have HO256 := n14_
          have BK200 := n15_
          have BK201 := n16_
          have BK235 := n17_
          have BK246 := n18_
          have HB := n19_
          clear n0_ n1_ n2_ n3_ n4_ n5_ n6_ n7_ n8_ n9_ n10_ n11_ n12_ n13_ n14_ n15_ n16_ n17_ n18_ n19_
          (try clear hb)
          (try clear hb2)
          (try clear hk)
          (try clear hi)
          refine hK.out _ _ ⟨(blk_cell BK235.out 0).trans rfl, (blk_cell BK235.out 1).trans rfl, (blk_cell BK235.out 2).trans rfl, (blk_cell BK235.out 3).trans rfl, (blk_cell BK200.out 0).trans rfl, (blk_cell BK200.out 1).trans rfl, (blk_cell BK200.out 2).trans rfl, (blk_cell BK200.out 3).trans rfl⟩ (fun hHeld => ?_)
          clear hK K
          refine norm_ (a' := ?_) ?_ ?_
          rotate_left
          · show Act.put _ (some 38) _ = _
            simp only [Act.put, List.setIfInBounds_toArray, List.set_cons_zero, List.set_cons_succ, i64_w, i32_w]
            rfl
          refine pure_ (i := 4) (N := some 39) (v := ?_) (a' := ?_) #[true, true, true, true, true] rfl rfl (by kernel_rfl) (fun _ _ _ h => h) (Or.inl ⟨by rfl, ?_⟩) ?_ ?_
          rotate_left
          · intro w'
            go_simp
            with_reducible rfl
          rotate_left
          · simp only [Act.put, List.setIfInBounds_toArray, List.set_cons_zero, List.set_cons_succ, i64_w, i32_w]
            rfl
          refine done_ (by kernel_rfl) ?_
          try go_wp2
          go_ret
          exact ⟨by first | rfl | (simp [errW_none, errW_some] <;> rfl) | (simp [*, errW_none, errW_some] <;> rfl), by repeat (first | (with_reducible first|exact HB.out|apply vA_|apply vN_|apply vD_ | refine vS_ ?_ GE200.out | refine vS_ ?_ GE201.out | refine vS_ ?_ GE235.out | refine vS_ ?_ GE246.out) | exact HB.out)⟩

end Go.Proofs.Yteaahcofgnghaaa.GSameState

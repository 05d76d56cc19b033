-- Printed by wip/tools/print2.py out of the translation: walks and plain functions; Lean checks them.
import Derived.Test.YtpfbiopcfbokbaaGChangePctx0
import Derived.Test.YtpfbiopcfbokbaaGChangePctx1
import Derived.Test.YtpfbiopcfbokbaaGChangePctx2
namespace Go.Proofs.Ytpfbiopcfbokbaa.GChangePct
open Go.RowKit Go.Proofs.YtpfbiopcfbokbaaW.PrintWords Go.Proofs.YtpfbiopcfbokbaaW.PrintLast Go.Proofs.YtpfbiopcfbokbaaW.PrintMore
attribute [local go_sem] max2_int min2_int max_two min_two max_three min_three max_four min_four   -- for this text's walks alone
set_option linter.unusedVariables false
set_option linter.unusedSimpArgs false

/-! ### spec_ChangePct: function 11 -/
mutual
def spec_ChangePct.j0 : Nat → Int → Int → Int → Bool → List Int → List Int → Option (List Int × List Int × Bool)
 | 0, _, _, _, _, _, _ => none
 | k + 1, x1, x2, x3, x30, x177000, x177001 => if x30 = true then (some (([] : List Int), ([] : List Int), false)) else ((spec_l13OwnPct.f x177000 x177001).bind fun bt182 => (if x1 = 0 then (if 0 ≤ (Int.tmod x3 5) then (if (Int.tmod x3 5) < (x177000.length : Int) then (if 0 ≤ (Int.tmod x2 5) then (if (Int.tmod x2 5) < (bt182.1.length : Int) then (if (Int.tmod x2 5) < (x177000.length : Int) then (if (Int.tmod x3 5) < (bt182.1.length : Int) then (some (((bt182.1.set ((Int.tmod x2 5) : Int).toNat (rd x177000 (Int.tmod x3 5))).set ((Int.tmod x3 5) : Int).toNat (rd x177000 (Int.tmod x2 5))), bt182.2, true)) else (none)) else (none)) else (none)) else (none)) else (none)) else (none)) else (if x1 > 1 then (spec_ChangePct.j1 k x1 x2 x3 (x177001.length : Int) ((x177001.length : Int) == 0) x177000 x177001 bt182.1 bt182.2) else (spec_ChangePct.j1 k x1 x2 x3 (x177001.length : Int) false x177000 x177001 bt182.1 bt182.2))))
def spec_ChangePct.j2 : Nat → Int → Int → Int → List Int → List Int → List Int → List Int → Option (List Int × List Int × Bool)
 | 0, _, _, _, _, _, _, _ => none
 | k + 1, x1, x2, x3, x177000, x177001, x189000, x189001 => if x1 = 3 then (spec_ChangePct.j3 k x1 x3 x177000 x177001 x189000 x189001) else (spec_ChangePct.j3 k x1 x2 x177000 x177001 x189000 x189001)
def spec_ChangePct.j3 : Nat → Int → Int → List Int → List Int → List Int → List Int → Option (List Int × List Int × Bool)
 | 0, _, _, _, _, _, _ => none
 | k + 1, x1, x12, x177000, x177001, x189000, x189001 => if x1 = 2 then ((spec_GoodPct.f k x189000 x189001).bind fun t197 => (if t197 = true then (some (x189000, x189001, true)) else (some (([] : List Int), ([] : List Int), false)))) else ((spec_l1Has.f k x177001 x12).bind fun t198 => (if t198 = true then (some (([] : List Int), ([] : List Int), false)) else ((spec_l1Put.f k x189001 x12).bind fun t199 => ((spec_GoodPct.f k x189000 t199).bind fun t202 => (if t202 = true then (some (x189000, t199, true)) else (some (([] : List Int), ([] : List Int), false)))))))
def spec_ChangePct.j1 : Nat → Int → Int → Int → Int → Bool → List Int → List Int → List Int → List Int → Option (List Int × List Int × Bool)
 | 0, _, _, _, _, _, _, _, _, _ => none
 | k + 1, x1, x2, x3, x11, x63, x177000, x177001, x189000, x189001 => if x63 = true then (some (([] : List Int), ([] : List Int), false)) else (if x1 > 1 then (if x11 = 0 then (none) else (if 0 ≤ (Int.tmod x2 x11) then (if (Int.tmod x2 x11) < (x177001.length : Int) then ((spec_l7Drop.f k x177001 (rd x177001 (Int.tmod x2 x11))).bind fun t194 => (spec_ChangePct.j2 k x1 x2 x3 x177000 x177001 x189000 t194)) else (none)) else (none))) else (spec_ChangePct.j2 k x1 x2 x3 x177000 x177001 x189000 x189001))
end
def spec_ChangePct.f (k : Nat) (l0_0 : List Int) (l0_1 : List Int) (a1 : Int) (a2 : Int) (a3 : Int) : Option (List Int × List Int × Bool) := (spec_GoodPct.f k l0_0 l0_1).bind fun t178 => (if t178 = true then ((spec_l1In.f a1 0 3).bind fun t179 => (if t179 = true then ((spec_l1In.f a2 0 99).bind fun t180 => (if t180 = true then ((spec_l1In.f a3 0 99).bind fun t181 => (spec_ChangePct.j0 k a1 a2 a3 (!t181) l0_0 l0_1)) else (spec_ChangePct.j0 k a1 a2 a3 true l0_0 l0_1))) else (spec_ChangePct.j0 k a1 a2 a3 true l0_0 l0_1))) else (spec_ChangePct.j0 k a1 a2 a3 true l0_0 l0_1))
theorem spec_ChangePct.mono_l : ∀ k, (∀ y0 y1 y2 y3 y4 y5, LeO (spec_ChangePct.j0 k y0 y1 y2 y3 y4 y5) (spec_ChangePct.j0 (k + 1) y0 y1 y2 y3 y4 y5)) ∧ (∀ y0 y1 y2 y3 y4 y5 y6, LeO (spec_ChangePct.j2 k y0 y1 y2 y3 y4 y5 y6) (spec_ChangePct.j2 (k + 1) y0 y1 y2 y3 y4 y5 y6)) ∧ (∀ y0 y1 y2 y3 y4 y5, LeO (spec_ChangePct.j3 k y0 y1 y2 y3 y4 y5) (spec_ChangePct.j3 (k + 1) y0 y1 y2 y3 y4 y5)) ∧ (∀ y0 y1 y2 y3 y4 y5 y6 y7 y8, LeO (spec_ChangePct.j1 k y0 y1 y2 y3 y4 y5 y6 y7 y8) (spec_ChangePct.j1 (k + 1) y0 y1 y2 y3 y4 y5 y6 y7 y8))
 | 0 => ⟨fun _ _ _ _ _ _ r h => by simp [spec_ChangePct.j0] at h, fun _ _ _ _ _ _ _ r h => by simp [spec_ChangePct.j2] at h, fun _ _ _ _ _ _ r h => by simp [spec_ChangePct.j3] at h, fun _ _ _ _ _ _ _ _ _ r h => by simp [spec_ChangePct.j1] at h⟩
 | k + 1 => by
  obtain ⟨ih0, ih1, ih2, ih3⟩ := spec_ChangePct.mono_l k
  refine ⟨?_, ?_, ?_, ?_⟩
  ·intro y0 y1 y2 y3 y4 y5
   unfold spec_ChangePct.j0
   repeat' first | (with_reducible exact ih0 _ _ _ _ _ _) | (with_reducible exact ih1 _ _ _ _ _ _ _) | (with_reducible exact ih2 _ _ _ _ _ _) | (with_reducible exact ih3 _ _ _ _ _ _ _ _ _) | (with_reducible exact spec_GoodPct.mono _ _ _) | (with_reducible exact spec_l1Has.mono _ _ _) | (with_reducible exact spec_l1Put.mono _ _ _) | (with_reducible exact spec_l7Drop.mono _ _ _) | (with_reducible exact LeO.refl _) | (with_reducible exact LeO.none _) | (with_reducible refine LeO.ite ?_ ?_) | (with_reducible refine LeO.bind ?_ (fun _ => ?_)) | exact ih0 _ _ _ _ _ _ | exact ih1 _ _ _ _ _ _ _ | exact ih2 _ _ _ _ _ _ | exact ih3 _ _ _ _ _ _ _ _ _ | exact spec_GoodPct.mono _ _ _ | exact spec_l1Has.mono _ _ _ | exact spec_l1Put.mono _ _ _ | exact spec_l7Drop.mono _ _ _ | exact LeO.none _ | refine LeO.ite ?_ ?_ | refine LeO.bind ?_ (fun _ => ?_)
  ·intro y0 y1 y2 y3 y4 y5 y6
   unfold spec_ChangePct.j2
   repeat' first | (with_reducible exact ih0 _ _ _ _ _ _) | (with_reducible exact ih1 _ _ _ _ _ _ _) | (with_reducible exact ih2 _ _ _ _ _ _) | (with_reducible exact ih3 _ _ _ _ _ _ _ _ _) | (with_reducible exact spec_GoodPct.mono _ _ _) | (with_reducible exact spec_l1Has.mono _ _ _) | (with_reducible exact spec_l1Put.mono _ _ _) | (with_reducible exact spec_l7Drop.mono _ _ _) | (with_reducible exact LeO.refl _) | (with_reducible exact LeO.none _) | (with_reducible refine LeO.ite ?_ ?_) | (with_reducible refine LeO.bind ?_ (fun _ => ?_)) | exact ih0 _ _ _ _ _ _ | exact ih1 _ _ _ _ _ _ _ | exact ih2 _ _ _ _ _ _ | exact ih3 _ _ _ _ _ _ _ _ _ | exact spec_GoodPct.mono _ _ _ | exact spec_l1Has.mono _ _ _ | exact spec_l1Put.mono _ _ _ | exact spec_l7Drop.mono _ _ _ | exact LeO.none _ | refine LeO.ite ?_ ?_ | refine LeO.bind ?_ (fun _ => ?_)
  ·intro y0 y1 y2 y3 y4 y5
   unfold spec_ChangePct.j3
   repeat' first | (with_reducible exact ih0 _ _ _ _ _ _) | (with_reducible exact ih1 _ _ _ _ _ _ _) | (with_reducible exact ih2 _ _ _ _ _ _) | (with_reducible exact ih3 _ _ _ _ _ _ _ _ _) | (with_reducible exact spec_GoodPct.mono _ _ _) | (with_reducible exact spec_l1Has.mono _ _ _) | (with_reducible exact spec_l1Put.mono _ _ _) | (with_reducible exact spec_l7Drop.mono _ _ _) | (with_reducible exact LeO.refl _) | (with_reducible exact LeO.none _) | (with_reducible refine LeO.ite ?_ ?_) | (with_reducible refine LeO.bind ?_ (fun _ => ?_)) | exact ih0 _ _ _ _ _ _ | exact ih1 _ _ _ _ _ _ _ | exact ih2 _ _ _ _ _ _ | exact ih3 _ _ _ _ _ _ _ _ _ | exact spec_GoodPct.mono _ _ _ | exact spec_l1Has.mono _ _ _ | exact spec_l1Put.mono _ _ _ | exact spec_l7Drop.mono _ _ _ | exact LeO.none _ | refine LeO.ite ?_ ?_ | refine LeO.bind ?_ (fun _ => ?_)
  ·intro y0 y1 y2 y3 y4 y5 y6 y7 y8
   unfold spec_ChangePct.j1
   repeat' first | (with_reducible exact ih0 _ _ _ _ _ _) | (with_reducible exact ih1 _ _ _ _ _ _ _) | (with_reducible exact ih2 _ _ _ _ _ _) | (with_reducible exact ih3 _ _ _ _ _ _ _ _ _) | (with_reducible exact spec_GoodPct.mono _ _ _) | (with_reducible exact spec_l1Has.mono _ _ _) | (with_reducible exact spec_l1Put.mono _ _ _) | (with_reducible exact spec_l7Drop.mono _ _ _) | (with_reducible exact LeO.refl _) | (with_reducible exact LeO.none _) | (with_reducible refine LeO.ite ?_ ?_) | (with_reducible refine LeO.bind ?_ (fun _ => ?_)) | exact ih0 _ _ _ _ _ _ | exact ih1 _ _ _ _ _ _ _ | exact ih2 _ _ _ _ _ _ | exact ih3 _ _ _ _ _ _ _ _ _ | exact spec_GoodPct.mono _ _ _ | exact spec_l1Has.mono _ _ _ | exact spec_l1Put.mono _ _ _ | exact spec_l7Drop.mono _ _ _ | exact LeO.none _ | refine LeO.ite ?_ ?_ | refine LeO.bind ?_ (fun _ => ?_)
theorem spec_ChangePct.mono : ∀ a0 a1 a2 a3 a4 k, LeO (spec_ChangePct.f k a0 a1 a2 a3 a4) (spec_ChangePct.f (k + 1) a0 a1 a2 a3 a4) := by
 intro a0 a1 a2 a3 a4 k
 obtain ⟨ih0, ih1, ih2, ih3⟩ := spec_ChangePct.mono_l k
 unfold spec_ChangePct.f
 repeat' first | (with_reducible exact ih0 _ _ _ _ _ _) | (with_reducible exact ih1 _ _ _ _ _ _ _) | (with_reducible exact ih2 _ _ _ _ _ _) | (with_reducible exact ih3 _ _ _ _ _ _ _ _ _) | (with_reducible exact spec_GoodPct.mono _ _ _) | (with_reducible exact spec_l1Has.mono _ _ _) | (with_reducible exact spec_l1Put.mono _ _ _) | (with_reducible exact spec_l7Drop.mono _ _ _) | (with_reducible exact LeO.refl _) | (with_reducible exact LeO.none _) | (with_reducible refine LeO.ite ?_ ?_) | (with_reducible refine LeO.bind ?_ (fun _ => ?_)) | exact ih0 _ _ _ _ _ _ | exact ih1 _ _ _ _ _ _ _ | exact ih2 _ _ _ _ _ _ | exact ih3 _ _ _ _ _ _ _ _ _ | exact spec_GoodPct.mono _ _ _ | exact spec_l1Has.mono _ _ _ | exact spec_l1Put.mono _ _ _ | exact spec_l7Drop.mono _ _ _ | exact LeO.none _ | refine LeO.ite ?_ ?_ | refine LeO.bind ?_ (fun _ => ?_)
def spec_ChangePct.T6 : Bool × List (List Nat × List Nat) := (true, [([], []), ([0], [0]), ([], []), ([2], [2]), ([], []), ([4], [4]), ([], []), ([6], [6]), ([5, 7], [5, 7]), ([8], [8]), ([1, 3, 0, 1, 2, 3, 4, 5, 6, 7, 8, 9], [1, 3]), ([10, 9, 0, 1, 2, 3, 4, 5, 6, 7, 8, 9], [9, 10])])
def spec_ChangePct.B6 : List Nat := [0, 1, 0, 4, 0, 16, 0, 64, 240, 496, 1023, 2047]
theorem spec_ChangePct.tab6 : rtab .any (opsOf Try.f11 6) = spec_ChangePct.T6 := by kernel_rfl
theorem spec_ChangePct.bits6 : waitsOk spec_ChangePct.T6.2 spec_ChangePct.B6 = true := by kernel_rfl
def spec_ChangePct.T7 : Bool × List (List Nat × List Nat) := (true, [([], []), ([0], [0]), ([], []), ([2], [2]), ([], []), ([4], [4]), ([], []), ([6], [6]), ([5, 7], [5, 7]), ([8], [8]), ([1, 3, 0, 1, 2, 3, 4, 5, 6, 7, 8, 9], [1, 3]), ([10, 9, 0, 1, 2, 3, 4, 5, 6, 7, 8, 9], [9, 10])])
def spec_ChangePct.B7 : List Nat := [0, 1, 0, 4, 0, 16, 0, 64, 240, 496, 1023, 2047]
theorem spec_ChangePct.tab7 : rtab .any (opsOf Try.f11 7) = spec_ChangePct.T7 := by kernel_rfl
theorem spec_ChangePct.bits7 : waitsOk spec_ChangePct.T7.2 spec_ChangePct.B7 = true := by kernel_rfl
def spec_ChangePct.T12 : Bool × List (List Nat × List Nat) := (true, [([], []), ([0], [0]), ([], []), ([2], [2]), ([], []), ([], []), ([4, 5], [4, 5]), ([3, 6], [3, 6]), ([7], [7]), ([1, 8], [1, 8]), ([0, 1, 2, 3, 4, 5, 6, 7, 8, 9], []), ([10, 9, 9, 0, 1, 2, 3, 4, 5, 6, 7, 8, 9], [9, 10])])
def spec_ChangePct.B12 : List Nat := [0, 1, 0, 4, 0, 0, 48, 124, 252, 511, 1023, 2047]
theorem spec_ChangePct.tab12 : rtab .any (opsOf Try.f11 12) = spec_ChangePct.T12 := by kernel_rfl
theorem spec_ChangePct.bits12 : waitsOk spec_ChangePct.T12.2 spec_ChangePct.B12 = true := by kernel_rfl
set_option maxHeartbeats 8000000 in
set_option maxRecDepth 100000 in
theorem spec_ChangePct.calls (k : Nat) (A0_0 : Option Addr) (c0_0 : Nat) (l0_0 : List Int) (A0_1 : Option Addr) (c0_1 : Nat) (l0_1 : List Int) (a1 : Int) (a2 : Int) (a3 : Int) (r1 : List Int) (r2 : List Int) (r3 : Bool) (w : World) (hr0_0 : Kd.C (Kd.int .i64) w A0_0 l0_0.length l0_0) (hc0_0 : l0_0.length ≤ c0_0) (hr0_1 : Kd.C (Kd.int .i64) w A0_1 l0_1.length l0_1) (hc0_1 : l0_1.length ≤ c0_1) (h : spec_ChangePct.f k l0_0 l0_1 a1 a2 a3 = some (r1, r2, r3)) :
  Calls Try.prog 11 #[.agg #[.slice A0_0 l0_0.length c0_0, .slice A0_1 l0_1.length c0_1], .int .i64 a1, .int .i64 a2, .int .i64 a3] w fun e w' => ∃ v0_ v1_ : Value, e = .returned (.tuple #[.agg #[v0_, v1_], .bool r3]) ∧ Kd.R (Kd.int .i64) 3 w' w.heap.size (fun k_ => some k_ ≠ (v1_ : Value).ownBlock) v0_ r1 ∧ Kd.R (Kd.int .i64) 3 w' w.heap.size (fun k_ => some k_ ≠ (v0_ : Value).ownBlock) v1_ r2 ∧ Below w.heap.size w w' := by
 have hu26 := Try.underlying26
 have HR0_0 := a_ hr0_0
 have HC0_0 := a_ hc0_0
 clear hr0_0 hc0_0
 have HR0_1 := a_ hr0_1
 have HC0_1 := a_ hc0_1
 clear hr0_1 hc0_1
 have HB := a_ (Below.refl w.heap.size w)
 have H : ((spec_GoodPct.f k l0_0 l0_1).bind fun t178 => (if t178 = true then ((spec_l1In.f a1 0 3).bind fun t179 => (if t179 = true then ((spec_l1In.f a2 0 99).bind fun t180 => (if t180 = true then ((spec_l1In.f a3 0 99).bind fun t181 => (spec_ChangePct.j0 k a1 a2 a3 (!t181) l0_0 l0_1)) else (spec_ChangePct.j0 k a1 a2 a3 true l0_0 l0_1))) else (spec_ChangePct.j0 k a1 a2 a3 true l0_0 l0_1))) else (spec_ChangePct.j0 k a1 a2 a3 true l0_0 l0_1))) = some (r1, r2, r3) := h
 clear h
 have HC5 := a_ H
 clear H
 go_enter Try.func11, Try.ntmps11
 go_upto_region 1 with (first | ((with_reducible refine gate_dst (N := 4) rfl ?_); refine box_event ?hg (N := 4) ?hd (cs := #[.slice A0_0 l0_0.length c0_0, .slice A0_1 l0_1.length c0_1]) (t := 26) ?hr ?_; (case hd => rfl); (case hg => rfl); (case hr => first | (go_simp; done) | (go_simp; rfl)); intro gb176 hg w6 hbox hb; have n0_ := a_ (below_step b_ hb); have n1_ := a_ (hbox); have n2_ := a_ ((by rw [hg]; exact (below_size b_) : w.heap.size ≤ gb176)); have n3_ := a_ ((by rw [hg]; exact (below_size b_) : w.heap.size ≤ gb176)); clear HB; have HB := n0_; have BK176 := n1_; have GW176 := n2_; have GE176 := n3_; clear n0_ n1_ n2_ n3_; clear hb hbox hg) | ((with_reducible refine gate_dst (N := 8) rfl ?_); refine box_event ?hg (N := 8) ?hd (cs := #[.slice none 0 0, .slice none 0 0]) (t := 26) ?hr ?_; (case hd => rfl); (case hg => rfl); (case hr => first | (go_simp; done) | (go_simp; rfl)); intro gb177 hg w7 hbox hb; have n0_ := a_ (blk_below (q_ BK176.out) hb); have n1_ := a_ (below_step b_ hb); have n2_ := a_ (hbox); have n3_ := a_ ((by rw [hg]; exact (below_size b_) : w.heap.size ≤ gb177)); have n4_ := a_ ((by rw [hg]; exact (below_size b_) : w.heap.size ≤ gb177)); have n5_ := a_ ((by rw [hg]; exact Nat.ne_of_lt (blk_lt (g := gb176) (o := .cells #[.slice A0_0 l0_0.length c0_0, .slice A0_1 l0_1.length c0_1] 26 (0, 0)) (q_ BK176.out)) : gb176 ≠ gb177)); have n6_ := a_ ((by rw [hg]; exact Nat.ne_of_gt (blk_lt (g := gb176) (o := .cells #[.slice A0_0 l0_0.length c0_0, .slice A0_1 l0_1.length c0_1] 26 (0, 0)) (q_ BK176.out)) : gb177 ≠ gb176)); clear BK176; clear HB; have BK176 := n0_; have HB := n1_; have BK177 := n2_; have GW177 := n3_; have GE177 := n4_; have NB176_177 := n5_; have NB177_176 := n6_; clear n0_ n1_ n2_ n3_ n4_ n5_ n6_; clear hb hbox hg))
 (try simp only [Act.put, List.setIfInBounds_toArray, List.set_cons_zero, List.set_cons_succ])
 go_cut [30] (fun v30 wc => ∃ (kq : Nat) (x30_4 : Bool), v30 = .bool x30_4 ∧ Aside0 (spec_ChangePct.j0 kq a1 a2 a3 x30_4 l0_0 l0_1 = some (r1, r2, r3)) ∧ Aside0 (kq ≤ k) ∧ Aside0 (wc.heap[gb176]? = some (.cells #[(.slice A0_0 l0_0.length c0_0), (.slice A0_1 l0_1.length c0_1)] 26 (0, 0))) ∧ Aside0 (wc.heap[gb177]? = some (.cells #[(.slice none 0 0), (.slice none 0 0)] 26 (0, 0))) ∧ Aside0 (Below w.heap.size w wc))
 case first =>
  have H := HC5.out; clear HC5
  replace H := Option.bind_eq_some_iff.mp H
  obtain ⟨t178, A80, H⟩ := H
  replace H : (if t178 = true then ((spec_l1In.f a1 0 3).bind fun t179 => (if t179 = true then ((spec_l1In.f a2 0 99).bind fun t180 => (if t180 = true then ((spec_l1In.f a3 0 99).bind fun t181 => (spec_ChangePct.j0 k a1 a2 a3 (!t181) l0_0 l0_1)) else (spec_ChangePct.j0 k a1 a2 a3 true l0_0 l0_1))) else (spec_ChangePct.j0 k a1 a2 a3 true l0_0 l0_1))) else (spec_ChangePct.j0 k a1 a2 a3 true l0_0 l0_1)) = some (r1, r2, r3) := H
  have A8 := a_ A80; clear A80
  by_cases c9 : t178 = true
  ·subst c9
   have H1 : ((spec_l1In.f a1 0 3).bind fun t179 => (if t179 = true then ((spec_l1In.f a2 0 99).bind fun t180 => (if t180 = true then ((spec_l1In.f a3 0 99).bind fun t181 => (spec_ChangePct.j0 k a1 a2 a3 (!t181) l0_0 l0_1)) else (spec_ChangePct.j0 k a1 a2 a3 true l0_0 l0_1))) else (spec_ChangePct.j0 k a1 a2 a3 true l0_0 l0_1))) = some (r1, r2, r3) := by rw [if_pos rfl] at H; exact H
   clear H; have H := H1; clear H1
   replace H := Option.bind_eq_some_iff.mp H
   obtain ⟨t179, A100, H⟩ := H
   replace H : (if t179 = true then ((spec_l1In.f a2 0 99).bind fun t180 => (if t180 = true then ((spec_l1In.f a3 0 99).bind fun t181 => (spec_ChangePct.j0 k a1 a2 a3 (!t181) l0_0 l0_1)) else (spec_ChangePct.j0 k a1 a2 a3 true l0_0 l0_1))) else (spec_ChangePct.j0 k a1 a2 a3 true l0_0 l0_1)) = some (r1, r2, r3) := H
   have A10 := a_ A100; clear A100
   by_cases c11 : t179 = true
   ·subst c11
    have H1 : ((spec_l1In.f a2 0 99).bind fun t180 => (if t180 = true then ((spec_l1In.f a3 0 99).bind fun t181 => (spec_ChangePct.j0 k a1 a2 a3 (!t181) l0_0 l0_1)) else (spec_ChangePct.j0 k a1 a2 a3 true l0_0 l0_1))) = some (r1, r2, r3) := by rw [if_pos rfl] at H; exact H
    clear H; have H := H1; clear H1
    replace H := Option.bind_eq_some_iff.mp H
    obtain ⟨t180, A120, H⟩ := H
    replace H : (if t180 = true then ((spec_l1In.f a3 0 99).bind fun t181 => (spec_ChangePct.j0 k a1 a2 a3 (!t181) l0_0 l0_1)) else (spec_ChangePct.j0 k a1 a2 a3 true l0_0 l0_1)) = some (r1, r2, r3) := H
    have A12 := a_ A120; clear A120
    by_cases c13 : t180 = true
    ·subst c13
     have H1 : ((spec_l1In.f a3 0 99).bind fun t181 => (spec_ChangePct.j0 k a1 a2 a3 (!t181) l0_0 l0_1)) = some (r1, r2, r3) := by rw [if_pos rfl] at H; exact H
     clear H; have H := H1; clear H1
     replace H := Option.bind_eq_some_iff.mp H
     obtain ⟨t181, A140, H⟩ := H
     replace H : (spec_ChangePct.j0 k a1 a2 a3 (!t181) l0_0 l0_1) = some (r1, r2, r3) := H
     have A14 := a_ A140; clear A140
     have H' := a_ H
     clear H; have hnb15 := NB176_177.out; have hnc15 := NB177_176.out
     have hcz16_0 : w7.cell? ⟨gb176, 0, none⟩ = some (.slice A0_0 l0_0.length c0_0) := (blk_cell BK176.out 0).trans rfl
     have hcz16_1 : w7.cell? ⟨gb176, 1, none⟩ = some (.slice A0_1 l0_1.length c0_1) := (blk_cell BK176.out 1).trans rfl
     have hfz16_0 := blk_frozen BK176.out 0
     have hfz16_1 := blk_frozen BK176.out 1
     go_wp2_with (first | ((with_reducible refine gate_callee (f := 52) rfl ?_); refine goesL_ (some 14) rfl rfl Try.func52 (by kernel_rfl) rfl #[.agg #[.slice A0_0 l0_0.length c0_0, .slice A0_1 l0_1.length c0_1]] rfl la_ ?_; (with_reducible refine (spec_GoodPct.calls k _ _ l0_0 _ _ l0_1 true _ ?side1 ?side2 ?side3 ?side4 A8.out).mono ?_); (case side1 => exact c_ (Kd.C_below HR0_0.out HB.out)); (case side2 => exact HC0_0.out); (case side3 => exact c_ (Kd.C_below HR0_1.out HB.out)); (case side4 => exact HC0_1.out); rintro e w17 ⟨rfl, hb⟩; refine ⟨_, rfl, ?_⟩; have n0_ := a_ (blk_below (q_ BK176.out) hb); have n1_ := a_ (blk_below (q_ BK177.out) hb); have n2_ := a_ (below_step b_ hb); clear BK176; clear BK177; clear HB; have BK176 := n0_; have BK177 := n1_; have HB := n2_; clear n0_ n1_ n2_; (try clear hb); (try clear hb2); (try clear hk); (try clear hi)) | (go_at_call 53; (with_reducible refine (spec_l1In.calls a1 0 3 true _ A10.out).mono ?_); rintro e w' ⟨rfl, ⟨nd, rfl⟩⟩) | (go_at_call 53; (with_reducible refine (spec_l1In.calls a2 0 99 true _ A12.out).mono ?_); rintro e w' ⟨rfl, ⟨nd, rfl⟩⟩) | (go_at_call 53; (with_reducible refine (spec_l1In.calls a3 0 99 t181 _ A14.out).mono ?_); rintro e w' ⟨rfl, ⟨nd, rfl⟩⟩))
     go_meet
     case rel => exact ⟨_, (!t181), (by first | rfl | (simp; done) | (simp [*]; done)), H', ⟨by first | omega | exact Nat.le_refl _⟩, ⟨by exact q_ BK176.out⟩, ⟨by exact q_ BK177.out⟩, ⟨b_⟩⟩
    ·replace c13 := Bool.eq_false_iff.mpr c13
     subst c13
     have H1 : (spec_ChangePct.j0 k a1 a2 a3 true l0_0 l0_1) = some (r1, r2, r3) := by rw [if_neg (show ¬ (false = true) by decide)] at H; exact H
     clear H; have H := H1; clear H1
     have H' := a_ H
     clear H; have hnb18 := NB176_177.out; have hnc18 := NB177_176.out
     have hcz19_0 : w7.cell? ⟨gb176, 0, none⟩ = some (.slice A0_0 l0_0.length c0_0) := (blk_cell BK176.out 0).trans rfl
     have hcz19_1 : w7.cell? ⟨gb176, 1, none⟩ = some (.slice A0_1 l0_1.length c0_1) := (blk_cell BK176.out 1).trans rfl
     have hfz19_0 := blk_frozen BK176.out 0
     have hfz19_1 := blk_frozen BK176.out 1
     go_wp2_with (first | ((with_reducible refine gate_callee (f := 52) rfl ?_); refine goesL_ (some 14) rfl rfl Try.func52 (by kernel_rfl) rfl #[.agg #[.slice A0_0 l0_0.length c0_0, .slice A0_1 l0_1.length c0_1]] rfl la_ ?_; (with_reducible refine (spec_GoodPct.calls k _ _ l0_0 _ _ l0_1 true _ ?side1 ?side2 ?side3 ?side4 A8.out).mono ?_); (case side1 => exact c_ (Kd.C_below HR0_0.out HB.out)); (case side2 => exact HC0_0.out); (case side3 => exact c_ (Kd.C_below HR0_1.out HB.out)); (case side4 => exact HC0_1.out); rintro e w20 ⟨rfl, hb⟩; refine ⟨_, rfl, ?_⟩; have n0_ := a_ (blk_below (q_ BK176.out) hb); have n1_ := a_ (blk_below (q_ BK177.out) hb); have n2_ := a_ (below_step b_ hb); clear BK176; clear BK177; clear HB; have BK176 := n0_; have BK177 := n1_; have HB := n2_; clear n0_ n1_ n2_; (try clear hb); (try clear hb2); (try clear hk); (try clear hi)) | (go_at_call 53; (with_reducible refine (spec_l1In.calls a1 0 3 true _ A10.out).mono ?_); rintro e w' ⟨rfl, ⟨nd, rfl⟩⟩) | (go_at_call 53; (with_reducible refine (spec_l1In.calls a2 0 99 false _ A12.out).mono ?_); rintro e w' ⟨rfl, ⟨nd, rfl⟩⟩))
     go_meet
     case rel => exact ⟨_, (true), (by first | rfl | (simp; done) | (simp [*]; done)), H', ⟨by first | omega | exact Nat.le_refl _⟩, ⟨by exact q_ BK176.out⟩, ⟨by exact q_ BK177.out⟩, ⟨b_⟩⟩
   ·replace c11 := Bool.eq_false_iff.mpr c11
    subst c11
    have H1 : (spec_ChangePct.j0 k a1 a2 a3 true l0_0 l0_1) = some (r1, r2, r3) := by rw [if_neg (show ¬ (false = true) by decide)] at H; exact H
    clear H; have H := H1; clear H1
    have H' := a_ H
    clear H; have hnb21 := NB176_177.out; have hnc21 := NB177_176.out
    have hcz22_0 : w7.cell? ⟨gb176, 0, none⟩ = some (.slice A0_0 l0_0.length c0_0) := (blk_cell BK176.out 0).trans rfl
    have hcz22_1 : w7.cell? ⟨gb176, 1, none⟩ = some (.slice A0_1 l0_1.length c0_1) := (blk_cell BK176.out 1).trans rfl
    have hfz22_0 := blk_frozen BK176.out 0
    have hfz22_1 := blk_frozen BK176.out 1
    go_wp2_with (first | ((with_reducible refine gate_callee (f := 52) rfl ?_); refine goesL_ (some 14) rfl rfl Try.func52 (by kernel_rfl) rfl #[.agg #[.slice A0_0 l0_0.length c0_0, .slice A0_1 l0_1.length c0_1]] rfl la_ ?_; (with_reducible refine (spec_GoodPct.calls k _ _ l0_0 _ _ l0_1 true _ ?side1 ?side2 ?side3 ?side4 A8.out).mono ?_); (case side1 => exact c_ (Kd.C_below HR0_0.out HB.out)); (case side2 => exact HC0_0.out); (case side3 => exact c_ (Kd.C_below HR0_1.out HB.out)); (case side4 => exact HC0_1.out); rintro e w23 ⟨rfl, hb⟩; refine ⟨_, rfl, ?_⟩; have n0_ := a_ (blk_below (q_ BK176.out) hb); have n1_ := a_ (blk_below (q_ BK177.out) hb); have n2_ := a_ (below_step b_ hb); clear BK176; clear BK177; clear HB; have BK176 := n0_; have BK177 := n1_; have HB := n2_; clear n0_ n1_ n2_; (try clear hb); (try clear hb2); (try clear hk); (try clear hi)) | (go_at_call 53; (with_reducible refine (spec_l1In.calls a1 0 3 false _ A10.out).mono ?_); rintro e w' ⟨rfl, ⟨nd, rfl⟩⟩))
    go_meet
    case rel => exact ⟨_, (true), (by first | rfl | (simp; done) | (simp [*]; done)), H', ⟨by first | omega | exact Nat.le_refl _⟩, ⟨by exact q_ BK176.out⟩, ⟨by exact q_ BK177.out⟩, ⟨b_⟩⟩
  ·replace c9 := Bool.eq_false_iff.mpr c9
   subst c9
   have H1 : (spec_ChangePct.j0 k a1 a2 a3 true l0_0 l0_1) = some (r1, r2, r3) := by rw [if_neg (show ¬ (false = true) by decide)] at H; exact H
   clear H; have H := H1; clear H1
   have H' := a_ H
   clear H; have hnb24 := NB176_177.out; have hnc24 := NB177_176.out
   have hcz25_0 : w7.cell? ⟨gb176, 0, none⟩ = some (.slice A0_0 l0_0.length c0_0) := (blk_cell BK176.out 0).trans rfl
   have hcz25_1 : w7.cell? ⟨gb176, 1, none⟩ = some (.slice A0_1 l0_1.length c0_1) := (blk_cell BK176.out 1).trans rfl
   have hfz25_0 := blk_frozen BK176.out 0
   have hfz25_1 := blk_frozen BK176.out 1
   go_wp2_with (first | ((with_reducible refine gate_callee (f := 52) rfl ?_); refine goesL_ (some 14) rfl rfl Try.func52 (by kernel_rfl) rfl #[.agg #[.slice A0_0 l0_0.length c0_0, .slice A0_1 l0_1.length c0_1]] rfl la_ ?_; (with_reducible refine (spec_GoodPct.calls k _ _ l0_0 _ _ l0_1 false _ ?side1 ?side2 ?side3 ?side4 A8.out).mono ?_); (case side1 => exact c_ (Kd.C_below HR0_0.out HB.out)); (case side2 => exact HC0_0.out); (case side3 => exact c_ (Kd.C_below HR0_1.out HB.out)); (case side4 => exact HC0_1.out); rintro e w26 ⟨rfl, hb⟩; refine ⟨_, rfl, ?_⟩; have n0_ := a_ (blk_below (q_ BK176.out) hb); have n1_ := a_ (blk_below (q_ BK177.out) hb); have n2_ := a_ (below_step b_ hb); clear BK176; clear BK177; clear HB; have BK176 := n0_; have BK177 := n1_; have HB := n2_; clear n0_ n1_ n2_; (try clear hb); (try clear hb2); (try clear hk); (try clear hi)))
   go_meet
   case rel => exact ⟨_, (true), (by first | rfl | (simp; done) | (simp [*]; done)), H', ⟨by first | omega | exact Nat.le_refl _⟩, ⟨by exact q_ BK176.out⟩, ⟨by exact q_ BK177.out⟩, ⟨b_⟩⟩
 case rest =>
  clear HC5; (try clear c1); (try clear c2); (try clear p2); (try clear c5); (try clear c9); (try clear c11); (try clear c13); (try clear c15); (try clear c18); (try clear c21); (try clear c24); (try clear hcz16_0); (try clear hcz16_1); (try clear hcz19_0); (try clear hcz19_1); (try clear hcz22_0); (try clear hcz22_1); (try clear hcz25_0); (try clear hcz25_1); (try clear hfz16_0); (try clear hfz16_1); (try clear hfz19_0); (try clear hfz19_1); (try clear hfz22_0); (try clear hfz22_1); (try clear hfz25_0); (try clear hfz25_1)
  obtain ⟨kq, x30_4, rfl, HA, HJ4, BK176, BK177, HB⟩ := hcut
  cases kq with
  | zero => exact absurd HA.out (by simp [spec_ChangePct.j0])
  | succ kj4 =>
   have H := HA.out; clear HA
   simp only [spec_ChangePct.j0] at H
   by_cases c27 : x30_4 = true
   ·subst c27
    have H1 : (some (([] : List Int), ([] : List Int), false)) = some (r1, r2, r3) := by rw [if_pos rfl] at H; exact H
    clear H; have H := H1; clear H1
    simp only [Option.some.injEq, Prod.mk.injEq] at H
    obtain ⟨rfl, rfl, rfl⟩ := H
    have hnb28 := NB177_176.out; have hnc28 := NB176_177.out
    have hcz29_0 : wc.cell? ⟨gb177, 0, none⟩ = some (.slice none 0 0) := (blk_cell BK177.out 0).trans rfl
    have hcz29_1 : wc.cell? ⟨gb177, 1, none⟩ = some (.slice none 0 0) := (blk_cell BK177.out 1).trans rfl
    have hfz29_0 := blk_frozen BK177.out 0
    have hfz29_1 := blk_frozen BK177.out 1
    go_wp2
    refine bodyPost_ret (results_ct rfl _ _ gb177 26 #[.slice none 0 0, .slice none 0 0] (0, 0) _ rfl (by refine q_ ?_; refine blk_put (cs := #[.slice none 0 0, .slice none 0 0]) ?_ 1 _ rfl; refine q_ ?_; refine blk_put (cs := #[.slice none 0 0, .slice none 0 0]) ?_ 0 _ rfl; exact q_ BK177.out) Try.underlying26 rfl (by kernel_rfl)) rfl ?_
    exact ⟨_, _, by first | rfl | (simp [errW_none, errW_some] <;> rfl) | (simp [*, errW_none, errW_some] <;> rfl), by first | exact Kd.R_nil _ _ _ _ _ | exact Kd.N_nil _ _ _ _ _ | exact Kd.V_nil _ _ _ _ _ | exact Kd.Q_nil _ _ _ _ _ | exact Kd.S_nil _ _ _ _ _, by first | exact Kd.R_nil _ _ _ _ _ | exact Kd.N_nil _ _ _ _ _ | exact Kd.V_nil _ _ _ _ _ | exact Kd.Q_nil _ _ _ _ _ | exact Kd.S_nil _ _ _ _ _, b_⟩
   ·replace c27 := Bool.eq_false_iff.mpr c27
    subst c27
    have H1 : ((spec_l13OwnPct.f l0_0 l0_1).bind fun bt182 => (if a1 = 0 then (if 0 ≤ (Int.tmod a3 5) then (if (Int.tmod a3 5) < (l0_0.length : Int) then (if 0 ≤ (Int.tmod a2 5) then (if (Int.tmod a2 5) < (bt182.1.length : Int) then (if (Int.tmod a2 5) < (l0_0.length : Int) then (if (Int.tmod a3 5) < (bt182.1.length : Int) then (some (((bt182.1.set ((Int.tmod a2 5) : Int).toNat (rd l0_0 (Int.tmod a3 5))).set ((Int.tmod a3 5) : Int).toNat (rd l0_0 (Int.tmod a2 5))), bt182.2, true)) else (none)) else (none)) else (none)) else (none)) else (none)) else (none)) else (if a1 > 1 then (spec_ChangePct.j1 kj4 a1 a2 a3 (l0_1.length : Int) ((l0_1.length : Int) == 0) l0_0 l0_1 bt182.1 bt182.2) else (spec_ChangePct.j1 kj4 a1 a2 a3 (l0_1.length : Int) false l0_0 l0_1 bt182.1 bt182.2)))) = some (r1, r2, r3) := by rw [if_neg (show ¬ (false = true) by decide)] at H; exact H
    clear H; have H := H1; clear H1
    replace H := Option.bind_eq_some_iff.mp H
    obtain ⟨⟨t182, t185⟩, A300, H⟩ := H
    replace H : (if a1 = 0 then (if 0 ≤ (Int.tmod a3 5) then (if (Int.tmod a3 5) < (l0_0.length : Int) then (if 0 ≤ (Int.tmod a2 5) then (if (Int.tmod a2 5) < (t182.length : Int) then (if (Int.tmod a2 5) < (l0_0.length : Int) then (if (Int.tmod a3 5) < (t182.length : Int) then (some (((t182.set ((Int.tmod a2 5) : Int).toNat (rd l0_0 (Int.tmod a3 5))).set ((Int.tmod a3 5) : Int).toNat (rd l0_0 (Int.tmod a2 5))), t185, true)) else (none)) else (none)) else (none)) else (none)) else (none)) else (none)) else (if a1 > 1 then (spec_ChangePct.j1 kj4 a1 a2 a3 (l0_1.length : Int) ((l0_1.length : Int) == 0) l0_0 l0_1 t182 t185) else (spec_ChangePct.j1 kj4 a1 a2 a3 (l0_1.length : Int) false l0_0 l0_1 t182 t185))) = some (r1, r2, r3) := H
    have A30 := a_ A300; clear A300; have HC31 := a_ H; clear H; have hnb32 := NB176_177.out; have hnc32 := NB177_176.out
    have hcz33_0 : wc.cell? ⟨gb176, 0, none⟩ = some (.slice A0_0 l0_0.length c0_0) := (blk_cell BK176.out 0).trans rfl
    have hcz33_1 : wc.cell? ⟨gb176, 1, none⟩ = some (.slice A0_1 l0_1.length c0_1) := (blk_cell BK176.out 1).trans rfl
    have hfz33_0 := blk_frozen BK176.out 0
    have hfz33_1 := blk_frozen BK176.out 1
    go_upto_block 0 with (first | ((with_reducible refine gate_callee (f := 54) rfl ?_); refine goesL_ (some 33) rfl rfl Try.func54 (by kernel_rfl) rfl #[.agg #[.slice A0_0 l0_0.length c0_0, .slice A0_1 l0_1.length c0_1]] rfl la_ ?_; (with_reducible refine (spec_l13OwnPct.calls _ _ l0_0 _ _ l0_1 t182 t185 _ ?side1 ?side2 ?side3 ?side4 A30.out).mono ?_); (case side1 => exact c_ (Kd.C_below HR0_0.out HB.out)); (case side2 => exact HC0_0.out); (case side3 => exact c_ (Kd.C_below HR0_1.out HB.out)); (case side4 => exact HC0_1.out); rintro e w34 ⟨v183, v186, rfl, ho0, ho1, hb⟩; refine ⟨_, rfl, ?_⟩; have n0_ := a_ (Kd.R_lower ho0 (below_size b_)); have n1_ := a_ (Kd.R_lower ho1 (below_size b_)); have n2_ := a_ (blk_below (q_ BK176.out) hb); have n3_ := a_ (blk_below (q_ BK177.out) hb); have n4_ := a_ (below_step b_ hb); clear BK176; clear BK177; clear HB; have HO184 := n0_; have HO187 := n1_; have BK176 := n2_; have BK177 := n3_; have HB := n4_; clear n0_ n1_ n2_ n3_ n4_; (try clear hb); (try clear hb2); (try clear hk); (try clear hi); (try clear ho0); (try clear ho1)) | ((with_reducible refine gate_dst (N := 10) rfl ?_); refine box_event ?hg (N := 10) ?hd (cs := #[.slice none 0 0, .slice none 0 0]) (t := 26) ?hr ?_; (case hd => rfl); (case hg => rfl); (case hr => first | (go_simp; done) | (go_simp; rfl)); intro gb188 hg w35 hbox hb; have n0_ := a_ (Kd.R_below (r_ HO184.out) hb); have n1_ := a_ (Kd.R_below (r_ HO187.out) hb); have n2_ := a_ (blk_below (q_ BK176.out) hb); have n3_ := a_ (blk_below (q_ BK177.out) hb); have n4_ := a_ (below_step b_ hb); have n5_ := a_ (hbox); have n6_ := a_ ((by rw [hg]; exact (below_size b_) : w.heap.size ≤ gb188)); have n7_ := a_ ((by rw [hg]; exact (below_size b_) : w.heap.size ≤ gb188)); have n8_ := a_ ((by rw [hg]; exact Nat.ne_of_lt (blk_lt (g := gb176) (o := .cells #[.slice A0_0 l0_0.length c0_0, .slice A0_1 l0_1.length c0_1] 26 (0, 0)) (q_ BK176.out)) : gb176 ≠ gb188)); have n9_ := a_ ((by rw [hg]; exact Nat.ne_of_gt (blk_lt (g := gb176) (o := .cells #[.slice A0_0 l0_0.length c0_0, .slice A0_1 l0_1.length c0_1] 26 (0, 0)) (q_ BK176.out)) : gb188 ≠ gb176)); have n10_ := a_ ((by rw [hg]; exact Nat.ne_of_lt (blk_lt (g := gb177) (o := .cells #[.slice none 0 0, .slice none 0 0] 26 (0, 0)) (q_ BK177.out)) : gb177 ≠ gb188)); have n11_ := a_ ((by rw [hg]; exact Nat.ne_of_gt (blk_lt (g := gb177) (o := .cells #[.slice none 0 0, .slice none 0 0] 26 (0, 0)) (q_ BK177.out)) : gb188 ≠ gb177)); clear HO184; clear HO187; clear BK176; clear BK177; clear HB; have HO184 := n0_; have HO187 := n1_; have BK176 := n2_; have BK177 := n3_; have HB := n4_; have BK188 := n5_; have GW188 := n6_; have GE188 := n7_; have NB176_188 := n8_; have NB188_176 := n9_; have NB177_188 := n10_; have NB188_177 := n11_; clear n0_ n1_ n2_ n3_ n4_ n5_ n6_ n7_ n8_ n9_ n10_ n11_; clear hb hbox hg; obtain ⟨Ao36, co36, eo36⟩ := Kd.R_slice HO184.out; subst eo36; have hnb37 := NB188_176.out; have hnc37 := NB176_188.out; have hnb38 := NB188_177.out; have hnc38 := NB177_188.out; have hcz39_0 : w35.cell? ⟨gb188, 0, none⟩ = some (.slice none 0 0) := (blk_cell BK188.out 0).trans rfl; have hcz39_1 : w35.cell? ⟨gb188, 1, none⟩ = some (.slice none 0 0) := (blk_cell BK188.out 1).trans rfl; have hfz39_0 := blk_frozen BK188.out 0; have hfz39_1 := blk_frozen BK188.out 1; obtain ⟨Ao40, co40, eo40⟩ := Kd.R_slice HO187.out; subst eo40; have hcz41_0 : w35.cell? ⟨gb176, 0, none⟩ = some (.slice A0_0 l0_0.length c0_0) := (blk_cell BK176.out 0).trans rfl; have hcz41_1 : w35.cell? ⟨gb176, 1, none⟩ = some (.slice A0_1 l0_1.length c0_1) := (blk_cell BK176.out 1).trans rfl; have hfz41_0 := blk_frozen BK176.out 0; have hfz41_1 := blk_frozen BK176.out 1))
    (try simp only [Act.put, List.setIfInBounds_toArray, List.set_cons_zero, List.set_cons_succ])
    go_cut [] (fun wc => ∃ (kq : Nat) (x189000_30 : List Int) (x189001_30 : List Int) (u189000 : Value) (u189001 : Value), Aside0 (spec_ChangePct.j2 kq a1 a2 a3 l0_0 l0_1 x189000_30 x189001_30 = some (r1, r2, r3)) ∧ Aside0 (kq ≤ kj4) ∧ Aside0 (Kd.R (Kd.int .i64) 3 wc w.heap.size (fun k_ => some k_ ≠ (u189001 : Value).ownBlock) u189000 x189000_30) ∧ Aside0 (Kd.R (Kd.int .i64) 3 wc w.heap.size (fun k_ => some k_ ≠ (u189000 : Value).ownBlock) u189001 x189001_30) ∧ Aside0 (wc.heap[gb176]? = some (.cells #[(.slice A0_0 l0_0.length c0_0), (.slice A0_1 l0_1.length c0_1)] 26 (0, 0))) ∧ Aside0 (wc.heap[gb177]? = some (.cells #[(.slice none 0 0), (.slice none 0 0)] 26 (0, 0))) ∧ Aside0 (wc.heap[gb188]? = some (.cells #[u189000, u189001] 26 (0, 0))) ∧ Aside0 (Below w.heap.size w wc))
    case first =>
     have H := HC31.out; clear HC31
     by_cases c42 : a1 = 0
     ·rw [if_pos c42] at H
      have c42b0 : (a1 == 0) = true := beq_iff_eq.mpr c42
      have c42b1 : (a1 != 0) = false := bne_eq_false_iff_eq.mpr c42
      clear c42
      (first | rw [c42b0] | (simp only [i64_w, i32_w]; rw [c42b0]) | skip)
      obtain ⟨ji43, hji43⟩ : ∃ j_ : Int, (Int.tmod a3 5) = j_ := ⟨_, rfl⟩
      replace H : (if 0 ≤ (ji43) then (if (ji43) < (l0_0.length : Int) then (if 0 ≤ (Int.tmod a2 5) then (if (Int.tmod a2 5) < (t182.length : Int) then (if (Int.tmod a2 5) < (l0_0.length : Int) then (if (ji43) < (t182.length : Int) then (some (((t182.set ((Int.tmod a2 5) : Int).toNat (rd l0_0 (ji43))).set ((ji43) : Int).toNat (rd l0_0 (Int.tmod a2 5))), t185, true)) else (none)) else (none)) else (none)) else (none)) else (none)) else (none)) = some (r1, r2, r3) := by first | (rw [hji43] at H; exact H) | (simp only [hji43] at H ⊢; exact H)
      by_cases c44 : 0 ≤ (ji43)
      ·rw [if_pos c44] at H
       have c44b0 : decide (0 ≤ (ji43)) = true := decide_eq_true c44
       clear c44
       by_cases c45 : (ji43) < (l0_0.length : Int)
       ·rw [if_pos c45] at H
        have c45b0 : decide ((ji43) < (l0_0.length : Int)) = true := decide_eq_true c45
        clear c45
        obtain ⟨ji46, hji46⟩ : ∃ j_ : Int, (Int.tmod a2 5) = j_ := ⟨_, rfl⟩
        replace H : (if 0 ≤ (ji46) then (if (ji46) < (t182.length : Int) then (if (ji46) < (l0_0.length : Int) then (if (ji43) < (t182.length : Int) then (some (((t182.set ((ji46) : Int).toNat (rd l0_0 (ji43))).set ((ji43) : Int).toNat (rd l0_0 (ji46))), t185, true)) else (none)) else (none)) else (none)) else (none)) = some (r1, r2, r3) := by first | (rw [hji46] at H; exact H) | (simp only [hji46] at H ⊢; exact H)
        by_cases c47 : 0 ≤ (ji46)
        ·rw [if_pos c47] at H
         have c47b0 : decide (0 ≤ (ji46)) = true := decide_eq_true c47
         clear c47
         by_cases c48 : (ji46) < (t182.length : Int)
         ·rw [if_pos c48] at H
          have c48b0 : decide ((ji46) < (t182.length : Int)) = true := decide_eq_true c48
          clear c48
          obtain ⟨y190, hy190⟩ : ∃ y_ : List Int, y_ = (t182.set ((ji46) : Int).toNat (rd l0_0 (ji43))) := ⟨_, rfl⟩
          replace H : (if (ji46) < (l0_0.length : Int) then (if (ji43) < (t182.length : Int) then (some ((y190.set ((ji43) : Int).toNat (rd l0_0 (ji46))), t185, true)) else (none)) else (none)) = some (r1, r2, r3) := by first|(rw [hy190]; with_reducible exact H)|(rw [hy190]; exact (Option.bind_some _ _).symm.trans H)|(rw [hy190]; exact H)|exact H
          have Ny190 := a_ hy190; clear hy190
          by_cases c50 : (ji46) < (l0_0.length : Int)
          ·rw [if_pos c50] at H
           have c50b0 : decide ((ji46) < (l0_0.length : Int)) = true := decide_eq_true c50
           clear c50
           by_cases c51 : (ji43) < (t182.length : Int)
           ·rw [if_pos c51] at H
            have c51b0 : decide ((ji43) < (t182.length : Int)) = true := decide_eq_true c51
            clear c51
            obtain ⟨y192, hy192⟩ : ∃ y_ : List Int, y_ = (y190.set ((ji43) : Int).toNat (rd l0_0 (ji46))) := ⟨_, rfl⟩
            replace H : (some (y192, t185, true)) = some (r1, r2, r3) := by first|(rw [hy192]; with_reducible exact H)|(rw [hy192]; exact (Option.bind_some _ _).symm.trans H)|(rw [hy192]; exact H)|exact H
            have Ny192 := a_ hy192; clear hy192
            simp only [Option.some.injEq, Prod.mk.injEq] at H
            obtain ⟨rfl, rfl, rfl⟩ := H
            try go_wp2
            have n0_ : Aside0 (Kd.R (Kd.int .i64) 3 ((w35.setCell ⟨gb188, 0, none⟩ (.slice Ao36 t182.length co36)).setCell ⟨gb188, 1, none⟩ (.slice Ao40 t185.length co40)) w.heap.size (fun k_ => some k_ ≠ (.slice Ao40 t185.length co40 : Value).ownBlock) (.slice Ao36 t182.length co36) t182) := ⟨by refine r_ ?_; exact r2_ HO184.out BK188.out (by decide)⟩
            have n1_ : Aside0 (Kd.R (Kd.int .i64) 3 ((w35.setCell ⟨gb188, 0, none⟩ (.slice Ao36 t182.length co36)).setCell ⟨gb188, 1, none⟩ (.slice Ao40 t185.length co40)) w.heap.size (fun k_ => some k_ ≠ (.slice Ao36 t182.length co36 : Value).ownBlock) (.slice Ao40 t185.length co40) t185) := ⟨by refine r_ ?_; exact r2_ HO187.out BK188.out (by decide)⟩
            have n2_ : Aside0 (((w35.setCell ⟨gb188, 0, none⟩ (.slice Ao36 t182.length co36)).setCell ⟨gb188, 1, none⟩ (.slice Ao40 t185.length co40)).heap[gb176]? = some (.cells #[.slice A0_0 l0_0.length c0_0, .slice A0_1 l0_1.length c0_1] 26 (0, 0))) := ⟨by refine q_ ?_; refine blk_far ?_ NB176_188.out _; refine q_ ?_; refine blk_far ?_ NB176_188.out _; exact q_ BK176.out⟩
            have n3_ : Aside0 (((w35.setCell ⟨gb188, 0, none⟩ (.slice Ao36 t182.length co36)).setCell ⟨gb188, 1, none⟩ (.slice Ao40 t185.length co40)).heap[gb177]? = some (.cells #[.slice none 0 0, .slice none 0 0] 26 (0, 0))) := ⟨by refine q_ ?_; refine blk_far ?_ NB177_188.out _; refine q_ ?_; refine blk_far ?_ NB177_188.out _; exact q_ BK177.out⟩
            have n4_ : Aside0 (((w35.setCell ⟨gb188, 0, none⟩ (.slice Ao36 t182.length co36)).setCell ⟨gb188, 1, none⟩ (.slice Ao40 t185.length co40)).heap[gb188]? = some (.cells #[.slice Ao36 t182.length co36, .slice Ao40 t185.length co40] 26 (0, 0))) := ⟨by refine q_ ?_; refine blk_put (cs := #[.slice Ao36 t182.length co36, .slice none 0 0]) ?_ 1 _ rfl; refine q_ ?_; refine blk_put (cs := #[.slice none 0 0, .slice none 0 0]) ?_ 0 _ rfl; exact q_ BK188.out⟩
            have n5_ : Aside0 (Below w.heap.size w ((w35.setCell ⟨gb188, 0, none⟩ (.slice Ao36 t182.length co36)).setCell ⟨gb188, 1, none⟩ (.slice Ao40 t185.length co40))) := ⟨b_⟩
            (try clear HO184); (try clear HO187); (try clear BK176); (try clear BK177); (try clear BK188); (try clear HB)
            generalize ((w35.setCell ⟨gb188, 0, none⟩ (.slice Ao36 t182.length co36)).setCell ⟨gb188, 1, none⟩ (.slice Ao40 t185.length co40)) = w53 at n0_ n1_ n2_ n3_ n4_ n5_ ⊢
            have HO184 := n0_; have HO187 := n1_; have BK176 := n2_; have BK177 := n3_; have BK188 := n4_; have HB := n5_; clear n0_ n1_ n2_ n3_ n4_ n5_
            have n0_ := a_ (Kd.R_drew HO184.out)
            have n1_ := a_ (Kd.R_drew HO187.out)
            have n2_ := a_ (blk_drew BK176.out)
            have n3_ := a_ (blk_drew BK177.out)
            have n4_ := a_ (blk_drew BK188.out)
            have n5_ := a_ (below_drew1 HB.out)
            clear HO184; clear HO187; clear BK176; clear BK177; clear BK188; clear HB; have HO184 := n0_; have HO187 := n1_; have BK176 := n2_; have BK177 := n3_; have BK188 := n4_; have HB := n5_; clear n0_ n1_ n2_ n3_ n4_ n5_
            have p189 : 0 ≤ ((ji43) : Int) := od_
            have q189 : (ji43) < (l0_0.length : Int) := od_
            obtain ⟨ad189, e189, hx189_0⟩ := Kd.at_int HR0_0.out (ji43) p189 q189
            have hw189_0 := hx189_0
            cases e189
            replace hx189_0 := (HB.out.cell (World.block_lt_of_cell? w _ hx189_0)).trans hx189_0
            replace p189 := eq_true p189; replace q189 := eq_true q189
            have p49 : 0 ≤ ((ji46) : Int) := od_
            have q49 : ((ji46) : Int) < ((t182.length : Int) : Int) := od_
            obtain ⟨go49, co49, eo49, gb49, gl49, cl49, HG49⟩ := Kd.R_form HO184.out (by omega)
            (first | cases eo49 | (injection eo49 with ea_ en_ ec_; (first | subst ea_ | (injection ea_ with ea_; subst ea_)); subst ec_; clear en_))
            have GB49 := a_ gb49; have GG49 := a_ HG49; clear gb49 gl49 HG49
            obtain ⟨hx49_0, hf49_0⟩ := Kd.R_celln 0 HO184.out ((ji46) : Int) p49 q49
            replace p49 := eq_true p49; replace q49 := eq_true q49
            have HP55 := Kd.R_putn HO184.out ((ji46) : Int) (rd l0_0 (ji43))
            rw [← Ny190.out] at HP55
            have HQ55 := a_ HP55; clear HP55
            refine start_ (n := 12) (S := fun w' => w'.cell? ⟨gb188, 0, none⟩ = some (.slice (some ⟨go49, 0, none⟩) t182.length co36) ∧ w'.cell? ⟨gb188, 1, none⟩ = some (.slice Ao40 t185.length co40) ∧ w'.cell? ⟨gb176, 0, none⟩ = some (.slice (some ad189) l0_0.length c0_0) ∧ w'.cell? ⟨gb176, 1, none⟩ = some (.slice A0_1 l0_1.length c0_1) ∧ w'.cell? (ad189.add ((ji43)).toNat) = some (.int .i64 (rd l0_0 (ji43)))) (ds := [11]) #[false, false, false, false, false, false, false, false, false, false, false, false] (by kernel_rfl) rfl rfl ⟨(blk_cell BK188.out 0).trans rfl, (blk_cell BK188.out 1).trans rfl, (blk_cell BK176.out 0).trans rfl, (blk_cell BK176.out 1).trans rfl, ((HB.out.cell (World.block_lt_of_cell? w _ hw189_0)).trans hw189_0)⟩ (fun hHeld => ?_); refine with_tabW spec_ChangePct.tab6 spec_ChangePct.bits6 (fun HT_ HW_ => ?_)
            generalize w53.drew = w54 at HO184 HO187 BK176 BK177 BK188 HB GG49 HQ55 hf49_0 hx189_0 hx49_0 hHeld ⊢
            refine pure_ (i := 0) (N := some 40) (v := ?_) (a' := ?_) #[true, false, false, false, false, false, false, false, false, false, false, false] rfl rfl (any_of HT_.out (by kernel_rfl)) (fun _ _ _ h => h) (Or.inl ⟨by rfl, ?_⟩) ?_ ?_
            rotate_left
            ·intro w'
             go_simp
             with_reducible rfl
            rotate_left
            ·simp only [Act.put, List.setIfInBounds_toArray, List.set_cons_zero, List.set_cons_succ, i64_w, i32_w]
             rfl
            refine pure_ (i := 2) (N := some 42) (v := ?_) (a' := ?_) #[true, false, true, false, false, false, false, false, false, false, false, false] rfl rfl (any_of HT_.out (by kernel_rfl)) (fun _ _ _ h => h) (Or.inl ⟨by rfl, ?_⟩) ?_ ?_
            rotate_left
            ·intro w'
             go_simp
             with_reducible rfl
            rotate_left
            ·simp only [Act.put, List.setIfInBounds_toArray, List.set_cons_zero, List.set_cons_succ, i64_w, i32_w]
             rfl
            refine pure_ (i := 3) (N := some 43) (v := ?_) (a' := ?_) #[true, false, true, true, false, false, false, false, false, false, false, false] rfl rfl (any_of HT_.out (by kernel_rfl)) (fun _ _ _ h => h) (Or.inl ⟨by rfl, ?_⟩) ?_ ?_
            rotate_left
            ·intro w'
             go_simp
             with_reducible rfl
            rotate_left
            ·simp only [Act.put, List.setIfInBounds_toArray, List.set_cons_zero, List.set_cons_succ, i64_w, i32_w]
             rfl
            refine pure_ (i := 4) (N := some 44) (v := ?_) (a' := ?_) #[true, false, true, true, true, false, false, false, false, false, false, false] rfl rfl (any_of HT_.out (by kernel_rfl)) (fun _ _ _ h => h) (Or.inl ⟨by rfl, ?_⟩) ?_ ?_
            rotate_left
            ·intro w'
             go_simp
             with_reducible rfl
            rotate_left
            ·simp only [Act.put, List.setIfInBounds_toArray, List.set_cons_zero, List.set_cons_succ, i64_w, i32_w]
             rfl
            refine pure_ (i := 6) (N := some 46) (v := ?_) (a' := ?_) #[true, false, true, true, true, false, true, false, false, false, false, false] rfl rfl (any_of HT_.out (by kernel_rfl)) (fun _ _ _ h => h) (Or.inl ⟨by rfl, ?_⟩) ?_ ?_
            rotate_left
            ·intro w'
             go_simp
             with_reducible rfl
            rotate_left
            ·simp only [Act.put, List.setIfInBounds_toArray, List.set_cons_zero, List.set_cons_succ, i64_w, i32_w]
             rfl
            refine pure_ (i := 7) (N := some 47) (v := ?_) (a' := ?_) #[true, false, true, true, true, false, true, true, false, false, false, false] rfl rfl (any_of HT_.out (by kernel_rfl)) (fun _ _ _ h => h) (Or.inl ⟨by rfl, ?_⟩) ?_ ?_
            rotate_left
            ·intro w'
             go_simp
             with_reducible rfl
            rotate_left
            ·simp only [Act.put, List.setIfInBounds_toArray, List.set_cons_zero, List.set_cons_succ, i64_w, i32_w]
             rfl
            refine take_ (i := 1) (N := some 41) (v := ?_) (a' := ?_) #[true, true, true, true, true, false, true, true, false, false, false, false] rfl rfl (take_ofW HT_.out HW_.out (by kernel_rfl)) (fun _ _ _ h => h) (Or.inl ⟨by rfl, ?_⟩) hHeld ?_ ?_
            rotate_left
            ·rintro w' ⟨s0, s1, s2, s3, s4⟩
             go_simp
             with_reducible rfl
            rotate_left
            ·simp only [Act.put, List.setIfInBounds_toArray, List.set_cons_zero, List.set_cons_succ, i64_w, i32_w]
             rfl
            refine take_ (i := 5) (N := some 45) (v := ?_) (a' := ?_) #[true, true, true, true, true, true, true, true, false, false, false, false] rfl rfl (take_ofW HT_.out HW_.out (by kernel_rfl)) (fun _ _ _ h => h) (Or.inl ⟨by rfl, ?_⟩) hHeld ?_ ?_
            rotate_left
            ·rintro w' ⟨s0, s1, s2, s3, s4⟩
             go_simp
             with_reducible rfl
            rotate_left
            ·simp only [Act.put, List.setIfInBounds_toArray, List.set_cons_zero, List.set_cons_succ, i64_w, i32_w]
             rfl
            refine pure_ (i := 8) (N := some 48) (v := ?_) (a' := ?_) #[true, true, true, true, true, true, true, true, true, false, false, false] rfl rfl (any_of HT_.out (by kernel_rfl)) (fun _ _ _ h => h) (Or.inl ⟨by rfl, ?_⟩) ?_ ?_
            rotate_left
            ·intro w'
             go_simp
             with_reducible rfl
            rotate_left
            ·simp only [Act.put, List.setIfInBounds_toArray, List.set_cons_zero, List.set_cons_succ, i64_w, i32_w]
             rfl
            refine take_ (i := 9) (N := some 49) (v := ?_) (a' := ?_) #[true, true, true, true, true, true, true, true, true, true, false, false] rfl rfl (take_ofW HT_.out HW_.out (by kernel_rfl)) (fun _ _ _ h => h) (Or.inl ⟨by rfl, ?_⟩) hHeld ?_ ?_
            rotate_left
            ·rintro w' ⟨s0, s1, s2, s3, s4⟩
             go_simp
             with_reducible rfl
            rotate_left
            ·simp only [Act.put, List.setIfInBounds_toArray, List.set_cons_zero, List.set_cons_succ, i64_w, i32_w]
             rfl
            refine pure_ (i := 10) (N := some 50) (v := ?_) (a' := ?_) #[true, true, true, true, true, true, true, true, true, true, true, false] rfl rfl (any_of HT_.out (by kernel_rfl)) (fun _ _ _ h => h) (Or.inl ⟨by rfl, ?_⟩) ?_ ?_
            rotate_left
            ·intro w'
             go_simp
             with_reducible rfl
            rotate_left
            ·simp only [Act.put, List.setIfInBounds_toArray, List.set_cons_zero, List.set_cons_succ, i64_w, i32_w]
             rfl
            refine last_ (i := 11) (N := none) #[true, true, true, true, true, true, true, true, true, true, true, true] rfl rfl (one_of HT_.out (by kernel_rfl)) (by decide) (fun K hK => ?_)
            refine skip_ (w1 := ?_) (by rfl) rfl ?_ ?_
            rotate_left
            ·go_simp
             rfl
            refine hK.out _ _ ?_
            clear hK K
            refine done_ (done_of HT_.out (by kernel_rfl)) ?_
            have n0_ : Aside0 (Kd.R (Kd.int .i64) 3 (w54.setCell ⟨go49, ((ji46) : Int).toNat, none⟩ (.int .i64 (rd l0_0 (ji43)))) w.heap.size (fun k_ => some k_ ≠ (.slice Ao40 t185.length co40 : Value).ownBlock) (.slice (some ⟨go49, 0, none⟩) t182.length co36) y190) := ⟨by exact r_ HQ55.out⟩
            have n1_ : Aside0 (Kd.R (Kd.int .i64) 3 (w54.setCell ⟨go49, ((ji46) : Int).toNat, none⟩ (.int .i64 (rd l0_0 (ji43)))) w.heap.size (fun k_ => some k_ ≠ (.slice (some ⟨go49, 0, none⟩) t182.length co36 : Value).ownBlock) (.slice Ao40 t185.length co40) t185) := ⟨by refine r_ ?_; exact Kd.R_mono (Kd.R_far (p := ⟨go49, ((ji46) : Int).toNat, none⟩) (Kd.R_mono HO187.out (fun k_ hk => (⟨hk, fun e_ => hk (by rw [e_]; rfl)⟩ : _ ∧ k_ ≠ go49))) (fun _ hk => hk.2) (.int .i64 (rd l0_0 (ji43)))) (fun _ hk => hk.1)⟩
            have n2_ : Aside0 ((w54.setCell ⟨go49, ((ji46) : Int).toNat, none⟩ (.int .i64 (rd l0_0 (ji43)))).heap[gb176]? = some (.cells #[.slice (some ad189) l0_0.length c0_0, .slice A0_1 l0_1.length c0_1] 26 (0, 0))) := ⟨by refine q_ ?_; refine blk_far ?_ (by have h_ := Kd.R_ne HO184.out BK176.out (by decide); intro e_; exact h_ (by rw [e_]; rfl)) _; exact q_ BK176.out⟩
            have n3_ : Aside0 ((w54.setCell ⟨go49, ((ji46) : Int).toNat, none⟩ (.int .i64 (rd l0_0 (ji43)))).heap[gb177]? = some (.cells #[.slice none 0 0, .slice none 0 0] 26 (0, 0))) := ⟨by refine q_ ?_; refine blk_far ?_ (by have h_ := Kd.R_ne HO184.out BK177.out (by decide); intro e_; exact h_ (by rw [e_]; rfl)) _; exact q_ BK177.out⟩
            have n4_ : Aside0 ((w54.setCell ⟨go49, ((ji46) : Int).toNat, none⟩ (.int .i64 (rd l0_0 (ji43)))).heap[gb188]? = some (.cells #[.slice (some ⟨go49, 0, none⟩) t182.length co36, .slice Ao40 t185.length co40] 26 (0, 0))) := ⟨by refine q_ ?_; refine blk_far ?_ (by have h_ := Kd.R_ne HO184.out BK188.out (by decide); intro e_; exact h_ (by rw [e_]; rfl)) _; exact q_ BK188.out⟩
            have n5_ : Aside0 (Below w.heap.size w (w54.setCell ⟨go49, ((ji46) : Int).toNat, none⟩ (.int .i64 (rd l0_0 (ji43))))) := ⟨b_⟩
            (try clear HO184); (try clear HO187); (try clear BK176); (try clear BK177); (try clear BK188); (try clear HB)
            generalize (w54.setCell ⟨go49, ((ji46) : Int).toNat, none⟩ (.int .i64 (rd l0_0 (ji43)))) = w56 at n0_ n1_ n2_ n3_ n4_ n5_ ⊢
            have HO184 := n0_; have HO187 := n1_; have BK176 := n2_; have BK177 := n3_; have BK188 := n4_; have HB := n5_; clear n0_ n1_ n2_ n3_ n4_ n5_
            try go_wp2
            have n0_ := a_ (Kd.R_drew HO184.out)
            have n1_ := a_ (Kd.R_drew HO187.out)
            have n2_ := a_ (blk_drew BK176.out)
            have n3_ := a_ (blk_drew BK177.out)
            have n4_ := a_ (blk_drew BK188.out)
            have n5_ := a_ (below_drew1 HB.out)
            clear HO184; clear HO187; clear BK176; clear BK177; clear BK188; clear HB; have HO184 := n0_; have HO187 := n1_; have BK176 := n2_; have BK177 := n3_; have BK188 := n4_; have HB := n5_; clear n0_ n1_ n2_ n3_ n4_ n5_
            have p191 : 0 ≤ ((ji46) : Int) := od_
            have q191 : (ji46) < (l0_0.length : Int) := od_
            obtain ⟨ad191, e191, hx191_0⟩ := Kd.at_int HR0_0.out (ji46) p191 q191
            have hw191_0 := hx191_0
            obtain rfl : ad189 = ad191 := (by injection e191)
            replace hx191_0 := (HB.out.cell (World.block_lt_of_cell? w _ hx191_0)).trans hx191_0
            replace p191 := eq_true p191; replace q191 := eq_true q191
            have p52 : 0 ≤ ((ji43) : Int) := od_
            have q52 : ((ji43) : Int) < ((t182.length : Int) : Int) := od_
            obtain ⟨hx52_0, hf52_0⟩ := Kd.R_celln 0 HO184.out ((ji43) : Int) p52 q52
            replace p52 := eq_true p52; replace q52 := eq_true q52
            have HP58 := Kd.R_putn HO184.out ((ji43) : Int) (rd l0_0 (ji46))
            rw [← Ny192.out] at HP58
            have HQ58 := a_ HP58; clear HP58
            refine start_ (n := 12) (S := fun w' => w'.cell? ⟨gb188, 0, none⟩ = some (.slice (some ⟨go49, 0, none⟩) t182.length co36) ∧ w'.cell? ⟨gb188, 1, none⟩ = some (.slice Ao40 t185.length co40) ∧ w'.cell? ⟨gb176, 0, none⟩ = some (.slice (some ad189) l0_0.length c0_0) ∧ w'.cell? ⟨gb176, 1, none⟩ = some (.slice A0_1 l0_1.length c0_1) ∧ w'.cell? (ad189.add ((ji46)).toNat) = some (.int .i64 (rd l0_0 (ji46)))) (ds := [11]) #[false, false, false, false, false, false, false, false, false, false, false, false] (by kernel_rfl) rfl rfl ⟨(blk_cell BK188.out 0).trans rfl, (blk_cell BK188.out 1).trans rfl, (blk_cell BK176.out 0).trans rfl, (blk_cell BK176.out 1).trans rfl, ((HB.out.cell (World.block_lt_of_cell? w _ hw191_0)).trans hw191_0)⟩ (fun hHeld => ?_); refine with_tabW spec_ChangePct.tab7 spec_ChangePct.bits7 (fun HT_ HW_ => ?_)
            generalize w56.drew = w57 at HO184 HO187 BK176 BK177 BK188 HB HQ58 hf52_0 hx191_0 hx52_0 hHeld ⊢
            refine pure_ (i := 0) (N := some 51) (v := ?_) (a' := ?_) #[true, false, false, false, false, false, false, false, false, false, false, false] rfl rfl (any_of HT_.out (by kernel_rfl)) (fun _ _ _ h => h) (Or.inl ⟨by rfl, ?_⟩) ?_ ?_
            rotate_left
            ·intro w'
             go_simp
             with_reducible rfl
            rotate_left
            ·simp only [Act.put, List.setIfInBounds_toArray, List.set_cons_zero, List.set_cons_succ, i64_w, i32_w]
             rfl
            refine pure_ (i := 2) (N := some 53) (v := ?_) (a' := ?_) #[true, false, true, false, false, false, false, false, false, false, false, false] rfl rfl (any_of HT_.out (by kernel_rfl)) (fun _ _ _ h => h) (Or.inl ⟨by rfl, ?_⟩) ?_ ?_
            rotate_left
            ·intro w'
             go_simp
             with_reducible rfl
            rotate_left
            ·simp only [Act.put, List.setIfInBounds_toArray, List.set_cons_zero, List.set_cons_succ, i64_w, i32_w]
             rfl
            refine pure_ (i := 3) (N := some 54) (v := ?_) (a' := ?_) #[true, false, true, true, false, false, false, false, false, false, false, false] rfl rfl (any_of HT_.out (by kernel_rfl)) (fun _ _ _ h => h) (Or.inl ⟨by rfl, ?_⟩) ?_ ?_
            rotate_left
            ·intro w'
             go_simp
             with_reducible rfl
            rotate_left
            ·simp only [Act.put, List.setIfInBounds_toArray, List.set_cons_zero, List.set_cons_succ, i64_w, i32_w]
             rfl
            refine pure_ (i := 4) (N := some 55) (v := ?_) (a' := ?_) #[true, false, true, true, true, false, false, false, false, false, false, false] rfl rfl (any_of HT_.out (by kernel_rfl)) (fun _ _ _ h => h) (Or.inl ⟨by rfl, ?_⟩) ?_ ?_
            rotate_left
            ·intro w'
             go_simp
             with_reducible rfl
            rotate_left
            ·simp only [Act.put, List.setIfInBounds_toArray, List.set_cons_zero, List.set_cons_succ, i64_w, i32_w]
             rfl
            refine pure_ (i := 6) (N := some 57) (v := ?_) (a' := ?_) #[true, false, true, true, true, false, true, false, false, false, false, false] rfl rfl (any_of HT_.out (by kernel_rfl)) (fun _ _ _ h => h) (Or.inl ⟨by rfl, ?_⟩) ?_ ?_
            rotate_left
            ·intro w'
             go_simp
             with_reducible rfl
            rotate_left
            ·simp only [Act.put, List.setIfInBounds_toArray, List.set_cons_zero, List.set_cons_succ, i64_w, i32_w]
             rfl
            refine pure_ (i := 7) (N := some 58) (v := ?_) (a' := ?_) #[true, false, true, true, true, false, true, true, false, false, false, false] rfl rfl (any_of HT_.out (by kernel_rfl)) (fun _ _ _ h => h) (Or.inl ⟨by rfl, ?_⟩) ?_ ?_
            rotate_left
            ·intro w'
             go_simp
             with_reducible rfl
            rotate_left
            ·simp only [Act.put, List.setIfInBounds_toArray, List.set_cons_zero, List.set_cons_succ, i64_w, i32_w]
             rfl
            refine take_ (i := 1) (N := some 52) (v := ?_) (a' := ?_) #[true, true, true, true, true, false, true, true, false, false, false, false] rfl rfl (take_ofW HT_.out HW_.out (by kernel_rfl)) (fun _ _ _ h => h) (Or.inl ⟨by rfl, ?_⟩) hHeld ?_ ?_
            rotate_left
            ·rintro w' ⟨s0, s1, s2, s3, s4⟩
             go_simp
             with_reducible rfl
            rotate_left
            ·simp only [Act.put, List.setIfInBounds_toArray, List.set_cons_zero, List.set_cons_succ, i64_w, i32_w]
             rfl
            refine take_ (i := 5) (N := some 56) (v := ?_) (a' := ?_) #[true, true, true, true, true, true, true, true, false, false, false, false] rfl rfl (take_ofW HT_.out HW_.out (by kernel_rfl)) (fun _ _ _ h => h) (Or.inl ⟨by rfl, ?_⟩) hHeld ?_ ?_
            rotate_left
            ·rintro w' ⟨s0, s1, s2, s3, s4⟩
             go_simp
             with_reducible rfl
            rotate_left
            ·simp only [Act.put, List.setIfInBounds_toArray, List.set_cons_zero, List.set_cons_succ, i64_w, i32_w]
             rfl
            refine pure_ (i := 8) (N := some 59) (v := ?_) (a' := ?_) #[true, true, true, true, true, true, true, true, true, false, false, false] rfl rfl (any_of HT_.out (by kernel_rfl)) (fun _ _ _ h => h) (Or.inl ⟨by rfl, ?_⟩) ?_ ?_
            rotate_left
            ·intro w'
             go_simp
             with_reducible rfl
            rotate_left
            ·simp only [Act.put, List.setIfInBounds_toArray, List.set_cons_zero, List.set_cons_succ, i64_w, i32_w]
             rfl
            refine take_ (i := 9) (N := some 60) (v := ?_) (a' := ?_) #[true, true, true, true, true, true, true, true, true, true, false, false] rfl rfl (take_ofW HT_.out HW_.out (by kernel_rfl)) (fun _ _ _ h => h) (Or.inl ⟨by rfl, ?_⟩) hHeld ?_ ?_
            rotate_left
            ·rintro w' ⟨s0, s1, s2, s3, s4⟩
             go_simp
             with_reducible rfl
            rotate_left
            ·simp only [Act.put, List.setIfInBounds_toArray, List.set_cons_zero, List.set_cons_succ, i64_w, i32_w]
             rfl
            refine pure_ (i := 10) (N := some 61) (v := ?_) (a' := ?_) #[true, true, true, true, true, true, true, true, true, true, true, false] rfl rfl (any_of HT_.out (by kernel_rfl)) (fun _ _ _ h => h) (Or.inl ⟨by rfl, ?_⟩) ?_ ?_
            rotate_left
            ·intro w'
             go_simp
             with_reducible rfl
            rotate_left
            ·simp only [Act.put, List.setIfInBounds_toArray, List.set_cons_zero, List.set_cons_succ, i64_w, i32_w]
             rfl
            refine last_ (i := 11) (N := none) #[true, true, true, true, true, true, true, true, true, true, true, true] rfl rfl (one_of HT_.out (by kernel_rfl)) (by decide) (fun K hK => ?_)
            refine skip_ (w1 := ?_) (by rfl) rfl ?_ ?_
            rotate_left
            ·go_simp
             rfl
            refine hK.out _ _ ?_
            clear hK K
            refine done_ (done_of HT_.out (by kernel_rfl)) ?_
            have n0_ : Aside0 (Kd.R (Kd.int .i64) 3 (w57.setCell ⟨go49, ((ji43) : Int).toNat, none⟩ (.int .i64 (rd l0_0 (ji46)))) w.heap.size (fun k_ => some k_ ≠ (.slice Ao40 t185.length co40 : Value).ownBlock) (.slice (some ⟨go49, 0, none⟩) t182.length co36) y192) := ⟨by exact r_ HQ58.out⟩
            have n1_ : Aside0 (Kd.R (Kd.int .i64) 3 (w57.setCell ⟨go49, ((ji43) : Int).toNat, none⟩ (.int .i64 (rd l0_0 (ji46)))) w.heap.size (fun k_ => some k_ ≠ (.slice (some ⟨go49, 0, none⟩) t182.length co36 : Value).ownBlock) (.slice Ao40 t185.length co40) t185) := ⟨by refine r_ ?_; exact Kd.R_mono (Kd.R_far (p := ⟨go49, ((ji43) : Int).toNat, none⟩) (Kd.R_mono HO187.out (fun k_ hk => (⟨hk, fun e_ => hk (by rw [e_]; rfl)⟩ : _ ∧ k_ ≠ go49))) (fun _ hk => hk.2) (.int .i64 (rd l0_0 (ji46)))) (fun _ hk => hk.1)⟩
            have n2_ : Aside0 ((w57.setCell ⟨go49, ((ji43) : Int).toNat, none⟩ (.int .i64 (rd l0_0 (ji46)))).heap[gb176]? = some (.cells #[.slice (some ad189) l0_0.length c0_0, .slice A0_1 l0_1.length c0_1] 26 (0, 0))) := ⟨by refine q_ ?_; refine blk_far ?_ (by have h_ := Kd.R_ne HO184.out BK176.out (by decide); intro e_; exact h_ (by rw [e_]; rfl)) _; exact q_ BK176.out⟩
            have n3_ : Aside0 ((w57.setCell ⟨go49, ((ji43) : Int).toNat, none⟩ (.int .i64 (rd l0_0 (ji46)))).heap[gb177]? = some (.cells #[.slice none 0 0, .slice none 0 0] 26 (0, 0))) := ⟨by refine q_ ?_; refine blk_far ?_ (by have h_ := Kd.R_ne HO184.out BK177.out (by decide); intro e_; exact h_ (by rw [e_]; rfl)) _; exact q_ BK177.out⟩
            have n4_ : Aside0 ((w57.setCell ⟨go49, ((ji43) : Int).toNat, none⟩ (.int .i64 (rd l0_0 (ji46)))).heap[gb188]? = some (.cells #[.slice (some ⟨go49, 0, none⟩) t182.length co36, .slice Ao40 t185.length co40] 26 (0, 0))) := ⟨by refine q_ ?_; refine blk_far ?_ (by have h_ := Kd.R_ne HO184.out BK188.out (by decide); intro e_; exact h_ (by rw [e_]; rfl)) _; exact q_ BK188.out⟩
            have n5_ : Aside0 (Below w.heap.size w (w57.setCell ⟨go49, ((ji43) : Int).toNat, none⟩ (.int .i64 (rd l0_0 (ji46))))) := ⟨b_⟩
            (try clear HO184); (try clear HO187); (try clear BK176); (try clear BK177); (try clear BK188); (try clear HB)
            generalize (w57.setCell ⟨go49, ((ji43) : Int).toNat, none⟩ (.int .i64 (rd l0_0 (ji46)))) = w59 at n0_ n1_ n2_ n3_ n4_ n5_ ⊢
            have HO184 := n0_; have HO187 := n1_; have BK176 := n2_; have BK177 := n3_; have BK188 := n4_; have HB := n5_; clear n0_ n1_ n2_ n3_ n4_ n5_; have hnb60 := NB188_176.out; have hnc60 := NB176_188.out; have hnb61 := NB188_177.out; have hnc61 := NB177_188.out
            have hcz62_0 : w59.cell? ⟨gb188, 0, none⟩ = some (.slice (some ⟨go49, 0, none⟩) t182.length co36) := (blk_cell BK188.out 0).trans rfl
            have hcz62_1 : w59.cell? ⟨gb188, 1, none⟩ = some (.slice Ao40 t185.length co40) := (blk_cell BK188.out 1).trans rfl
            have hfz62_0 := blk_frozen BK188.out 0
            have hfz62_1 := blk_frozen BK188.out 1
            have hnb63 := NB177_176.out; have hnc63 := NB176_177.out
            have hcz64_0 : w59.cell? ⟨gb177, 0, none⟩ = some (.slice none 0 0) := (blk_cell BK177.out 0).trans rfl
            have hcz64_1 : w59.cell? ⟨gb177, 1, none⟩ = some (.slice none 0 0) := (blk_cell BK177.out 1).trans rfl
            have hfz64_0 := blk_frozen BK177.out 0
            have hfz64_1 := blk_frozen BK177.out 1
            try go_wp2
            refine bodyPost_ret (results_ct rfl _ _ gb177 26 #[.slice (some ⟨go49, 0, none⟩) t182.length co36, .slice Ao40 t185.length co40] (0, 0) _ rfl (by refine q_ ?_; refine blk_put (cs := #[.slice (some ⟨go49, 0, none⟩) t182.length co36, .slice none 0 0]) ?_ 1 _ rfl; refine q_ ?_; refine blk_put (cs := #[.slice none 0 0, .slice none 0 0]) ?_ 0 _ rfl; exact q_ BK177.out) Try.underlying26 rfl (by kernel_rfl)) rfl ?_
            exact ⟨_, _, by first | rfl | (simp [errW_none, errW_some] <;> rfl) | (simp only [← hji43, ← hji46]; first | rfl | (simp [errW_none, errW_some] <;> rfl)) | (simp [*, errW_none, errW_some] <;> rfl), by refine r_ ?_; exact r2_ HO184.out BK177.out (by decide), by refine r_ ?_; exact r2_ HO187.out BK177.out (by decide), b_⟩
           ·rw [if_neg c51] at H
            exact absurd H (by simp)
          ·rw [if_neg c50] at H
           exact absurd H (by simp)
         ·rw [if_neg c48] at H
          exact absurd H (by simp)
        ·rw [if_neg c47] at H
         exact absurd H (by simp)
       ·rw [if_neg c45] at H
        exact absurd H (by simp)
      ·rw [if_neg c44] at H
       exact absurd H (by simp)
     ·rw [if_neg c42] at H
      have c42b0 : (a1 == 0) = false := beq_eq_false_iff_ne.mpr c42
      have c42b1 : (a1 != 0) = true := bne_iff_ne.mpr c42
      (first | rw [c42b0] | (simp only [i64_w, i32_w]; rw [c42b0]) | skip)
      have HC65 := a_ H; clear H
      go_upto_region 9 with (fail)
      go_cut [63] (fun v63 wc => ∃ (kq : Nat) (x63_64 : Bool), v63 = .bool x63_64 ∧ Aside0 (spec_ChangePct.j1 kq a1 a2 a3 (l0_1.length : Int) x63_64 l0_0 l0_1 t182 t185 = some (r1, r2, r3)) ∧ Aside0 (kq ≤ kj4) ∧ Aside0 (Kd.R (Kd.int .i64) 3 wc w.heap.size (fun k_ => some k_ ≠ ((.slice Ao40 t185.length co40) : Value).ownBlock) (.slice Ao36 t182.length co36) t182) ∧ Aside0 (Kd.R (Kd.int .i64) 3 wc w.heap.size (fun k_ => some k_ ≠ ((.slice Ao36 t182.length co36) : Value).ownBlock) (.slice Ao40 t185.length co40) t185) ∧ Aside0 (wc.heap[gb176]? = some (.cells #[(.slice A0_0 l0_0.length c0_0), (.slice A0_1 l0_1.length c0_1)] 26 (0, 0))) ∧ Aside0 (wc.heap[gb177]? = some (.cells #[(.slice none 0 0), (.slice none 0 0)] 26 (0, 0))) ∧ Aside0 (wc.heap[gb188]? = some (.cells #[(.slice Ao36 t182.length co36), (.slice Ao40 t185.length co40)] 26 (0, 0))) ∧ Aside0 (Below w.heap.size w wc))
      case first =>
       have H := HC65.out; clear HC65
       by_cases c66 : a1 > 1
       ·rw [if_pos c66] at H
        have c66b0 : decide (1 < a1) = true := decide_eq_true c66
        clear c66
        (first | rw [c66b0] | (simp only [i64_w, i32_w]; rw [c66b0]) | skip)
        have H' := a_ H
        clear H
        go_wp2
        go_meet
        case rel => exact ⟨_, (((l0_1.length : Int) == 0)), (by first | rfl | (simp; done) | (simp [*]; done)), H', ⟨by have := HJ4.out; first | omega | exact Nat.le_refl _⟩, ⟨by refine r_ ?_; exact r2_ HO184.out BK188.out (by decide)⟩, ⟨by refine r_ ?_; exact r2_ HO187.out BK188.out (by decide)⟩, ⟨by refine q_ ?_; refine blk_far ?_ NB176_188.out _; refine q_ ?_; refine blk_far ?_ NB176_188.out _; exact q_ BK176.out⟩, ⟨by refine q_ ?_; refine blk_far ?_ NB177_188.out _; refine q_ ?_; refine blk_far ?_ NB177_188.out _; exact q_ BK177.out⟩, ⟨by refine q_ ?_; refine blk_put (cs := #[.slice Ao36 t182.length co36, .slice none 0 0]) ?_ 1 _ rfl; refine q_ ?_; refine blk_put (cs := #[.slice none 0 0, .slice none 0 0]) ?_ 0 _ rfl; exact q_ BK188.out⟩, ⟨b_⟩⟩
       ·rw [if_neg c66] at H
        have c66b0 : decide (1 < a1) = false := decide_eq_false c66
        clear c66
        (first | rw [c66b0] | (simp only [i64_w, i32_w]; rw [c66b0]) | skip)
        have H' := a_ H
        clear H
        go_wp2
        go_meet
        case rel => exact ⟨_, (false), (by first | rfl | (simp; done) | (simp [*]; done)), H', ⟨by have := HJ4.out; first | omega | exact Nat.le_refl _⟩, ⟨by refine r_ ?_; exact r2_ HO184.out BK188.out (by decide)⟩, ⟨by refine r_ ?_; exact r2_ HO187.out BK188.out (by decide)⟩, ⟨by refine q_ ?_; refine blk_far ?_ NB176_188.out _; refine q_ ?_; refine blk_far ?_ NB176_188.out _; exact q_ BK176.out⟩, ⟨by refine q_ ?_; refine blk_far ?_ NB177_188.out _; refine q_ ?_; refine blk_far ?_ NB177_188.out _; exact q_ BK177.out⟩, ⟨by refine q_ ?_; refine blk_put (cs := #[.slice Ao36 t182.length co36, .slice none 0 0]) ?_ 1 _ rfl; refine q_ ?_; refine blk_put (cs := #[.slice none 0 0, .slice none 0 0]) ?_ 0 _ rfl; exact q_ BK188.out⟩, ⟨b_⟩⟩
      case rest =>
       clear HC65; (try clear c1); (try clear p1); (try clear q1); (try clear hx1); (try clear c2); (try clear p2); (try clear c3); (try clear c4); (try clear p4); (try clear q4); (try clear hx4); (try clear hf4); (try clear c5); (try clear p5); (try clear q5); (try clear hx5); (try clear hf5); (try clear c6); (try clear c9); (try clear c11); (try clear c13); (try clear c15); (try clear c18); (try clear p18); (try clear q18); (try clear hx18); (try clear p19); (try clear q19); (try clear hx19); (try clear c21); (try clear c24); (try clear c27); (try clear c28); (try clear c32); (try clear c37); (try clear c38); (try clear c42); (try clear c42b0); (try clear c42b1); (try clear c44); (try clear c44b0); (try clear c45); (try clear c45b0); (try clear c47); (try clear c47b0); (try clear c48); (try clear c48b0); (try clear p49); (try clear q49); (try clear hx49); (try clear hf49); (try clear c50); (try clear c50b0); (try clear c51); (try clear c51b0); (try clear c52); (try clear p52); (try clear q52); (try clear hx52); (try clear hf52); (try clear c54); (try clear c60); (try clear c61); (try clear c63); (try clear c66); (try clear c66b0); (try clear hcz16_0); (try clear hcz16_1); (try clear hcz19_0); (try clear hcz19_1); (try clear hcz22_0); (try clear hcz22_1); (try clear hcz25_0); (try clear hcz25_1); (try clear hcz29_0); (try clear hcz29_1); (try clear hcz33_0); (try clear hcz33_1); (try clear hcz39_0); (try clear hcz39_1); (try clear hcz41_0); (try clear hcz41_1); (try clear hcz62_0); (try clear hcz62_1); (try clear hcz64_0); (try clear hcz64_1); (try clear hfz16_0); (try clear hfz16_1); (try clear hfz19_0); (try clear hfz19_1); (try clear hfz22_0); (try clear hfz22_1); (try clear hfz25_0); (try clear hfz25_1); (try clear hfz29_0); (try clear hfz29_1); (try clear hfz33_0); (try clear hfz33_1); (try clear hfz39_0); (try clear hfz39_1); (try clear hfz41_0); (try clear hfz41_1); (try clear hfz62_0); (try clear hfz62_1); (try clear hfz64_0); (try clear hfz64_1); (try clear hx189_0); (try clear hx191_0); (try clear hx49_0); (try clear hx52_0); (try clear p189); (try clear p191); (try clear p2); (try clear p49); (try clear p52); (try clear q189); (try clear q191); (try clear q49); (try clear q52)
       obtain ⟨kq, x63_64, rfl, HA, HJ64, HO_189000, HO_189001, BK176, BK177, BK188, HB⟩ := hcut
       cases kq with
       | zero => exact absurd HA.out (by simp [spec_ChangePct.j1])
       | succ kj64 =>
        have H := HA.out; clear HA
        simp only [spec_ChangePct.j1] at H
        by_cases c67 : x63_64 = true
        ·subst c67
         have H1 : (some (([] : List Int), ([] : List Int), false)) = some (r1, r2, r3) := by rw [if_pos rfl] at H; exact H
         clear H; have H := H1; clear H1
         simp only [Option.some.injEq, Prod.mk.injEq] at H
         obtain ⟨rfl, rfl, rfl⟩ := H
         have hnb68 := NB177_176.out; have hnc68 := NB176_177.out; have hnb69 := NB177_188.out; have hnc69 := NB188_177.out
         have hcz70_0 : wc.cell? ⟨gb177, 0, none⟩ = some (.slice none 0 0) := (blk_cell BK177.out 0).trans rfl
         have hcz70_1 : wc.cell? ⟨gb177, 1, none⟩ = some (.slice none 0 0) := (blk_cell BK177.out 1).trans rfl
         have hfz70_0 := blk_frozen BK177.out 0
         have hfz70_1 := blk_frozen BK177.out 1
         go_wp2
         refine bodyPost_ret (results_ct rfl _ _ gb177 26 #[.slice none 0 0, .slice none 0 0] (0, 0) _ rfl (by refine q_ ?_; refine blk_put (cs := #[.slice none 0 0, .slice none 0 0]) ?_ 1 _ rfl; refine q_ ?_; refine blk_put (cs := #[.slice none 0 0, .slice none 0 0]) ?_ 0 _ rfl; exact q_ BK177.out) Try.underlying26 rfl (by kernel_rfl)) rfl ?_
         exact ⟨_, _, by first | rfl | (simp [errW_none, errW_some] <;> rfl) | (simp [*, errW_none, errW_some] <;> rfl), by first | exact Kd.R_nil _ _ _ _ _ | exact Kd.N_nil _ _ _ _ _ | exact Kd.V_nil _ _ _ _ _ | exact Kd.Q_nil _ _ _ _ _ | exact Kd.S_nil _ _ _ _ _, by first | exact Kd.R_nil _ _ _ _ _ | exact Kd.N_nil _ _ _ _ _ | exact Kd.V_nil _ _ _ _ _ | exact Kd.Q_nil _ _ _ _ _ | exact Kd.S_nil _ _ _ _ _, b_⟩
        ·replace c67 := Bool.eq_false_iff.mpr c67
         subst c67
         have H1 : (if a1 > 1 then (if (l0_1.length : Int) = 0 then (none) else (if 0 ≤ (Int.tmod a2 (l0_1.length : Int)) then (if (Int.tmod a2 (l0_1.length : Int)) < (l0_1.length : Int) then ((spec_l7Drop.f kj64 l0_1 (rd l0_1 (Int.tmod a2 (l0_1.length : Int)))).bind fun t194 => (spec_ChangePct.j2 kj64 a1 a2 a3 l0_0 l0_1 t182 t194)) else (none)) else (none))) else (spec_ChangePct.j2 kj64 a1 a2 a3 l0_0 l0_1 t182 t185)) = some (r1, r2, r3) := by rw [if_neg (show ¬ (false = true) by decide)] at H; exact H
         clear H; have H := H1; clear H1
         by_cases c71 : a1 > 1
         ·rw [if_pos c71] at H
          have c71b0 : decide (1 < a1) = true := decide_eq_true c71
          clear c71
          by_cases c72 : (l0_1.length : Int) = 0
          ·rw [if_pos c72] at H
           exact absurd H (by simp)
          ·rw [if_neg c72] at H
           have c72b0 : ((l0_1.length : Int) == 0) = false := beq_eq_false_iff_ne.mpr c72
           have c72b1 : ((l0_1.length : Int) != 0) = true := bne_iff_ne.mpr c72
           have c72b2 : ¬ (l0_1 = []) := fun h_ => c72 (by rw [h_]; rfl)
           obtain ⟨ji73, hji73⟩ : ∃ j_ : Int, (Int.tmod a2 (l0_1.length : Int)) = j_ := ⟨_, rfl⟩
           replace H : (if 0 ≤ (ji73) then (if (ji73) < (l0_1.length : Int) then ((spec_l7Drop.f kj64 l0_1 (rd l0_1 (ji73))).bind fun t194 => (spec_ChangePct.j2 kj64 a1 a2 a3 l0_0 l0_1 t182 t194)) else (none)) else (none)) = some (r1, r2, r3) := by first | (rw [hji73] at H; exact H) | (simp only [hji73] at H ⊢; exact H)
           by_cases c74 : 0 ≤ (ji73)
           ·rw [if_pos c74] at H
            have c74b0 : decide (0 ≤ (ji73)) = true := decide_eq_true c74
            clear c74
            by_cases c75 : (ji73) < (l0_1.length : Int)
            ·rw [if_pos c75] at H
             have c75b0 : decide ((ji73) < (l0_1.length : Int)) = true := decide_eq_true c75
             clear c75
             replace H := Option.bind_eq_some_iff.mp H
             obtain ⟨t194, A760, H⟩ := H
             replace H : (spec_ChangePct.j2 kj64 a1 a2 a3 l0_0 l0_1 t182 t194) = some (r1, r2, r3) := H
             have A76 := a_ A760; clear A760
             have H' := a_ H
             clear H
             try go_wp2
             have n0_ := a_ (Kd.R_drew HO_189000.out)
             have n1_ := a_ (Kd.R_drew HO_189001.out)
             have n2_ := a_ (blk_drew BK176.out)
             have n3_ := a_ (blk_drew BK177.out)
             have n4_ := a_ (blk_drew BK188.out)
             have n5_ := a_ (below_drew1 HB.out)
             clear HO_189000; clear HO_189001; clear BK176; clear BK177; clear BK188; clear HB; have HO_189000 := n0_; have HO_189001 := n1_; have BK176 := n2_; have BK177 := n3_; have BK188 := n4_; have HB := n5_; clear n0_ n1_ n2_ n3_ n4_ n5_
             have p193 : 0 ≤ ((ji73) : Int) := od_
             have q193 : (ji73) < (l0_1.length : Int) := od_
             obtain ⟨ad193, e193, hx193_0⟩ := Kd.at_int HR0_1.out (ji73) p193 q193
             have hw193_0 := hx193_0
             cases e193
             replace hx193_0 := (HB.out.cell (World.block_lt_of_cell? w _ hx193_0)).trans hx193_0
             replace p193 := eq_true p193; replace q193 := eq_true q193
             refine start_ (n := 12) (S := fun w' => w'.cell? ⟨gb176, 0, none⟩ = some (.slice A0_0 l0_0.length c0_0) ∧ w'.cell? ⟨gb176, 1, none⟩ = some (.slice (some ad193) l0_1.length c0_1) ∧ w'.cell? (ad193.add ((ji73)).toNat) = some (.int .i64 (rd l0_1 (ji73)))) (ds := []) #[false, false, false, false, false, false, false, false, false, false, false, false] (by kernel_rfl) rfl rfl ⟨(blk_cell BK176.out 0).trans rfl, (blk_cell BK176.out 1).trans rfl, ((HB.out.cell (World.block_lt_of_cell? w _ hw193_0)).trans hw193_0)⟩ (fun hHeld => ?_); refine with_tabW spec_ChangePct.tab12 spec_ChangePct.bits12 (fun HT_ HW_ => ?_)
             generalize wc.drew = w77 at HO_189000 HO_189001 BK176 BK177 BK188 HB hx193_0 hHeld ⊢
             refine pure_ (i := 0) (N := some 74) (v := ?_) (a' := ?_) #[true, false, false, false, false, false, false, false, false, false, false, false] rfl rfl (any_of HT_.out (by kernel_rfl)) (fun _ _ _ h => h) (Or.inl ⟨by rfl, ?_⟩) ?_ ?_
             rotate_left
             ·intro w'
              go_simp
              with_reducible rfl
             rotate_left
             ·simp only [Act.put, List.setIfInBounds_toArray, List.set_cons_zero, List.set_cons_succ, i64_w, i32_w]
              rfl
             refine pure_ (i := 2) (N := some 76) (v := ?_) (a' := ?_) #[true, false, true, false, false, false, false, false, false, false, false, false] rfl rfl (any_of HT_.out (by kernel_rfl)) (fun _ _ _ h => h) (Or.inl ⟨by rfl, ?_⟩) ?_ ?_
             rotate_left
             ·intro w'
              go_simp
              with_reducible rfl
             rotate_left
             ·simp only [Act.put, List.setIfInBounds_toArray, List.set_cons_zero, List.set_cons_succ, i64_w, i32_w]
              rfl
             refine pure_ (i := 4) (N := some 78) (v := ?_) (a' := ?_) #[true, false, true, false, true, false, false, false, false, false, false, false] rfl rfl (any_of HT_.out (by kernel_rfl)) (fun _ _ _ h => h) (Or.inl ⟨by rfl, ?_⟩) ?_ ?_
             rotate_left
             ·intro w'
              go_simp
              with_reducible rfl
             rotate_left
             ·simp only [Act.put, List.setIfInBounds_toArray, List.set_cons_zero, List.set_cons_succ, i64_w, i32_w]
              rfl
             refine pure_ (i := 5) (N := some 79) (v := ?_) (a' := ?_) #[true, false, true, false, true, true, false, false, false, false, false, false] rfl rfl (any_of HT_.out (by kernel_rfl)) (fun _ _ _ h => h) (Or.inl ⟨by rfl, ?_⟩) ?_ ?_
             rotate_left
             ·intro w'
              go_simp
              with_reducible rfl
             rotate_left
             ·simp only [Act.put, List.setIfInBounds_toArray, List.set_cons_zero, List.set_cons_succ, i64_w, i32_w]
              rfl
             refine pure_ (i := 6) (N := some 80) (v := ?_) (a' := ?_) #[true, false, true, false, true, true, true, false, false, false, false, false] rfl rfl (any_of HT_.out (by kernel_rfl)) (fun _ _ _ h => h) (Or.inl ⟨by rfl, ?_⟩) ?_ ?_
             rotate_left
             ·intro w'
              go_simp
              with_reducible rfl
             rotate_left
             ·simp only [Act.put, List.setIfInBounds_toArray, List.set_cons_zero, List.set_cons_succ, i64_w, i32_w]
              rfl
             refine take_ (i := 1) (N := some 75) (v := ?_) (a' := ?_) #[true, true, true, false, true, true, true, false, false, false, false, false] rfl rfl (take_ofW HT_.out HW_.out (by kernel_rfl)) (fun _ _ _ h => h) (Or.inl ⟨by rfl, ?_⟩) hHeld ?_ ?_
             rotate_left
             ·rintro w' ⟨s0, s1, s2⟩
              go_simp
              with_reducible rfl
             rotate_left
             ·simp only [Act.put, List.setIfInBounds_toArray, List.set_cons_zero, List.set_cons_succ, i64_w, i32_w]
              rfl
             refine take_ (i := 3) (N := some 77) (v := ?_) (a' := ?_) #[true, true, true, true, true, true, true, false, false, false, false, false] rfl rfl (take_ofW HT_.out HW_.out (by kernel_rfl)) (fun _ _ _ h => h) (Or.inl ⟨by rfl, ?_⟩) hHeld ?_ ?_
             rotate_left
             ·rintro w' ⟨s0, s1, s2⟩
              go_simp
              with_reducible rfl
             rotate_left
             ·simp only [Act.put, List.setIfInBounds_toArray, List.set_cons_zero, List.set_cons_succ, i64_w, i32_w]
              rfl
             refine pure_ (i := 7) (N := some 81) (v := ?_) (a' := ?_) #[true, true, true, true, true, true, true, true, false, false, false, false] rfl rfl (any_of HT_.out (by kernel_rfl)) (fun _ _ _ h => h) (Or.inl ⟨by rfl, ?_⟩) ?_ ?_
             rotate_left
             ·intro w'
              go_simp
              with_reducible rfl
             rotate_left
             ·simp only [Act.put, List.setIfInBounds_toArray, List.set_cons_zero, List.set_cons_succ, i64_w, i32_w]
              rfl
             refine take_ (i := 8) (N := some 82) (v := ?_) (a' := ?_) #[true, true, true, true, true, true, true, true, true, false, false, false] rfl rfl (take_ofW HT_.out HW_.out (by kernel_rfl)) (fun _ _ _ h => h) (Or.inl ⟨by rfl, ?_⟩) hHeld ?_ ?_
             rotate_left
             ·rintro w' ⟨s0, s1, s2⟩
              go_simp
              with_reducible rfl
             rotate_left
             ·simp only [Act.put, List.setIfInBounds_toArray, List.set_cons_zero, List.set_cons_succ, i64_w, i32_w]
              rfl
             refine one_ (i := 9) (N := some 83) #[true, true, true, true, true, true, true, true, true, true, false, false] rfl rfl (one_of HT_.out (by kernel_rfl)) (by decide) (fun K hK => ?_)
             first | refine goes_ Try.func55 (by kernel_rfl) rfl #[.slice (some ad193) l0_1.length c0_1, .int .i64 (rd l0_1 (ji73))] (by rfl) rfl rfl (by (try simp only [List.map_toArray, List.map_cons, List.map_nil]); first | done | (simp only [hji73]; rfl) | rfl | (simp only [List.length_drop, List.length_take]; rfl)) ?_ | refine goesV_ Try.func55 (by kernel_rfl) rfl #[.slice (some ad193) l0_1.length c0_1, .int .i64 (rd l0_1 (ji73))] (by rfl) rfl rfl (by rfl) (by first | rfl | (simp only [List.map_toArray, List.map_cons, List.map_nil]; rfl)) ?_
             with_reducible refine (spec_l7Drop.calls kj64 _ _ l0_1 (rd l0_1 (ji73)) t194 _ ?side1 ?side2 A76.out).mono ?_
             (case side1 => exact c_ (Kd.C_below HR0_1.out HB.out))
             (case side2 => exact HC0_1.out)
             rintro e w78 ⟨v195, rfl, ho0, hb⟩
             refine ⟨_, rfl, ?_⟩
             have n0_ := a_ (Kd.R_elder' (r_ HO_189000.out) (by first | exact Kd.R_base ho0 | exact Kd.S_base ho0 | exact Kd.R_base ho0) hb)
             have n1_ := a_ (Kd.R_elder' (r_ HO_189001.out) (by first | exact Kd.R_base ho0 | exact Kd.S_base ho0 | exact Kd.R_base ho0) hb)
             have n2_ := a_ (Kd.R_lower (Kd.R_new' (Kd.R_new' ho0 (Kd.R_lt (r_ HO_189000.out))) (Kd.R_lt (r_ HO_189001.out))) (below_size b_))
             have n3_ := a_ (blk_below (q_ BK176.out) hb)
             have n4_ := a_ (blk_below (q_ BK177.out) hb)
             have n5_ := a_ (blk_below (q_ BK188.out) hb)
             have n6_ := a_ (below_step b_ hb)
             clear HO_189000; clear HO_189001; clear BK176; clear BK177; clear BK188; clear HB; have HO_189000 := n0_; have HO_189001 := n1_; have HO196 := n2_; have BK176 := n3_; have BK177 := n4_; have BK188 := n5_; have HB := n6_; clear n0_ n1_ n2_ n3_ n4_ n5_ n6_; (try clear hb); (try clear hb2); (try clear hk); (try clear hi); (try clear ho0)
             obtain ⟨Ao79, co79, eo79⟩ := Kd.R_slice HO196.out
             (first | subst eo79 | (injection eo79 with f1_ f2_ f3_; have f4_ := f1_.symm; have f5_ := f3_.symm; clear f1_ f2_ f3_; subst f4_; subst f5_))
             refine hK.out _ _ ⟨(blk_cell BK176.out 0).trans rfl, (blk_cell BK176.out 1).trans rfl, ((HB.out.cell (World.block_lt_of_cell? w _ hw193_0)).trans hw193_0)⟩ (fun hHeld => ?_)
             clear hK K
             refine norm_ (a' := ?_) ?_ ?_
             rotate_left
             ·show Act.put _ (some 83) _ = _
              simp only [Act.put, List.setIfInBounds_toArray, List.set_cons_zero, List.set_cons_succ, i64_w, i32_w]
              rfl
             refine pure_ (i := 10) (N := some 84) (v := ?_) (a' := ?_) #[true, true, true, true, true, true, true, true, true, true, true, false] rfl rfl (any_of HT_.out (by kernel_rfl)) (fun _ _ _ h => h) (Or.inl ⟨by rfl, ?_⟩) ?_ ?_
             rotate_left
             ·intro w'
              go_simp
              with_reducible rfl
             rotate_left
             ·simp only [Act.put, List.setIfInBounds_toArray, List.set_cons_zero, List.set_cons_succ, i64_w, i32_w]
              rfl
             refine one_ (i := 11) (N := none) #[true, true, true, true, true, true, true, true, true, true, true, true] rfl rfl (one_of HT_.out (by kernel_rfl)) (by decide) (fun K hK => ?_)
             have hs80 : w78.cell? ⟨gb188, 1, none⟩ = some (.slice Ao40 t185.length co40) := (blk_cell BK188.out 1).trans rfl
             have hfs80 := blk_frozen BK188.out 1
             have hns80_0 := NB176_188.out; have hns80_1 := NB177_188.out; have hms80_0 := NB188_176.out; have hms80_1 := NB188_177.out
             refine skip_ (w1 := ?_) (by rfl) rfl ?_ ?_
             rotate_left
             ·go_simp
              rfl
             refine hK.out _ _ ⟨((cell_far (p := ⟨gb188, _, none⟩) NB176_188.out _).trans (hHeld.1)), ((cell_far (p := ⟨gb188, _, none⟩) NB176_188.out _).trans (hHeld.2.1)), ((cell_far (p := ⟨gb188, _, none⟩) (by first | exact Nat.ne_of_lt (Nat.lt_of_lt_of_le (by have := World.block_lt_of_cell? _ _ hw193_0; first | rwa [add_block] at this | exact this) GW188.out) | (rw [add_block]; exact Nat.ne_of_lt (Nat.lt_of_lt_of_le (by have := World.block_lt_of_cell? _ _ hw193_0; first | rwa [add_block] at this | exact this) GW188.out)) | (show (Addr.add _ _).block ≠ _; rw [add_block]; exact Nat.ne_of_lt (Nat.lt_of_lt_of_le (by have := World.block_lt_of_cell? _ _ hw193_0; first | rwa [add_block] at this | exact this) GW188.out)) | (dsimp only; exact Nat.ne_of_lt (Nat.lt_of_lt_of_le (by have := World.block_lt_of_cell? _ _ hw193_0; first | rwa [add_block] at this | exact this) GW188.out))) _).trans (hHeld.2.2))⟩ (fun hHeld => ?_)
             clear hK K
             refine done_ (done_of HT_.out (by kernel_rfl)) ?_
             try go_wp2
             go_meet
             case rel => exact ⟨_, (t182), (t194), (.slice Ao36 t182.length co36), (.slice Ao79 t194.length co79), H', ⟨by have := HJ4.out; have := HJ64.out; first | omega | exact Nat.le_refl _⟩, ⟨by refine r_ ?_; exact Kd.R_mono (Kd.R_far (p := ⟨gb188, 1, none⟩) (Kd.R_types HO_189000.out BK188.out (by decide)) (fun _ hk => hk.2) (.slice Ao79 t194.length co79)) (fun _ hk => hk.1.2)⟩, ⟨by refine r_ ?_; exact Kd.R_mono (Kd.R_far (p := ⟨gb188, 1, none⟩) (Kd.R_types HO196.out BK188.out (by decide)) (fun _ hk => hk.2) (.slice Ao79 t194.length co79)) (fun _ hk => hk.1.1.2)⟩, ⟨by refine q_ ?_; refine blk_far ?_ NB176_188.out _; exact q_ BK176.out⟩, ⟨by refine q_ ?_; refine blk_far ?_ NB177_188.out _; exact q_ BK177.out⟩, ⟨by refine q_ ?_; refine blk_put (cs := #[.slice Ao36 t182.length co36, .slice Ao40 t185.length co40]) ?_ 1 _ rfl; exact q_ BK188.out⟩, ⟨b_⟩⟩
            ·rw [if_neg c75] at H
             exact absurd H (by simp)
           ·rw [if_neg c74] at H
            exact absurd H (by simp)
         ·rw [if_neg c71] at H
          have c71b0 : decide (1 < a1) = false := decide_eq_false c71
          clear c71
          have H' := a_ H
          clear H
          go_wp2
          go_meet
          case rel => exact ⟨_, (t182), (t185), (.slice Ao36 t182.length co36), (.slice Ao40 t185.length co40), H', ⟨by have := HJ4.out; have := HJ64.out; first | omega | exact Nat.le_refl _⟩, ⟨by exact r_ HO_189000.out⟩, ⟨by exact r_ HO_189001.out⟩, ⟨by exact q_ BK176.out⟩, ⟨by exact q_ BK177.out⟩, ⟨by exact q_ BK188.out⟩, ⟨b_⟩⟩
    case rest =>
     clear HC31; (try clear c1); (try clear p1); (try clear q1); (try clear hx1); (try clear c2); (try clear p2); (try clear c3); (try clear c4); (try clear p4); (try clear q4); (try clear hx4); (try clear hf4); (try clear c5); (try clear p5); (try clear q5); (try clear hx5); (try clear hf5); (try clear c6); (try clear c7); (try clear c9); (try clear c11); (try clear c13); (try clear c15); (try clear c18); (try clear p18); (try clear q18); (try clear hx18); (try clear p19); (try clear q19); (try clear hx19); (try clear c21); (try clear c24); (try clear c27); (try clear c28); (try clear c32); (try clear c37); (try clear c38); (try clear c42); (try clear c42b0); (try clear c42b1); (try clear c44); (try clear c44b0); (try clear c45); (try clear c45b0); (try clear c47); (try clear c47b0); (try clear c48); (try clear c48b0); (try clear p49); (try clear q49); (try clear hx49); (try clear hf49); (try clear c50); (try clear c50b0); (try clear c51); (try clear c51b0); (try clear c52); (try clear p52); (try clear q52); (try clear hx52); (try clear hf52); (try clear c54); (try clear c55); (try clear c60); (try clear c61); (try clear c63); (try clear c66); (try clear c66b0); (try clear c67); (try clear c68); (try clear c69); (try clear c71); (try clear c71b0); (try clear c72); (try clear c72b0); (try clear c72b1); (try clear c72b2); (try clear c74); (try clear c74b0); (try clear c75); (try clear c75b0); (try clear hcz16_0); (try clear hcz16_1); (try clear hcz19_0); (try clear hcz19_1); (try clear hcz22_0); (try clear hcz22_1); (try clear hcz25_0); (try clear hcz25_1); (try clear hcz29_0); (try clear hcz29_1); (try clear hcz33_0); (try clear hcz33_1); (try clear hcz39_0); (try clear hcz39_1); (try clear hcz41_0); (try clear hcz41_1); (try clear hcz62_0); (try clear hcz62_1); (try clear hcz64_0); (try clear hcz64_1); (try clear hcz70_0); (try clear hcz70_1); (try clear hfz16_0); (try clear hfz16_1); (try clear hfz19_0); (try clear hfz19_1); (try clear hfz22_0); (try clear hfz22_1); (try clear hfz25_0); (try clear hfz25_1); (try clear hfz29_0); (try clear hfz29_1); (try clear hfz33_0); (try clear hfz33_1); (try clear hfz39_0); (try clear hfz39_1); (try clear hfz41_0); (try clear hfz41_1); (try clear hfz62_0); (try clear hfz62_1); (try clear hfz64_0); (try clear hfz64_1); (try clear hfz70_0); (try clear hfz70_1); (try clear hx189_0); (try clear hx191_0); (try clear hx193_0); (try clear hx49_0); (try clear hx52_0); (try clear p1); (try clear p18); (try clear p189); (try clear p19); (try clear p191); (try clear p193); (try clear p2); (try clear p4); (try clear p49); (try clear p5); (try clear p52); (try clear q1); (try clear q18); (try clear q189); (try clear q19); (try clear q191); (try clear q193); (try clear q4); (try clear q49); (try clear q5); (try clear q52)
     obtain ⟨kq, x189000_30, x189001_30, u189000, u189001, HA, HJ30, HO_189000, HO_189001, BK176, BK177, BK188, HB⟩ := hcut
     cases kq with
     | zero => exact absurd HA.out (by simp [spec_ChangePct.j2])
     | succ kj30 =>
      have H := HA.out; clear HA
      simp only [spec_ChangePct.j2] at H
      have HC81 := a_ H; clear H
      go_upto_if 87 with (fail)
      go_cut [12] (fun v12 wc => ∃ (kq : Nat) (x12_80 : Int), v12 = .int .i64 x12_80 ∧ Aside0 (spec_ChangePct.j3 kq a1 x12_80 l0_0 l0_1 x189000_30 x189001_30 = some (r1, r2, r3)) ∧ Aside0 (kq ≤ kj30) ∧ Aside0 (Kd.R (Kd.int .i64) 3 wc w.heap.size (fun k_ => some k_ ≠ (u189001 : Value).ownBlock) u189000 x189000_30) ∧ Aside0 (Kd.R (Kd.int .i64) 3 wc w.heap.size (fun k_ => some k_ ≠ (u189000 : Value).ownBlock) u189001 x189001_30) ∧ Aside0 (wc.heap[gb176]? = some (.cells #[(.slice A0_0 l0_0.length c0_0), (.slice A0_1 l0_1.length c0_1)] 26 (0, 0))) ∧ Aside0 (wc.heap[gb177]? = some (.cells #[(.slice none 0 0), (.slice none 0 0)] 26 (0, 0))) ∧ Aside0 (wc.heap[gb188]? = some (.cells #[u189000, u189001] 26 (0, 0))) ∧ Aside0 (Below w.heap.size w wc))
      case first =>
       have H := HC81.out; clear HC81
       by_cases c82 : a1 = 3
       ·rw [if_pos c82] at H
        have c82b0 : (a1 == 3) = true := beq_iff_eq.mpr c82
        have c82b1 : (a1 != 3) = false := bne_eq_false_iff_eq.mpr c82
        clear c82
        (first | rw [c82b0] | (simp only [i64_w, i32_w]; rw [c82b0]) | skip)
        have H' := a_ H
        clear H
        go_wp2
        go_meet
        case rel => exact ⟨_, (a3), (by first | rfl | (simp; done) | (simp [*]; done)), H', ⟨by have := HJ4.out; have := HJ30.out; first | omega | exact Nat.le_refl _⟩, ⟨by exact r_ HO_189000.out⟩, ⟨by exact r_ HO_189001.out⟩, ⟨by exact q_ BK176.out⟩, ⟨by exact q_ BK177.out⟩, ⟨by exact q_ BK188.out⟩, ⟨b_⟩⟩
       ·rw [if_neg c82] at H
        have c82b0 : (a1 == 3) = false := beq_eq_false_iff_ne.mpr c82
        have c82b1 : (a1 != 3) = true := bne_iff_ne.mpr c82
        (first | rw [c82b0] | (simp only [i64_w, i32_w]; rw [c82b0]) | skip)
        have H' := a_ H
        clear H
        go_wp2
        go_meet
        case rel => exact ⟨_, (a2), (by first | rfl | (simp; done) | (simp [*]; done)), H', ⟨by have := HJ4.out; have := HJ30.out; first | omega | exact Nat.le_refl _⟩, ⟨by exact r_ HO_189000.out⟩, ⟨by exact r_ HO_189001.out⟩, ⟨by exact q_ BK176.out⟩, ⟨by exact q_ BK177.out⟩, ⟨by exact q_ BK188.out⟩, ⟨b_⟩⟩
      case rest =>
       clear HC81; (try clear c1); (try clear p1); (try clear q1); (try clear hx1); (try clear c2); (try clear p2); (try clear c3); (try clear c4); (try clear p4); (try clear q4); (try clear hx4); (try clear hf4); (try clear c5); (try clear p5); (try clear q5); (try clear hx5); (try clear hf5); (try clear c6); (try clear c7); (try clear c8); (try clear c9); (try clear c11); (try clear c13); (try clear c15); (try clear c18); (try clear p18); (try clear q18); (try clear hx18); (try clear p19); (try clear q19); (try clear hx19); (try clear c21); (try clear c24); (try clear c27); (try clear c28); (try clear c32); (try clear c37); (try clear c38); (try clear c42); (try clear c42b0); (try clear c42b1); (try clear c44); (try clear c44b0); (try clear c45); (try clear c45b0); (try clear c47); (try clear c47b0); (try clear c48); (try clear c48b0); (try clear p49); (try clear q49); (try clear hx49); (try clear hf49); (try clear c50); (try clear c50b0); (try clear c51); (try clear c51b0); (try clear c52); (try clear p52); (try clear q52); (try clear hx52); (try clear hf52); (try clear c54); (try clear c55); (try clear c60); (try clear c61); (try clear c63); (try clear c66); (try clear c66b0); (try clear c67); (try clear c68); (try clear c69); (try clear c71); (try clear c71b0); (try clear c72); (try clear c72b0); (try clear c72b1); (try clear c72b2); (try clear c74); (try clear c74b0); (try clear c75); (try clear c75b0); (try clear c82); (try clear c82b0); (try clear c82b1); (try clear hcz16_0); (try clear hcz16_1); (try clear hcz19_0); (try clear hcz19_1); (try clear hcz22_0); (try clear hcz22_1); (try clear hcz25_0); (try clear hcz25_1); (try clear hcz29_0); (try clear hcz29_1); (try clear hcz33_0); (try clear hcz33_1); (try clear hcz39_0); (try clear hcz39_1); (try clear hcz41_0); (try clear hcz41_1); (try clear hcz62_0); (try clear hcz62_1); (try clear hcz64_0); (try clear hcz64_1); (try clear hcz70_0); (try clear hcz70_1); (try clear hfz16_0); (try clear hfz16_1); (try clear hfz19_0); (try clear hfz19_1); (try clear hfz22_0); (try clear hfz22_1); (try clear hfz25_0); (try clear hfz25_1); (try clear hfz29_0); (try clear hfz29_1); (try clear hfz33_0); (try clear hfz33_1); (try clear hfz39_0); (try clear hfz39_1); (try clear hfz41_0); (try clear hfz41_1); (try clear hfz62_0); (try clear hfz62_1); (try clear hfz64_0); (try clear hfz64_1); (try clear hfz70_0); (try clear hfz70_1); (try clear hx189_0); (try clear hx191_0); (try clear hx193_0); (try clear hx49_0); (try clear hx52_0); (try clear p1); (try clear p18); (try clear p189); (try clear p19); (try clear p191); (try clear p193); (try clear p2); (try clear p4); (try clear p49); (try clear p5); (try clear p52); (try clear q1); (try clear q18); (try clear q189); (try clear q19); (try clear q191); (try clear q193); (try clear q4); (try clear q49); (try clear q5); (try clear q52)
       obtain ⟨kq, x12_80, rfl, HA, HJ80, HO_189000, HO_189001, BK176, BK177, BK188, HB⟩ := hcut
       cases kq with
       | zero => exact absurd HA.out (by simp [spec_ChangePct.j3])
       | succ kj80 =>
        have H := HA.out; clear HA
        simp only [spec_ChangePct.j3] at H
        by_cases c83 : a1 = 2
        ·rw [if_pos c83] at H
         have c83b0 : (a1 == 2) = true := beq_iff_eq.mpr c83
         have c83b1 : (a1 != 2) = false := bne_eq_false_iff_eq.mpr c83
         clear c83
         replace H := Option.bind_eq_some_iff.mp H
         obtain ⟨t197, A840, H⟩ := H
         replace H : (if t197 = true then (some (x189000_30, x189001_30, true)) else (some (([] : List Int), ([] : List Int), false))) = some (r1, r2, r3) := H
         have A84 := a_ A840; clear A840
         by_cases c85 : t197 = true
         ·subst c85
          have H1 : (some (x189000_30, x189001_30, true)) = some (r1, r2, r3) := by rw [if_pos rfl] at H; exact H
          clear H; have H := H1; clear H1
          simp only [Option.some.injEq, Prod.mk.injEq] at H
          obtain ⟨rfl, rfl, rfl⟩ := H
          have hnb86 := NB188_176.out; have hnc86 := NB176_188.out; have hnb87 := NB188_177.out; have hnc87 := NB177_188.out
          have hcz88_0 : wc.cell? ⟨gb188, 0, none⟩ = some (u189000) := (blk_cell BK188.out 0).trans rfl
          have hcz88_1 : wc.cell? ⟨gb188, 1, none⟩ = some (u189001) := (blk_cell BK188.out 1).trans rfl
          have hfz88_0 := blk_frozen BK188.out 0
          have hfz88_1 := blk_frozen BK188.out 1
          obtain ⟨Ao89, co89, eo89⟩ := Kd.R_slice HO_189000.out
          subst eo89
          obtain ⟨Ao90, co90, eo90⟩ := Kd.R_slice HO_189001.out
          subst eo90
          go_wp2_with (first | ((with_reducible refine gate_callee (f := 52) rfl ?_); refine goesL_ (some 102) rfl rfl Try.func52 (by kernel_rfl) rfl #[.agg #[.slice Ao89 x189000_30.length co89, .slice Ao90 x189001_30.length co90]] rfl la_ ?_; (with_reducible refine (spec_GoodPct.calls kj80 _ _ x189000_30 _ _ x189001_30 true _ ?side1 ?side2 ?side3 ?side4 A84.out).mono ?_); (case side1 => repeat (first | exact (Kd.R_reads' HO_189000.out).2.2 | with_reducible apply cA_|with_reducible apply cN_|with_reducible apply cD_)); (case side2 => exact (Kd.R_reads' HO_189000.out).2.1); (case side3 => repeat (first | exact (Kd.R_reads' HO_189001.out).2.2 | with_reducible apply cA_|with_reducible apply cN_|with_reducible apply cD_)); (case side4 => exact (Kd.R_reads' HO_189001.out).2.1); rintro e w91 ⟨rfl, hb⟩; refine ⟨_, rfl, ?_⟩; have n0_ := a_ (Kd.R_below (r_ HO_189000.out) hb); have n1_ := a_ (Kd.R_below (r_ HO_189001.out) hb); have n2_ := a_ (blk_below (q_ BK176.out) hb); have n3_ := a_ (blk_below (q_ BK177.out) hb); have n4_ := a_ (blk_below (q_ BK188.out) hb); have n5_ := a_ (below_step b_ hb); clear HO_189000; clear HO_189001; clear BK176; clear BK177; clear BK188; clear HB; have HO_189000 := n0_; have HO_189001 := n1_; have BK176 := n2_; have BK177 := n3_; have BK188 := n4_; have HB := n5_; clear n0_ n1_ n2_ n3_ n4_ n5_; (try clear hb); (try clear hb2); (try clear hk); (try clear hi); have hcz92_0 : w91.cell? ⟨gb188, 0, none⟩ = some (.slice Ao89 x189000_30.length co89) := (blk_cell BK188.out 0).trans rfl; have hcz92_1 : w91.cell? ⟨gb188, 1, none⟩ = some (.slice Ao90 x189001_30.length co90) := (blk_cell BK188.out 1).trans rfl; have hfz92_0 := blk_frozen BK188.out 0; have hfz92_1 := blk_frozen BK188.out 1; have hnb93 := NB177_176.out; have hnc93 := NB176_177.out; have hcz94_0 : w91.cell? ⟨gb177, 0, none⟩ = some (.slice none 0 0) := (blk_cell BK177.out 0).trans rfl; have hcz94_1 : w91.cell? ⟨gb177, 1, none⟩ = some (.slice none 0 0) := (blk_cell BK177.out 1).trans rfl; have hfz94_0 := blk_frozen BK177.out 0; have hfz94_1 := blk_frozen BK177.out 1))
          refine bodyPost_ret (results_ct rfl _ _ gb177 26 #[.slice Ao89 x189000_30.length co89, .slice Ao90 x189001_30.length co90] (0, 0) _ rfl (by refine q_ ?_; refine blk_put (cs := #[.slice Ao89 x189000_30.length co89, .slice none 0 0]) ?_ 1 _ rfl; refine q_ ?_; refine blk_put (cs := #[.slice none 0 0, .slice none 0 0]) ?_ 0 _ rfl; exact q_ BK177.out) Try.underlying26 rfl (by kernel_rfl)) rfl ?_
          exact ⟨_, _, by first | rfl | (simp [errW_none, errW_some] <;> rfl) | (simp [*, errW_none, errW_some] <;> rfl), by refine r_ ?_; exact r2_ HO_189000.out BK177.out (by decide), by refine r_ ?_; exact r2_ HO_189001.out BK177.out (by decide), b_⟩
         ·replace c85 := Bool.eq_false_iff.mpr c85
          subst c85
          have H1 : (some (([] : List Int), ([] : List Int), false)) = some (r1, r2, r3) := by rw [if_neg (show ¬ (false = true) by decide)] at H; exact H
          clear H; have H := H1; clear H1
          simp only [Option.some.injEq, Prod.mk.injEq] at H
          obtain ⟨rfl, rfl, rfl⟩ := H
          have hnb95 := NB188_176.out; have hnc95 := NB176_188.out; have hnb96 := NB188_177.out; have hnc96 := NB177_188.out
          have hcz97_0 : wc.cell? ⟨gb188, 0, none⟩ = some (u189000) := (blk_cell BK188.out 0).trans rfl
          have hcz97_1 : wc.cell? ⟨gb188, 1, none⟩ = some (u189001) := (blk_cell BK188.out 1).trans rfl
          have hfz97_0 := blk_frozen BK188.out 0
          have hfz97_1 := blk_frozen BK188.out 1
          obtain ⟨Ao98, co98, eo98⟩ := Kd.R_slice HO_189000.out
          subst eo98
          obtain ⟨Ao99, co99, eo99⟩ := Kd.R_slice HO_189001.out
          subst eo99
          go_wp2_with (first | ((with_reducible refine gate_callee (f := 52) rfl ?_); refine goesL_ (some 102) rfl rfl Try.func52 (by kernel_rfl) rfl #[.agg #[.slice Ao98 x189000_30.length co98, .slice Ao99 x189001_30.length co99]] rfl la_ ?_; (with_reducible refine (spec_GoodPct.calls kj80 _ _ x189000_30 _ _ x189001_30 false _ ?side1 ?side2 ?side3 ?side4 A84.out).mono ?_); (case side1 => repeat (first | exact (Kd.R_reads' HO_189000.out).2.2 | with_reducible apply cA_|with_reducible apply cN_|with_reducible apply cD_)); (case side2 => exact (Kd.R_reads' HO_189000.out).2.1); (case side3 => repeat (first | exact (Kd.R_reads' HO_189001.out).2.2 | with_reducible apply cA_|with_reducible apply cN_|with_reducible apply cD_)); (case side4 => exact (Kd.R_reads' HO_189001.out).2.1); rintro e w100 ⟨rfl, hb⟩; refine ⟨_, rfl, ?_⟩; have n0_ := a_ (Kd.R_below (r_ HO_189000.out) hb); have n1_ := a_ (Kd.R_below (r_ HO_189001.out) hb); have n2_ := a_ (blk_below (q_ BK176.out) hb); have n3_ := a_ (blk_below (q_ BK177.out) hb); have n4_ := a_ (blk_below (q_ BK188.out) hb); have n5_ := a_ (below_step b_ hb); clear HO_189000; clear HO_189001; clear BK176; clear BK177; clear BK188; clear HB; have HO_189000 := n0_; have HO_189001 := n1_; have BK176 := n2_; have BK177 := n3_; have BK188 := n4_; have HB := n5_; clear n0_ n1_ n2_ n3_ n4_ n5_; (try clear hb); (try clear hb2); (try clear hk); (try clear hi); have hnb101 := NB177_176.out; have hnc101 := NB176_177.out; have hcz102_0 : w100.cell? ⟨gb177, 0, none⟩ = some (.slice none 0 0) := (blk_cell BK177.out 0).trans rfl; have hcz102_1 : w100.cell? ⟨gb177, 1, none⟩ = some (.slice none 0 0) := (blk_cell BK177.out 1).trans rfl; have hfz102_0 := blk_frozen BK177.out 0; have hfz102_1 := blk_frozen BK177.out 1))
          refine bodyPost_ret (results_ct rfl _ _ gb177 26 #[.slice none 0 0, .slice none 0 0] (0, 0) _ rfl (by refine q_ ?_; refine blk_put (cs := #[.slice none 0 0, .slice none 0 0]) ?_ 1 _ rfl; refine q_ ?_; refine blk_put (cs := #[.slice none 0 0, .slice none 0 0]) ?_ 0 _ rfl; exact q_ BK177.out) Try.underlying26 rfl (by kernel_rfl)) rfl ?_
          exact ⟨_, _, by first | rfl | (simp [errW_none, errW_some] <;> rfl) | (simp [*, errW_none, errW_some] <;> rfl), by first | exact Kd.R_nil _ _ _ _ _ | exact Kd.N_nil _ _ _ _ _ | exact Kd.V_nil _ _ _ _ _ | exact Kd.Q_nil _ _ _ _ _ | exact Kd.S_nil _ _ _ _ _, by first | exact Kd.R_nil _ _ _ _ _ | exact Kd.N_nil _ _ _ _ _ | exact Kd.V_nil _ _ _ _ _ | exact Kd.Q_nil _ _ _ _ _ | exact Kd.S_nil _ _ _ _ _, b_⟩
        ·rw [if_neg c83] at H
         have c83b0 : (a1 == 2) = false := beq_eq_false_iff_ne.mpr c83
         have c83b1 : (a1 != 2) = true := bne_iff_ne.mpr c83
         replace H := Option.bind_eq_some_iff.mp H
         obtain ⟨t198, A1030, H⟩ := H
         replace H : (if t198 = true then (some (([] : List Int), ([] : List Int), false)) else ((spec_l1Put.f kj80 x189001_30 x12_80).bind fun t199 => ((spec_GoodPct.f kj80 x189000_30 t199).bind fun t202 => (if t202 = true then (some (x189000_30, t199, true)) else (some (([] : List Int), ([] : List Int), false)))))) = some (r1, r2, r3) := H
         have A103 := a_ A1030; clear A1030
         by_cases c104 : t198 = true
         ·subst c104
          have H1 : (some (([] : List Int), ([] : List Int), false)) = some (r1, r2, r3) := by rw [if_pos rfl] at H; exact H
          clear H; have H := H1; clear H1
          simp only [Option.some.injEq, Prod.mk.injEq] at H
          obtain ⟨rfl, rfl, rfl⟩ := H
          have hnb105 := NB176_177.out; have hnc105 := NB177_176.out; have hnb106 := NB176_188.out; have hnc106 := NB188_176.out
          have hcz107_0 : wc.cell? ⟨gb176, 0, none⟩ = some (.slice A0_0 l0_0.length c0_0) := (blk_cell BK176.out 0).trans rfl
          have hcz107_1 : wc.cell? ⟨gb176, 1, none⟩ = some (.slice A0_1 l0_1.length c0_1) := (blk_cell BK176.out 1).trans rfl
          have hfz107_0 := blk_frozen BK176.out 0
          have hfz107_1 := blk_frozen BK176.out 1
          go_wp2_with (first | ((with_reducible refine gate_callee (f := 56) rfl ?_); refine goesL_ (some 94) rfl rfl Try.func56 (by kernel_rfl) rfl #[.slice A0_1 l0_1.length c0_1, .int .i64 x12_80] rfl la_ ?_; (with_reducible refine (spec_l1Has.calls kj80 _ _ l0_1 x12_80 true _ ?side1 ?side2 A103.out).mono ?_); (case side1 => exact c_ (Kd.C_below HR0_1.out HB.out)); (case side2 => exact HC0_1.out); rintro e w' ⟨rfl, ⟨nd, rfl⟩⟩; refine ⟨_, rfl, ?_⟩; (try (rw [drewN_self wc]; generalize hq_ : World.drewN wc _ = wc; have n0_ : Aside0 (Kd.R (Kd.int .i64) 3 wc w.heap.size (fun k_ => some k_ ≠ (u189001 : Value).ownBlock) u189000 x189000_30) := ⟨by rw [← hq_]; exact (r_ HO_189000.out)⟩; have n1_ : Aside0 (Kd.R (Kd.int .i64) 3 wc w.heap.size (fun k_ => some k_ ≠ (u189000 : Value).ownBlock) u189001 x189001_30) := ⟨by rw [← hq_]; exact (r_ HO_189001.out)⟩; have n2_ : Aside0 (wc.heap[gb176]? = some (.cells #[.slice A0_0 l0_0.length c0_0, .slice A0_1 l0_1.length c0_1] 26 (0, 0))) := ⟨by rw [← hq_]; exact (q_ BK176.out)⟩; have n3_ : Aside0 (wc.heap[gb177]? = some (.cells #[.slice none 0 0, .slice none 0 0] 26 (0, 0))) := ⟨by rw [← hq_]; exact (q_ BK177.out)⟩; have n4_ : Aside0 (wc.heap[gb188]? = some (.cells #[u189000, u189001] 26 (0, 0))) := ⟨by rw [← hq_]; exact (q_ BK188.out)⟩; have n5_ : Aside0 (Below w.heap.size w wc) := ⟨by rw [← hq_]; exact b_⟩; clear HO_189000 HO_189001 BK176 BK177 BK188 HB hq_; have HO_189000 := n0_; have HO_189001 := n1_; have BK176 := n2_; have BK177 := n3_; have BK188 := n4_; have HB := n5_; clear n0_ n1_ n2_ n3_ n4_ n5_)); have hnb108 := NB177_188.out; have hnc108 := NB188_177.out; have hcz109_0 : wc.cell? ⟨gb177, 0, none⟩ = some (.slice none 0 0) := (blk_cell BK177.out 0).trans rfl; have hcz109_1 : wc.cell? ⟨gb177, 1, none⟩ = some (.slice none 0 0) := (blk_cell BK177.out 1).trans rfl; have hfz109_0 := blk_frozen BK177.out 0; have hfz109_1 := blk_frozen BK177.out 1))
          refine bodyPost_ret (results_ct rfl _ _ gb177 26 #[.slice none 0 0, .slice none 0 0] (0, 0) _ rfl (by refine q_ ?_; refine blk_put (cs := #[.slice none 0 0, .slice none 0 0]) ?_ 1 _ rfl; refine q_ ?_; refine blk_put (cs := #[.slice none 0 0, .slice none 0 0]) ?_ 0 _ rfl; exact q_ BK177.out) Try.underlying26 rfl (by kernel_rfl)) rfl ?_
          exact ⟨_, _, by first | rfl | (simp [errW_none, errW_some] <;> rfl) | (simp [*, errW_none, errW_some] <;> rfl), by first | exact Kd.R_nil _ _ _ _ _ | exact Kd.N_nil _ _ _ _ _ | exact Kd.V_nil _ _ _ _ _ | exact Kd.Q_nil _ _ _ _ _ | exact Kd.S_nil _ _ _ _ _, by first | exact Kd.R_nil _ _ _ _ _ | exact Kd.N_nil _ _ _ _ _ | exact Kd.V_nil _ _ _ _ _ | exact Kd.Q_nil _ _ _ _ _ | exact Kd.S_nil _ _ _ _ _, b_⟩
         ·replace c104 := Bool.eq_false_iff.mpr c104
          subst c104
          have H1 : ((spec_l1Put.f kj80 x189001_30 x12_80).bind fun t199 => ((spec_GoodPct.f kj80 x189000_30 t199).bind fun t202 => (if t202 = true then (some (x189000_30, t199, true)) else (some (([] : List Int), ([] : List Int), false))))) = some (r1, r2, r3) := by rw [if_neg (show ¬ (false = true) by decide)] at H; exact H
          clear H; have H := H1; clear H1
          replace H := Option.bind_eq_some_iff.mp H
          obtain ⟨t199, A1100, H⟩ := H
          replace H : ((spec_GoodPct.f kj80 x189000_30 t199).bind fun t202 => (if t202 = true then (some (x189000_30, t199, true)) else (some (([] : List Int), ([] : List Int), false)))) = some (r1, r2, r3) := H
          have A110 := a_ A1100; clear A1100
          replace H := Option.bind_eq_some_iff.mp H
          obtain ⟨t202, A1110, H⟩ := H
          replace H : (if t202 = true then (some (x189000_30, t199, true)) else (some (([] : List Int), ([] : List Int), false))) = some (r1, r2, r3) := H
          have A111 := a_ A1110; clear A1110
          by_cases c112 : t202 = true
          ·subst c112
           have H1 : (some (x189000_30, t199, true)) = some (r1, r2, r3) := by rw [if_pos rfl] at H; exact H
           clear H; have H := H1; clear H1
           simp only [Option.some.injEq, Prod.mk.injEq] at H
           obtain ⟨rfl, rfl, rfl⟩ := H
           have hnb113 := NB176_177.out; have hnc113 := NB177_176.out; have hnb114 := NB176_188.out; have hnc114 := NB188_176.out
           have hcz115_0 : wc.cell? ⟨gb176, 0, none⟩ = some (.slice A0_0 l0_0.length c0_0) := (blk_cell BK176.out 0).trans rfl
           have hcz115_1 : wc.cell? ⟨gb176, 1, none⟩ = some (.slice A0_1 l0_1.length c0_1) := (blk_cell BK176.out 1).trans rfl
           have hfz115_0 := blk_frozen BK176.out 0
           have hfz115_1 := blk_frozen BK176.out 1
           go_wp2_with (first | ((with_reducible refine gate_callee (f := 56) rfl ?_); refine goesL_ (some 94) rfl rfl Try.func56 (by kernel_rfl) rfl #[.slice A0_1 l0_1.length c0_1, .int .i64 x12_80] rfl la_ ?_; (with_reducible refine (spec_l1Has.calls kj80 _ _ l0_1 x12_80 false _ ?side1 ?side2 A103.out).mono ?_); (case side1 => exact c_ (Kd.C_below HR0_1.out HB.out)); (case side2 => exact HC0_1.out); rintro e w' ⟨rfl, ⟨nd, rfl⟩⟩; refine ⟨_, rfl, ?_⟩; (try (rw [drewN_self wc]; generalize hq_ : World.drewN wc _ = wc; have n0_ : Aside0 (Kd.R (Kd.int .i64) 3 wc w.heap.size (fun k_ => some k_ ≠ (u189001 : Value).ownBlock) u189000 x189000_30) := ⟨by rw [← hq_]; exact (r_ HO_189000.out)⟩; have n1_ : Aside0 (Kd.R (Kd.int .i64) 3 wc w.heap.size (fun k_ => some k_ ≠ (u189000 : Value).ownBlock) u189001 x189001_30) := ⟨by rw [← hq_]; exact (r_ HO_189001.out)⟩; have n2_ : Aside0 (wc.heap[gb176]? = some (.cells #[.slice A0_0 l0_0.length c0_0, .slice A0_1 l0_1.length c0_1] 26 (0, 0))) := ⟨by rw [← hq_]; exact (q_ BK176.out)⟩; have n3_ : Aside0 (wc.heap[gb177]? = some (.cells #[.slice none 0 0, .slice none 0 0] 26 (0, 0))) := ⟨by rw [← hq_]; exact (q_ BK177.out)⟩; have n4_ : Aside0 (wc.heap[gb188]? = some (.cells #[u189000, u189001] 26 (0, 0))) := ⟨by rw [← hq_]; exact (q_ BK188.out)⟩; have n5_ : Aside0 (Below w.heap.size w wc) := ⟨by rw [← hq_]; exact b_⟩; clear HO_189000 HO_189001 BK176 BK177 BK188 HB hq_; have HO_189000 := n0_; have HO_189001 := n1_; have BK176 := n2_; have BK177 := n3_; have BK188 := n4_; have HB := n5_; clear n0_ n1_ n2_ n3_ n4_ n5_)); have hnb116 := NB188_177.out; have hnc116 := NB177_188.out; have hcz117_0 : wc.cell? ⟨gb188, 0, none⟩ = some (u189000) := (blk_cell BK188.out 0).trans rfl; have hcz117_1 : wc.cell? ⟨gb188, 1, none⟩ = some (u189001) := (blk_cell BK188.out 1).trans rfl; have hfz117_0 := blk_frozen BK188.out 0; have hfz117_1 := blk_frozen BK188.out 1; obtain ⟨Ao118, co118, eo118⟩ := Kd.R_slice HO_189001.out; subst eo118) | ((with_reducible refine gate_callee (f := 57) rfl ?_); refine goesL_ (some 99) rfl rfl Try.func57 (by kernel_rfl) rfl #[.slice Ao118 x189001_30.length co118, .int .i64 x12_80] rfl la_ ?_; (with_reducible refine (spec_l1Put.calls kj80 (fun k_ => some k_ = (.slice Ao118 x189001_30.length co118 : Value).ownBlock) (.slice Ao118 x189001_30.length co118) x189001_30 x12_80 t199 w _ ?side1 ?side2 A110.out).mono ?_); (case side1 => exact b_); (case side2 => exact Kd.R_tight rfl HO_189001.out); rintro e w119 ⟨v200, rfl, ho0, hb, hkp⟩; refine ⟨_, rfl, ?_⟩; have n0_ := a_ (Kd.R_mono (ok' := fun k_ => some k_ ≠ (v200 : Value).ownBlock) (Kd.R_keptB (HO_189000.out) hkp (fun k_ hk_ hs_ => (hk_) hs_)) (fun k_ hk_ => fun e_ => Or.elim (ho0.1 k_ e_.symm) (fun hs_ => hk_.2.1 hs_) (fun hn_ => Nat.not_le.2 hk_.2.2 hn_))); have n1_ := a_ (blk_kept (q_ BK176.out) hkp (fun hs_ => (fun e_ => (Kd.R_ne HO_189001.out BK176.out (by decide)) e_) hs_)); have n2_ := a_ (blk_kept (q_ BK177.out) hkp (fun hs_ => (fun e_ => (Kd.R_ne HO_189001.out BK177.out (by decide)) e_) hs_)); have n3_ := a_ (blk_kept (q_ BK188.out) hkp (fun hs_ => (fun e_ => (Kd.R_ne HO_189001.out BK188.out (by decide)) e_) hs_)); have n4_ := a_ (Kd.R_mono (ok' := fun k_ => some k_ ≠ (u189000 : Value).ownBlock) ho0 (fun k_ hk_ => Or.elim hk_ (fun hs_ => fun e_ => (((HO_189000.out).1 k_ e_.symm)) hs_) (fun hn_ => (Kd.fresh' (Kd.R_lt (r_ HO_189000.out)) k_ hn_)))); have n5_ := a_ (hb); clear HO_189000; clear BK176; clear BK177; clear BK188; clear HB; clear HO_189001; have HO_189000 := n0_; have BK176 := n1_; have BK177 := n2_; have BK188 := n3_; have HO201 := n4_; have HB := n5_; clear n0_ n1_ n2_ n3_ n4_ n5_; (try clear hb); (try clear hkp); (try clear ho0); obtain ⟨Ao120, co120, eo120⟩ := Kd.R_slice HO201.out; subst eo120; have hcz121_0 : w119.cell? ⟨gb188, 0, none⟩ = some (u189000) := (blk_cell BK188.out 0).trans rfl; have hcz121_1 : w119.cell? ⟨gb188, 1, none⟩ = some (.slice Ao118 x189001_30.length co118) := (blk_cell BK188.out 1).trans rfl; have hfz121_0 := blk_frozen BK188.out 0; have hfz121_1 := blk_frozen BK188.out 1; obtain ⟨Ao122, co122, eo122⟩ := Kd.R_slice HO_189000.out; subst eo122) | ((with_reducible refine gate_callee (f := 52) rfl ?_); refine goesL_ (some 102) rfl rfl Try.func52 (by kernel_rfl) rfl #[.agg #[.slice Ao122 x189000_30.length co122, .slice Ao120 t199.length co120]] rfl la_ ?_; (with_reducible refine (spec_GoodPct.calls kj80 _ _ x189000_30 _ _ t199 true _ ?side1 ?side2 ?side3 ?side4 A111.out).mono ?_); (case side1 => refine (Kd.R_reads' (e := 3) (base := w.heap.size) (ok := fun k_ => some k_ ≠ (.slice Ao120 t199.length co120 : Value).ownBlock) (n := x189000_30.length) (c := co122) ?_).2.2; exact (by refine r_ ?_; exact (r1_ HO_189000.out BK188.out (by decide)))); (case side2 => exact (Kd.R_reads' HO_189000.out).2.1); (case side3 => refine (Kd.R_reads' (e := 3) (base := w.heap.size) (ok := fun k_ => some k_ ≠ (.slice Ao122 x189000_30.length co122 : Value).ownBlock) (n := t199.length) (c := co120) ?_).2.2; exact (by refine r_ ?_; exact (r1_ HO201.out BK188.out (by decide)))); (case side4 => exact (Kd.R_reads' HO201.out).2.1); rintro e w123 ⟨rfl, hb⟩; refine ⟨_, rfl, ?_⟩; have n0_ := a_ (Kd.R_below (by refine r_ ?_; exact (r1_ HO_189000.out BK188.out (by decide))) hb); have n1_ := a_ (Kd.R_below (by refine r_ ?_; exact (r1_ HO201.out BK188.out (by decide))) hb); have n2_ := a_ (blk_below (g := gb176) (o := .cells #[.slice A0_0 l0_0.length c0_0, .slice A0_1 l0_1.length c0_1] 26 (0, 0)) (by refine q_ ?_; refine blk_far ?_ NB176_188.out _; exact q_ BK176.out) hb); have n3_ := a_ (blk_below (g := gb177) (o := .cells #[.slice none 0 0, .slice none 0 0] 26 (0, 0)) (by refine q_ ?_; refine blk_far ?_ NB177_188.out _; exact q_ BK177.out) hb); have n4_ := a_ (blk_below (g := gb188) (o := .cells #[.slice Ao122 x189000_30.length co122, .slice Ao120 t199.length co120] 26 (0, 0)) (by refine q_ ?_; refine blk_put (cs := #[.slice Ao122 x189000_30.length co122, .slice Ao118 x189001_30.length co118]) ?_ 1 _ rfl; exact q_ BK188.out) hb); have n5_ := a_ (below_step b_ hb); clear HO_189000; clear HO201; clear BK176; clear BK177; clear BK188; clear HB; have HO_189000 := n0_; have HO201 := n1_; have BK176 := n2_; have BK177 := n3_; have BK188 := n4_; have HB := n5_; clear n0_ n1_ n2_ n3_ n4_ n5_; (try clear hb); (try clear hb2); (try clear hk); (try clear hi); have hcz124_0 : w123.cell? ⟨gb188, 0, none⟩ = some (.slice Ao122 x189000_30.length co122) := (blk_cell BK188.out 0).trans rfl; have hcz124_1 : w123.cell? ⟨gb188, 1, none⟩ = some (.slice Ao120 t199.length co120) := (blk_cell BK188.out 1).trans rfl; have hfz124_0 := blk_frozen BK188.out 0; have hfz124_1 := blk_frozen BK188.out 1; have hcz125_0 : w123.cell? ⟨gb177, 0, none⟩ = some (.slice none 0 0) := (blk_cell BK177.out 0).trans rfl; have hcz125_1 : w123.cell? ⟨gb177, 1, none⟩ = some (.slice none 0 0) := (blk_cell BK177.out 1).trans rfl; have hfz125_0 := blk_frozen BK177.out 0; have hfz125_1 := blk_frozen BK177.out 1))
           refine bodyPost_ret (results_ct rfl _ _ gb177 26 #[.slice Ao122 x189000_30.length co122, .slice Ao120 t199.length co120] (0, 0) _ rfl (by refine q_ ?_; refine blk_put (cs := #[.slice Ao122 x189000_30.length co122, .slice none 0 0]) ?_ 1 _ rfl; refine q_ ?_; refine blk_put (cs := #[.slice none 0 0, .slice none 0 0]) ?_ 0 _ rfl; exact q_ BK177.out) Try.underlying26 rfl (by kernel_rfl)) rfl ?_
           exact ⟨_, _, by first | rfl | (simp [errW_none, errW_some] <;> rfl) | (simp [*, errW_none, errW_some] <;> rfl), by refine r_ ?_; exact r2_ HO_189000.out BK177.out (by decide), by refine r_ ?_; exact r2_ HO201.out BK177.out (by decide), b_⟩
          ·replace c112 := Bool.eq_false_iff.mpr c112
           subst c112
           have H1 : (some (([] : List Int), ([] : List Int), false)) = some (r1, r2, r3) := by rw [if_neg (show ¬ (false = true) by decide)] at H; exact H
           clear H; have H := H1; clear H1
           simp only [Option.some.injEq, Prod.mk.injEq] at H
           obtain ⟨rfl, rfl, rfl⟩ := H
           have hnb126 := NB176_177.out; have hnc126 := NB177_176.out; have hnb127 := NB176_188.out; have hnc127 := NB188_176.out
           have hcz128_0 : wc.cell? ⟨gb176, 0, none⟩ = some (.slice A0_0 l0_0.length c0_0) := (blk_cell BK176.out 0).trans rfl
           have hcz128_1 : wc.cell? ⟨gb176, 1, none⟩ = some (.slice A0_1 l0_1.length c0_1) := (blk_cell BK176.out 1).trans rfl
           have hfz128_0 := blk_frozen BK176.out 0
           have hfz128_1 := blk_frozen BK176.out 1
           go_wp2_with (first | ((with_reducible refine gate_callee (f := 56) rfl ?_); refine goesL_ (some 94) rfl rfl Try.func56 (by kernel_rfl) rfl #[.slice A0_1 l0_1.length c0_1, .int .i64 x12_80] rfl la_ ?_; (with_reducible refine (spec_l1Has.calls kj80 _ _ l0_1 x12_80 false _ ?side1 ?side2 A103.out).mono ?_); (case side1 => exact c_ (Kd.C_below HR0_1.out HB.out)); (case side2 => exact HC0_1.out); rintro e w' ⟨rfl, ⟨nd, rfl⟩⟩; refine ⟨_, rfl, ?_⟩; (try (rw [drewN_self wc]; generalize hq_ : World.drewN wc _ = wc; have n0_ : Aside0 (Kd.R (Kd.int .i64) 3 wc w.heap.size (fun k_ => some k_ ≠ (u189001 : Value).ownBlock) u189000 x189000_30) := ⟨by rw [← hq_]; exact (r_ HO_189000.out)⟩; have n1_ : Aside0 (Kd.R (Kd.int .i64) 3 wc w.heap.size (fun k_ => some k_ ≠ (u189000 : Value).ownBlock) u189001 x189001_30) := ⟨by rw [← hq_]; exact (r_ HO_189001.out)⟩; have n2_ : Aside0 (wc.heap[gb176]? = some (.cells #[.slice A0_0 l0_0.length c0_0, .slice A0_1 l0_1.length c0_1] 26 (0, 0))) := ⟨by rw [← hq_]; exact (q_ BK176.out)⟩; have n3_ : Aside0 (wc.heap[gb177]? = some (.cells #[.slice none 0 0, .slice none 0 0] 26 (0, 0))) := ⟨by rw [← hq_]; exact (q_ BK177.out)⟩; have n4_ : Aside0 (wc.heap[gb188]? = some (.cells #[u189000, u189001] 26 (0, 0))) := ⟨by rw [← hq_]; exact (q_ BK188.out)⟩; have n5_ : Aside0 (Below w.heap.size w wc) := ⟨by rw [← hq_]; exact b_⟩; clear HO_189000 HO_189001 BK176 BK177 BK188 HB hq_; have HO_189000 := n0_; have HO_189001 := n1_; have BK176 := n2_; have BK177 := n3_; have BK188 := n4_; have HB := n5_; clear n0_ n1_ n2_ n3_ n4_ n5_)); have hnb129 := NB188_177.out; have hnc129 := NB177_188.out; have hcz130_0 : wc.cell? ⟨gb188, 0, none⟩ = some (u189000) := (blk_cell BK188.out 0).trans rfl; have hcz130_1 : wc.cell? ⟨gb188, 1, none⟩ = some (u189001) := (blk_cell BK188.out 1).trans rfl; have hfz130_0 := blk_frozen BK188.out 0; have hfz130_1 := blk_frozen BK188.out 1; obtain ⟨Ao131, co131, eo131⟩ := Kd.R_slice HO_189001.out; subst eo131) | ((with_reducible refine gate_callee (f := 57) rfl ?_); refine goesL_ (some 99) rfl rfl Try.func57 (by kernel_rfl) rfl #[.slice Ao131 x189001_30.length co131, .int .i64 x12_80] rfl la_ ?_; (with_reducible refine (spec_l1Put.calls kj80 (fun k_ => some k_ = (.slice Ao131 x189001_30.length co131 : Value).ownBlock) (.slice Ao131 x189001_30.length co131) x189001_30 x12_80 t199 w _ ?side1 ?side2 A110.out).mono ?_); (case side1 => exact b_); (case side2 => exact Kd.R_tight rfl HO_189001.out); rintro e w132 ⟨v200, rfl, ho0, hb, hkp⟩; refine ⟨_, rfl, ?_⟩; have n0_ := a_ (Kd.R_mono (ok' := fun k_ => some k_ ≠ (v200 : Value).ownBlock) (Kd.R_keptB (HO_189000.out) hkp (fun k_ hk_ hs_ => (hk_) hs_)) (fun k_ hk_ => fun e_ => Or.elim (ho0.1 k_ e_.symm) (fun hs_ => hk_.2.1 hs_) (fun hn_ => Nat.not_le.2 hk_.2.2 hn_))); have n1_ := a_ (blk_kept (q_ BK176.out) hkp (fun hs_ => (fun e_ => (Kd.R_ne HO_189001.out BK176.out (by decide)) e_) hs_)); have n2_ := a_ (blk_kept (q_ BK177.out) hkp (fun hs_ => (fun e_ => (Kd.R_ne HO_189001.out BK177.out (by decide)) e_) hs_)); have n3_ := a_ (blk_kept (q_ BK188.out) hkp (fun hs_ => (fun e_ => (Kd.R_ne HO_189001.out BK188.out (by decide)) e_) hs_)); have n4_ := a_ (Kd.R_mono (ok' := fun k_ => some k_ ≠ (u189000 : Value).ownBlock) ho0 (fun k_ hk_ => Or.elim hk_ (fun hs_ => fun e_ => (((HO_189000.out).1 k_ e_.symm)) hs_) (fun hn_ => (Kd.fresh' (Kd.R_lt (r_ HO_189000.out)) k_ hn_)))); have n5_ := a_ (hb); clear HO_189000; clear BK176; clear BK177; clear BK188; clear HB; clear HO_189001; have HO_189000 := n0_; have BK176 := n1_; have BK177 := n2_; have BK188 := n3_; have HO201 := n4_; have HB := n5_; clear n0_ n1_ n2_ n3_ n4_ n5_; (try clear hb); (try clear hkp); (try clear ho0); obtain ⟨Ao133, co133, eo133⟩ := Kd.R_slice HO201.out; subst eo133; have hcz134_0 : w132.cell? ⟨gb188, 0, none⟩ = some (u189000) := (blk_cell BK188.out 0).trans rfl; have hcz134_1 : w132.cell? ⟨gb188, 1, none⟩ = some (.slice Ao131 x189001_30.length co131) := (blk_cell BK188.out 1).trans rfl; have hfz134_0 := blk_frozen BK188.out 0; have hfz134_1 := blk_frozen BK188.out 1; obtain ⟨Ao135, co135, eo135⟩ := Kd.R_slice HO_189000.out; subst eo135) | ((with_reducible refine gate_callee (f := 52) rfl ?_); refine goesL_ (some 102) rfl rfl Try.func52 (by kernel_rfl) rfl #[.agg #[.slice Ao135 x189000_30.length co135, .slice Ao133 t199.length co133]] rfl la_ ?_; (with_reducible refine (spec_GoodPct.calls kj80 _ _ x189000_30 _ _ t199 false _ ?side1 ?side2 ?side3 ?side4 A111.out).mono ?_); (case side1 => refine (Kd.R_reads' (e := 3) (base := w.heap.size) (ok := fun k_ => some k_ ≠ (.slice Ao133 t199.length co133 : Value).ownBlock) (n := x189000_30.length) (c := co135) ?_).2.2; exact (by refine r_ ?_; exact (r1_ HO_189000.out BK188.out (by decide)))); (case side2 => exact (Kd.R_reads' HO_189000.out).2.1); (case side3 => refine (Kd.R_reads' (e := 3) (base := w.heap.size) (ok := fun k_ => some k_ ≠ (.slice Ao135 x189000_30.length co135 : Value).ownBlock) (n := t199.length) (c := co133) ?_).2.2; exact (by refine r_ ?_; exact (r1_ HO201.out BK188.out (by decide)))); (case side4 => exact (Kd.R_reads' HO201.out).2.1); rintro e w136 ⟨rfl, hb⟩; refine ⟨_, rfl, ?_⟩; have n0_ := a_ (Kd.R_below (by refine r_ ?_; exact (r1_ HO_189000.out BK188.out (by decide))) hb); have n1_ := a_ (Kd.R_below (by refine r_ ?_; exact (r1_ HO201.out BK188.out (by decide))) hb); have n2_ := a_ (blk_below (g := gb176) (o := .cells #[.slice A0_0 l0_0.length c0_0, .slice A0_1 l0_1.length c0_1] 26 (0, 0)) (by refine q_ ?_; refine blk_far ?_ NB176_188.out _; exact q_ BK176.out) hb); have n3_ := a_ (blk_below (g := gb177) (o := .cells #[.slice none 0 0, .slice none 0 0] 26 (0, 0)) (by refine q_ ?_; refine blk_far ?_ NB177_188.out _; exact q_ BK177.out) hb); have n4_ := a_ (blk_below (g := gb188) (o := .cells #[.slice Ao135 x189000_30.length co135, .slice Ao133 t199.length co133] 26 (0, 0)) (by refine q_ ?_; refine blk_put (cs := #[.slice Ao135 x189000_30.length co135, .slice Ao131 x189001_30.length co131]) ?_ 1 _ rfl; exact q_ BK188.out) hb); have n5_ := a_ (below_step b_ hb); clear HO_189000; clear HO201; clear BK176; clear BK177; clear BK188; clear HB; have HO_189000 := n0_; have HO201 := n1_; have BK176 := n2_; have BK177 := n3_; have BK188 := n4_; have HB := n5_; clear n0_ n1_ n2_ n3_ n4_ n5_; (try clear hb); (try clear hb2); (try clear hk); (try clear hi); have hcz137_0 : w136.cell? ⟨gb177, 0, none⟩ = some (.slice none 0 0) := (blk_cell BK177.out 0).trans rfl; have hcz137_1 : w136.cell? ⟨gb177, 1, none⟩ = some (.slice none 0 0) := (blk_cell BK177.out 1).trans rfl; have hfz137_0 := blk_frozen BK177.out 0; have hfz137_1 := blk_frozen BK177.out 1))
           refine bodyPost_ret (results_ct rfl _ _ gb177 26 #[.slice none 0 0, .slice none 0 0] (0, 0) _ rfl (by refine q_ ?_; refine blk_put (cs := #[.slice none 0 0, .slice none 0 0]) ?_ 1 _ rfl; refine q_ ?_; refine blk_put (cs := #[.slice none 0 0, .slice none 0 0]) ?_ 0 _ rfl; exact q_ BK177.out) Try.underlying26 rfl (by kernel_rfl)) rfl ?_
           exact ⟨_, _, by first | rfl | (simp [errW_none, errW_some] <;> rfl) | (simp [*, errW_none, errW_some] <;> rfl), by first | exact Kd.R_nil _ _ _ _ _ | exact Kd.N_nil _ _ _ _ _ | exact Kd.V_nil _ _ _ _ _ | exact Kd.Q_nil _ _ _ _ _ | exact Kd.S_nil _ _ _ _ _, by first | exact Kd.R_nil _ _ _ _ _ | exact Kd.N_nil _ _ _ _ _ | exact Kd.V_nil _ _ _ _ _ | exact Kd.Q_nil _ _ _ _ _ | exact Kd.S_nil _ _ _ _ _, b_⟩

end Go.Proofs.Ytpfbiopcfbokbaa.GChangePct

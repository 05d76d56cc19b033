-- Printed by wip/tools/print2.py out of the translation: walks and plain functions; Lean checks them.
import Derived.Test.YthdpiceiemkjlaaGPlayObjectx0
namespace Go.Proofs.Ythdpiceiemkjlaa.GPlayObject
open Go.RowKit Go.Proofs.YthdpiceiemkjlaaW.PrintWords Go.Proofs.YthdpiceiemkjlaaW.PrintLast Go.Proofs.YthdpiceiemkjlaaW.PrintMore
attribute [local go_sem] max2_int min2_int max_two min_two max_three min_three max_four min_four   -- for this text's walks alone
set_option linter.unusedVariables false
set_option linter.unusedSimpArgs false

/-! ### laws_szCallS: function 9 -/
def laws_szCallS.f (l0 : List (S79)) (a1 : Int) : Option (Int) := if (wrap64 (a1 - (l0.length : Int))) < 0 then (some (-1)) else (some (wrap64 (a1 - (l0.length : Int))))
set_option maxHeartbeats 8000000 in
set_option maxRecDepth 100000 in
theorem laws_szCallS.calls (A0 : Option Addr) (c0 : Nat) (l0 : List (S79)) (a1 : Int) (r : Int) (w : World) (hr0 : Kd.C k79 w A0 l0.length l0) (hc0 : l0.length ≤ c0) (h : laws_szCallS.f l0 a1 = some r) :
  Calls Try.prog 9 #[.slice A0 l0.length c0, .int .i64 a1] w fun e w' => e = .returned (.int .i64 r) ∧ Drawn0 w w' := by
 have HR0 := a_ hr0
 have HC0 := a_ hc0
 clear hr0 hc0
 have H : (if (wrap64 (a1 - (l0.length : Int))) < 0 then (some (-1)) else (some (wrap64 (a1 - (l0.length : Int))))) = some r := h
 clear h
 by_cases c3 : (wrap64 (a1 - (l0.length : Int))) < 0
 ·rw [if_pos c3] at H
  have c3b0 : decide ((wrap64 (a1 - (l0.length : Int))) < 0) = true := decide_eq_true c3
  clear c3
  obtain rfl := Option.some.inj H
  go_enter Try.func9, Try.ntmps9
  go_wp2
  go_ret
  exact ⟨by first | rfl | (simp; done) | (simp [*]; done), by repeat (first | exact Drawn0.refl _ | apply Drawn0.step)⟩
 ·rw [if_neg c3] at H
  have c3b0 : decide ((wrap64 (a1 - (l0.length : Int))) < 0) = false := decide_eq_false c3
  clear c3
  obtain rfl := Option.some.inj H
  go_enter Try.func9, Try.ntmps9
  go_wp2
  go_ret
  exact ⟨by first | rfl | (simp; done) | (simp [*]; done), by repeat (first | exact Drawn0.refl _ | apply Drawn0.step)⟩

/-! ### spec_l16Kind: function 58 -/
def spec_l16Kind.f (a0 : Int) : Option (Bool) := if a0 = 1 then (some true) else (some (a0 == 2))
set_option maxHeartbeats 8000000 in
set_option maxRecDepth 100000 in
theorem spec_l16Kind.calls (a0 : Int) (r : Bool) (w : World) (h : spec_l16Kind.f a0 = some r) :
  Calls Try.prog 58 #[.int .i64 a0] w fun e w' => e = .returned (.bool r) ∧ Drawn0 w w' := by
 have H : (if a0 = 1 then (some true) else (some (a0 == 2))) = some r := h
 clear h
 by_cases c2 : a0 = 1
 ·rw [if_pos c2] at H
  have c2b0 : (a0 == 1) = true := beq_iff_eq.mpr c2
  have c2b1 : (a0 != 1) = false := bne_eq_false_iff_eq.mpr c2
  clear c2
  obtain rfl := Option.some.inj H
  go_enter Try.func58, Try.ntmps58
  go_wp2
  go_ret
  exact ⟨by first | rfl | (simp; done) | (simp [*]; done), by repeat (first | exact Drawn0.refl _ | apply Drawn0.step)⟩
 ·rw [if_neg c2] at H
  have c2b0 : (a0 == 1) = false := beq_eq_false_iff_ne.mpr c2
  have c2b1 : (a0 != 1) = true := bne_iff_ne.mpr c2
  obtain rfl := Option.some.inj H
  go_enter Try.func58, Try.ntmps58
  go_wp2
  go_ret
  exact ⟨by first | rfl | (simp; done) | (simp [*]; done), by repeat (first | exact Drawn0.refl _ | apply Drawn0.step)⟩

/-! ### spec_l1In: function 82 -/
def spec_l1In.f (a0 : Int) (a1 : Int) (a2 : Int) : Option (Bool) := if a0 ≥ a1 then (some (decide (a0 ≤ a2))) else (some false)
set_option maxHeartbeats 8000000 in
set_option maxRecDepth 100000 in
theorem spec_l1In.calls (a0 : Int) (a1 : Int) (a2 : Int) (r : Bool) (w : World) (h : spec_l1In.f a0 a1 a2 = some r) :
  Calls Try.prog 82 #[.int .i64 a0, .int .i64 a1, .int .i64 a2] w fun e w' => e = .returned (.bool r) ∧ Drawn0 w w' := by
 have H : (if a0 ≥ a1 then (some (decide (a0 ≤ a2))) else (some false)) = some r := h
 clear h
 by_cases c4 : a0 ≥ a1
 ·rw [if_pos c4] at H
  have c4b0 : decide (a1 ≤ a0) = true := decide_eq_true c4
  clear c4
  obtain rfl := Option.some.inj H
  go_enter Try.func82, Try.ntmps82
  go_wp2
  go_ret
  exact ⟨by first | rfl | (simp; done) | (simp [*]; done), by repeat (first | exact Drawn0.refl _ | apply Drawn0.step)⟩
 ·rw [if_neg c4] at H
  have c4b0 : decide (a1 ≤ a0) = false := decide_eq_false c4
  clear c4
  obtain rfl := Option.some.inj H
  go_enter Try.func82, Try.ntmps82
  go_wp2
  go_ret
  exact ⟨by first | rfl | (simp; done) | (simp [*]; done), by repeat (first | exact Drawn0.refl _ | apply Drawn0.step)⟩

/-! ### spec_l16Good: function 59 -/
mutual
def spec_l16Good.l0 : Nat → List (S77) → List (S77) → Int → Int → Option (Bool)
 | 0, _, _, _, _ => none
 | k + 1, x0, x7, x8, x9 => if x9 < x8 then (if 0 ≤ x9 then (if x9 < (x7.length : Int) then ((spec_l1In.f ((rd_T77 x7 x9).f0) 0 9).bind fun t103 => (if t103 = true then ((spec_l1In.f ((rd_T77 x7 x9).f1) 0 999).bind fun t104 => (if t104 = true then ((spec_l1In.f ((rd_T77 x7 x9).f2) (wrap64 (((rd_T77 x7 x9).f1) + 1)) 999).bind fun t105 => (spec_l16Good.j1 k x0 x9 x7 x8 x9 (!t105) ((rd_T77 x7 x9).f0) ((rd_T77 x7 x9).f1) ((rd_T77 x7 x9).f2) ((rd_T77 x7 x9).f3) ((rd_T77 x7 x9).f4))) else (spec_l16Good.j1 k x0 x9 x7 x8 x9 true ((rd_T77 x7 x9).f0) ((rd_T77 x7 x9).f1) ((rd_T77 x7 x9).f2) ((rd_T77 x7 x9).f3) ((rd_T77 x7 x9).f4)))) else (spec_l16Good.j1 k x0 x9 x7 x8 x9 true ((rd_T77 x7 x9).f0) ((rd_T77 x7 x9).f1) ((rd_T77 x7 x9).f2) ((rd_T77 x7 x9).f3) ((rd_T77 x7 x9).f4)))) else (none)) else (none)) else (some (decide ((x0.length : Int) ≤ 8)))
def spec_l16Good.j1 : Nat → List (S77) → Int → List (S77) → Int → Int → Bool → Int → Int → Int → Bool → Nat → Option (Bool)
 | 0, _, _, _, _, _, _, _, _, _, _, _ => none
 | k + 1, x0, x3, x7, x8, x9, x32, x103000, x103001, x103002, x103003, x103004 => if x32 = true then (some false) else (if 0 ≤ x3 then (if x3 ≤ (x0.length : Int) then ((some (x0.take (x3 : Int).toNat : List (S77))).bind fun y106 => (spec_l16Good.l1 k x0 x7 x8 x9 y106 (y106.length : Int) 0 x103000 x103001 x103002 x103003 x103004)) else (none)) else (none))
def spec_l16Good.l1 : Nat → List (S77) → List (S77) → Int → Int → List (S77) → Int → Int → Int → Int → Int → Bool → Nat → Option (Bool)
 | 0, _, _, _, _, _, _, _, _, _, _, _, _ => none
 | k + 1, x0, x7, x8, x9, x35, x36, x37, x103000, x103001, x103002, x103003, x103004 => if x37 < x36 then (if 0 ≤ x37 then (if x37 < (x35.length : Int) then (if x103000 = ((rd_T77 x35 x37).f0) then (if x103002 ≥ ((rd_T77 x35 x37).f1) then (if ((rd_T77 x35 x37).f2) ≥ x103001 then (some false) else (spec_l16Good.l1 k x0 x7 x8 x9 x35 x36 (wrap64 (x37 + 1)) x103000 x103001 x103002 x103003 x103004)) else (spec_l16Good.l1 k x0 x7 x8 x9 x35 x36 (wrap64 (x37 + 1)) x103000 x103001 x103002 x103003 x103004)) else (spec_l16Good.l1 k x0 x7 x8 x9 x35 x36 (wrap64 (x37 + 1)) x103000 x103001 x103002 x103003 x103004)) else (none)) else (none)) else (spec_l16Good.l0 k x0 x7 x8 (wrap64 (x9 + 1)))
end
def spec_l16Good.f (k : Nat) (l0 : List (S77)) : Option (Bool) := spec_l16Good.l0 k l0 l0 (l0.length : Int) 0
theorem spec_l16Good.mono_l : ∀ k, (∀ y0 y1 y2 y3, LeO (spec_l16Good.l0 k y0 y1 y2 y3) (spec_l16Good.l0 (k + 1) y0 y1 y2 y3)) ∧ (∀ y0 y1 y2 y3 y4 y5 y6 y7 y8 y9 y10, LeO (spec_l16Good.j1 k y0 y1 y2 y3 y4 y5 y6 y7 y8 y9 y10) (spec_l16Good.j1 (k + 1) y0 y1 y2 y3 y4 y5 y6 y7 y8 y9 y10)) ∧ (∀ y0 y1 y2 y3 y4 y5 y6 y7 y8 y9 y10 y11, LeO (spec_l16Good.l1 k y0 y1 y2 y3 y4 y5 y6 y7 y8 y9 y10 y11) (spec_l16Good.l1 (k + 1) y0 y1 y2 y3 y4 y5 y6 y7 y8 y9 y10 y11))
 | 0 => ⟨fun _ _ _ _ r h => by simp [spec_l16Good.l0] at h, fun _ _ _ _ _ _ _ _ _ _ _ r h => by simp [spec_l16Good.j1] at h, fun _ _ _ _ _ _ _ _ _ _ _ _ r h => by simp [spec_l16Good.l1] at h⟩
 | k + 1 => by
  obtain ⟨ih0, ih1, ih2⟩ := spec_l16Good.mono_l k
  refine ⟨?_, ?_, ?_⟩
  ·intro y0 y1 y2 y3
   unfold spec_l16Good.l0
   repeat' first | (with_reducible exact ih0 _ _ _ _) | (with_reducible exact ih1 _ _ _ _ _ _ _ _ _ _ _) | (with_reducible exact ih2 _ _ _ _ _ _ _ _ _ _ _ _) | (with_reducible exact LeO.refl _) | (with_reducible exact LeO.none _) | (with_reducible refine LeO.ite ?_ ?_) | (with_reducible refine LeO.bind ?_ (fun _ => ?_)) | exact ih0 _ _ _ _ | exact ih1 _ _ _ _ _ _ _ _ _ _ _ | exact ih2 _ _ _ _ _ _ _ _ _ _ _ _ | exact LeO.none _ | refine LeO.ite ?_ ?_ | refine LeO.bind ?_ (fun _ => ?_)
  ·intro y0 y1 y2 y3 y4 y5 y6 y7 y8 y9 y10
   unfold spec_l16Good.j1
   repeat' first | (with_reducible exact ih0 _ _ _ _) | (with_reducible exact ih1 _ _ _ _ _ _ _ _ _ _ _) | (with_reducible exact ih2 _ _ _ _ _ _ _ _ _ _ _ _) | (with_reducible exact LeO.refl _) | (with_reducible exact LeO.none _) | (with_reducible refine LeO.ite ?_ ?_) | (with_reducible refine LeO.bind ?_ (fun _ => ?_)) | exact ih0 _ _ _ _ | exact ih1 _ _ _ _ _ _ _ _ _ _ _ | exact ih2 _ _ _ _ _ _ _ _ _ _ _ _ | exact LeO.none _ | refine LeO.ite ?_ ?_ | refine LeO.bind ?_ (fun _ => ?_)
  ·intro y0 y1 y2 y3 y4 y5 y6 y7 y8 y9 y10 y11
   unfold spec_l16Good.l1
   repeat' first | (with_reducible exact ih0 _ _ _ _) | (with_reducible exact ih1 _ _ _ _ _ _ _ _ _ _ _) | (with_reducible exact ih2 _ _ _ _ _ _ _ _ _ _ _ _) | (with_reducible exact LeO.refl _) | (with_reducible exact LeO.none _) | (with_reducible refine LeO.ite ?_ ?_) | (with_reducible refine LeO.bind ?_ (fun _ => ?_)) | exact ih0 _ _ _ _ | exact ih1 _ _ _ _ _ _ _ _ _ _ _ | exact ih2 _ _ _ _ _ _ _ _ _ _ _ _ | exact LeO.none _ | refine LeO.ite ?_ ?_ | refine LeO.bind ?_ (fun _ => ?_)
theorem spec_l16Good.mono : ∀ a0 k, LeO (spec_l16Good.f k a0) (spec_l16Good.f (k + 1) a0) := by
 intro a0 k
 obtain ⟨ih0, ih1, ih2⟩ := spec_l16Good.mono_l k
 unfold spec_l16Good.f
 repeat' first | (with_reducible exact ih0 _ _ _ _) | (with_reducible exact ih1 _ _ _ _ _ _ _ _ _ _ _) | (with_reducible exact ih2 _ _ _ _ _ _ _ _ _ _ _ _) | (with_reducible exact LeO.refl _) | (with_reducible exact LeO.none _) | (with_reducible refine LeO.ite ?_ ?_) | (with_reducible refine LeO.bind ?_ (fun _ => ?_)) | exact ih0 _ _ _ _ | exact ih1 _ _ _ _ _ _ _ _ _ _ _ | exact ih2 _ _ _ _ _ _ _ _ _ _ _ _ | exact LeO.none _ | refine LeO.ite ?_ ?_ | refine LeO.bind ?_ (fun _ => ?_)
set_option maxHeartbeats 8000000 in
set_option maxRecDepth 100000 in
theorem spec_l16Good.calls (k : Nat) (A0 : Option Addr) (c0 : Nat) (l0 : List (S77)) (r : Bool) (w : World) (hr0 : Kd.C k77 w A0 l0.length l0) (hc0 : l0.length ≤ c0) (h : spec_l16Good.f k l0 = some r) :
  Calls Try.prog 59 #[.slice A0 l0.length c0] w fun e w' => e = .returned (.bool r) ∧ Below w.heap.size w w' := by
 have hu77 := Try.underlying77
 have HR0 := a_ hr0
 have HC0 := a_ hc0
 clear hr0 hc0
 have HB := a_ (Below.refl w.heap.size w)
 have H : (spec_l16Good.l0 k l0 l0 (l0.length : Int) 0) = some r := h
 clear h
 have H' := a_ H
 clear H
 go_enter Try.func59, Try.ntmps59
 go_wp2
 go_loopg [9] k (fun kq v9 w' => ∃ (x9_1 : Int), v9 = .int .i64 x9_1 ∧ Aside0 (spec_l16Good.l0 kq l0 l0 (l0.length : Int) x9_1 = some r) ∧ Aside0 (kq ≤ k) ∧ Aside0 (Below w.heap.size w w'))
 case atStart => exact ⟨(0), (by first | rfl | (simp; done) | (simp [*]; done)), H', ⟨Nat.le_refl _⟩, ⟨b_⟩⟩
 case round =>
  clear H'
  obtain ⟨x9_1, rfl, HA, HK1, HB⟩ := hrel
  cases gk with
  | zero => exact absurd HA.out (by simp [spec_l16Good.l0])
  | succ k1 =>
   have H := HA.out; clear HA
   simp only [spec_l16Good.l0] at H
   by_cases c2 : x9_1 < (l0.length : Int)
   ·rw [if_pos c2] at H
    have c2b0 : decide (x9_1 < (l0.length : Int)) = true := decide_eq_true c2
    clear c2
    by_cases c3 : 0 ≤ x9_1
    ·rw [if_pos c3] at H
     have c3b0 : decide (0 ≤ x9_1) = true := decide_eq_true c3
     clear c3
     by_cases c4 : x9_1 < (l0.length : Int)
     ·rw [if_pos c4] at H
      have c4b0 : decide (x9_1 < (l0.length : Int)) = true := decide_eq_true c4
      clear c4; have HC5 := a_ H; clear H
      have p101 : 0 ≤ (x9_1 : Int) := od_
      have q101 : x9_1 < (l0.length : Int) := od_
      obtain ⟨ad101, e101, hx101_0, hx101_1, hx101_2, hx101_3, hx101_4⟩ := at_T77 HR0.out x9_1 p101 q101
      cases e101
      try replace hx101_0 := (HB.out.cell (World.block_lt_of_cell? w _ hx101_0)).trans hx101_0
      try replace hx101_1 := (HB.out.cell (World.block_lt_of_cell? w _ hx101_1)).trans hx101_1
      try replace hx101_2 := (HB.out.cell (World.block_lt_of_cell? w _ hx101_2)).trans hx101_2
      try replace hx101_3 := (HB.out.cell (World.block_lt_of_cell? w _ hx101_3)).trans hx101_3
      try replace hx101_4 := (HB.out.cell (World.block_lt_of_cell? w _ hx101_4)).trans hx101_4
      replace p101 := eq_true p101; replace q101 := eq_true q101
      go_upto_region 4 with (first | ((with_reducible refine gate_dst (N := 4) rfl ?_); refine box_event ?hg (N := 4) ?hd (cs := #[.int .i64 0, .int .i64 0, .int .i64 0, .bool false, .float .f64 0]) (t := 77) ?hr ?_; (case hd => rfl); (case hg => rfl); (case hr => first | (go_simp; done) | (go_simp; rfl)); intro gb102 hg w6 hbox hb; have n0_ := a_ (below_step b_ hb); have n1_ := a_ (hbox); have n2_ := a_ ((by rw [hg]; exact (below_size b_) : w.heap.size ≤ gb102)); have n3_ := a_ ((by rw [hg]; exact (below_size b_) : w.heap.size ≤ gb102)); clear HB; have HB := n0_; have BK102 := n1_; have GW102 := n2_; have GE102 := n3_; clear n0_ n1_ n2_ n3_; clear hb hbox hg; have hcz7_0 : w6.cell? ⟨gb102, 0, none⟩ = some (.int .i64 0) := (blk_cell BK102.out 0).trans rfl; have hcz7_1 : w6.cell? ⟨gb102, 1, none⟩ = some (.int .i64 0) := (blk_cell BK102.out 1).trans rfl; have hcz7_2 : w6.cell? ⟨gb102, 2, none⟩ = some (.int .i64 0) := (blk_cell BK102.out 2).trans rfl; have hcz7_3 : w6.cell? ⟨gb102, 3, none⟩ = some (.bool false) := (blk_cell BK102.out 3).trans rfl; have hcz7_4 : w6.cell? ⟨gb102, 4, none⟩ = some (.float .f64 0) := (blk_cell BK102.out 4).trans rfl; have hfz7_0 := blk_frozen BK102.out 0; have hfz7_1 := blk_frozen BK102.out 1; have hfz7_2 := blk_frozen BK102.out 2; have hfz7_3 := blk_frozen BK102.out 3; have hfz7_4 := blk_frozen BK102.out 4))
      (try simp only [Act.put, List.setIfInBounds_toArray, List.set_cons_zero, List.set_cons_succ])
      go_cut [32] (fun v32 wc => ∃ (kq : Nat) (x32_4 : Bool), v32 = .bool x32_4 ∧ Aside0 (spec_l16Good.j1 kq l0 x9_1 l0 (l0.length : Int) x9_1 x32_4 ((rd_T77 l0 x9_1).f0) ((rd_T77 l0 x9_1).f1) ((rd_T77 l0 x9_1).f2) ((rd_T77 l0 x9_1).f3) ((rd_T77 l0 x9_1).f4) = some r) ∧ Aside0 (kq ≤ k1) ∧ Aside0 (wc.heap[gb102]? = some (.cells #[.int .i64 ((rd_T77 l0 x9_1).f0), .int .i64 ((rd_T77 l0 x9_1).f1), .int .i64 ((rd_T77 l0 x9_1).f2), .bool ((rd_T77 l0 x9_1).f3), .float .f64 ((rd_T77 l0 x9_1).f4)] 77 (0, 0))) ∧ Aside0 (Below w.heap.size w wc))
      case first =>
       have H := HC5.out; clear HC5
       replace H := Option.bind_eq_some_iff.mp H
       obtain ⟨t103, A80, H⟩ := H
       replace H : (if t103 = true then ((spec_l1In.f ((rd_T77 l0 x9_1).f1) 0 999).bind fun t104 => (if t104 = true then ((spec_l1In.f ((rd_T77 l0 x9_1).f2) (wrap64 (((rd_T77 l0 x9_1).f1) + 1)) 999).bind fun t105 => (spec_l16Good.j1 k1 l0 x9_1 l0 (l0.length : Int) x9_1 (!t105) ((rd_T77 l0 x9_1).f0) ((rd_T77 l0 x9_1).f1) ((rd_T77 l0 x9_1).f2) ((rd_T77 l0 x9_1).f3) ((rd_T77 l0 x9_1).f4))) else (spec_l16Good.j1 k1 l0 x9_1 l0 (l0.length : Int) x9_1 true ((rd_T77 l0 x9_1).f0) ((rd_T77 l0 x9_1).f1) ((rd_T77 l0 x9_1).f2) ((rd_T77 l0 x9_1).f3) ((rd_T77 l0 x9_1).f4)))) else (spec_l16Good.j1 k1 l0 x9_1 l0 (l0.length : Int) x9_1 true ((rd_T77 l0 x9_1).f0) ((rd_T77 l0 x9_1).f1) ((rd_T77 l0 x9_1).f2) ((rd_T77 l0 x9_1).f3) ((rd_T77 l0 x9_1).f4))) = some r := H
       have A8 := a_ A80; clear A80
       by_cases c9 : t103 = true
       ·subst c9
        have H1 : ((spec_l1In.f ((rd_T77 l0 x9_1).f1) 0 999).bind fun t104 => (if t104 = true then ((spec_l1In.f ((rd_T77 l0 x9_1).f2) (wrap64 (((rd_T77 l0 x9_1).f1) + 1)) 999).bind fun t105 => (spec_l16Good.j1 k1 l0 x9_1 l0 (l0.length : Int) x9_1 (!t105) ((rd_T77 l0 x9_1).f0) ((rd_T77 l0 x9_1).f1) ((rd_T77 l0 x9_1).f2) ((rd_T77 l0 x9_1).f3) ((rd_T77 l0 x9_1).f4))) else (spec_l16Good.j1 k1 l0 x9_1 l0 (l0.length : Int) x9_1 true ((rd_T77 l0 x9_1).f0) ((rd_T77 l0 x9_1).f1) ((rd_T77 l0 x9_1).f2) ((rd_T77 l0 x9_1).f3) ((rd_T77 l0 x9_1).f4)))) = some r := by rw [if_pos rfl] at H; exact H
        clear H; have H := H1; clear H1
        replace H := Option.bind_eq_some_iff.mp H
        obtain ⟨t104, A100, H⟩ := H
        replace H : (if t104 = true then ((spec_l1In.f ((rd_T77 l0 x9_1).f2) (wrap64 (((rd_T77 l0 x9_1).f1) + 1)) 999).bind fun t105 => (spec_l16Good.j1 k1 l0 x9_1 l0 (l0.length : Int) x9_1 (!t105) ((rd_T77 l0 x9_1).f0) ((rd_T77 l0 x9_1).f1) ((rd_T77 l0 x9_1).f2) ((rd_T77 l0 x9_1).f3) ((rd_T77 l0 x9_1).f4))) else (spec_l16Good.j1 k1 l0 x9_1 l0 (l0.length : Int) x9_1 true ((rd_T77 l0 x9_1).f0) ((rd_T77 l0 x9_1).f1) ((rd_T77 l0 x9_1).f2) ((rd_T77 l0 x9_1).f3) ((rd_T77 l0 x9_1).f4))) = some r := H
        have A10 := a_ A100; clear A100
        by_cases c11 : t104 = true
        ·subst c11
         have H1 : ((spec_l1In.f ((rd_T77 l0 x9_1).f2) (wrap64 (((rd_T77 l0 x9_1).f1) + 1)) 999).bind fun t105 => (spec_l16Good.j1 k1 l0 x9_1 l0 (l0.length : Int) x9_1 (!t105) ((rd_T77 l0 x9_1).f0) ((rd_T77 l0 x9_1).f1) ((rd_T77 l0 x9_1).f2) ((rd_T77 l0 x9_1).f3) ((rd_T77 l0 x9_1).f4))) = some r := by rw [if_pos rfl] at H; exact H
         clear H; have H := H1; clear H1
         replace H := Option.bind_eq_some_iff.mp H
         obtain ⟨t105, A120, H⟩ := H
         replace H : (spec_l16Good.j1 k1 l0 x9_1 l0 (l0.length : Int) x9_1 (!t105) ((rd_T77 l0 x9_1).f0) ((rd_T77 l0 x9_1).f1) ((rd_T77 l0 x9_1).f2) ((rd_T77 l0 x9_1).f3) ((rd_T77 l0 x9_1).f4)) = some r := H
         have A12 := a_ A120; clear A120
         have H' := a_ H
         clear H
         have hcz13_0 : w6.cell? ⟨gb102, 0, none⟩ = some (.int .i64 0) := (blk_cell BK102.out 0).trans rfl
         have hcz13_1 : w6.cell? ⟨gb102, 1, none⟩ = some (.int .i64 0) := (blk_cell BK102.out 1).trans rfl
         have hcz13_2 : w6.cell? ⟨gb102, 2, none⟩ = some (.int .i64 0) := (blk_cell BK102.out 2).trans rfl
         have hcz13_3 : w6.cell? ⟨gb102, 3, none⟩ = some (.bool false) := (blk_cell BK102.out 3).trans rfl
         have hcz13_4 : w6.cell? ⟨gb102, 4, none⟩ = some (.float .f64 0) := (blk_cell BK102.out 4).trans rfl
         have hfz13_0 := blk_frozen BK102.out 0
         have hfz13_1 := blk_frozen BK102.out 1
         have hfz13_2 := blk_frozen BK102.out 2
         have hfz13_3 := blk_frozen BK102.out 3
         have hfz13_4 := blk_frozen BK102.out 4
         go_wp2_with (first | ((with_reducible refine gate_callee (f := 82) rfl ?_); refine goesL_ (some 16) rfl rfl Try.func82 (by kernel_rfl) rfl #[.int .i64 ((rd_T77 l0 x9_1).f0), .int .i64 0, .int .i64 9] rfl la_ ?_; (with_reducible refine (spec_l1In.calls ((rd_T77 l0 x9_1).f0) 0 9 true _ A8.out).mono ?_); rintro e w' ⟨rfl, ⟨nd, rfl⟩⟩; refine ⟨_, rfl, ?_⟩) | (go_at_call 82; (with_reducible refine (spec_l1In.calls ((rd_T77 l0 x9_1).f1) 0 999 true _ A10.out).mono ?_); rintro e w' ⟨rfl, ⟨nd, rfl⟩⟩) | (go_at_call 82; (with_reducible refine (spec_l1In.calls ((rd_T77 l0 x9_1).f2) (wrap64 (((rd_T77 l0 x9_1).f1) + 1)) 999 t105 _ A12.out).mono ?_); rintro e w' ⟨rfl, ⟨nd, rfl⟩⟩))
         go_meet
         case rel => exact ⟨_, (!t105), (by first | rfl | (simp; done) | (simp [*]; done)), H', ⟨by have := HK1.out; first | omega | exact Nat.le_refl _⟩, ⟨by refine q_ ?_; refine blk_put (cs := #[.int .i64 ((rd_T77 l0 x9_1).f0), .int .i64 ((rd_T77 l0 x9_1).f1), .int .i64 ((rd_T77 l0 x9_1).f2), .bool ((rd_T77 l0 x9_1).f3), .float .f64 0]) ?_ 4 _ rfl; refine q_ ?_; refine blk_put (cs := #[.int .i64 ((rd_T77 l0 x9_1).f0), .int .i64 ((rd_T77 l0 x9_1).f1), .int .i64 ((rd_T77 l0 x9_1).f2), .bool false, .float .f64 0]) ?_ 3 _ rfl; refine q_ ?_; refine blk_put (cs := #[.int .i64 ((rd_T77 l0 x9_1).f0), .int .i64 ((rd_T77 l0 x9_1).f1), .int .i64 0, .bool false, .float .f64 0]) ?_ 2 _ rfl; refine q_ ?_; refine blk_put (cs := #[.int .i64 ((rd_T77 l0 x9_1).f0), .int .i64 0, .int .i64 0, .bool false, .float .f64 0]) ?_ 1 _ rfl; refine q_ ?_; refine blk_put (cs := #[.int .i64 0, .int .i64 0, .int .i64 0, .bool false, .float .f64 0]) ?_ 0 _ rfl; exact q_ BK102.out⟩, ⟨b_⟩⟩
        ·replace c11 := Bool.eq_false_iff.mpr c11
         subst c11
         have H1 : (spec_l16Good.j1 k1 l0 x9_1 l0 (l0.length : Int) x9_1 true ((rd_T77 l0 x9_1).f0) ((rd_T77 l0 x9_1).f1) ((rd_T77 l0 x9_1).f2) ((rd_T77 l0 x9_1).f3) ((rd_T77 l0 x9_1).f4)) = some r := by rw [if_neg (show ¬ (false = true) by decide)] at H; exact H
         clear H; have H := H1; clear H1
         have H' := a_ H
         clear H
         have hcz14_0 : w6.cell? ⟨gb102, 0, none⟩ = some (.int .i64 0) := (blk_cell BK102.out 0).trans rfl
         have hcz14_1 : w6.cell? ⟨gb102, 1, none⟩ = some (.int .i64 0) := (blk_cell BK102.out 1).trans rfl
         have hcz14_2 : w6.cell? ⟨gb102, 2, none⟩ = some (.int .i64 0) := (blk_cell BK102.out 2).trans rfl
         have hcz14_3 : w6.cell? ⟨gb102, 3, none⟩ = some (.bool false) := (blk_cell BK102.out 3).trans rfl
         have hcz14_4 : w6.cell? ⟨gb102, 4, none⟩ = some (.float .f64 0) := (blk_cell BK102.out 4).trans rfl
         have hfz14_0 := blk_frozen BK102.out 0
         have hfz14_1 := blk_frozen BK102.out 1
         have hfz14_2 := blk_frozen BK102.out 2
         have hfz14_3 := blk_frozen BK102.out 3
         have hfz14_4 := blk_frozen BK102.out 4
         go_wp2_with (first | ((with_reducible refine gate_callee (f := 82) rfl ?_); refine goesL_ (some 16) rfl rfl Try.func82 (by kernel_rfl) rfl #[.int .i64 ((rd_T77 l0 x9_1).f0), .int .i64 0, .int .i64 9] rfl la_ ?_; (with_reducible refine (spec_l1In.calls ((rd_T77 l0 x9_1).f0) 0 9 true _ A8.out).mono ?_); rintro e w' ⟨rfl, ⟨nd, rfl⟩⟩; refine ⟨_, rfl, ?_⟩) | (go_at_call 82; (with_reducible refine (spec_l1In.calls ((rd_T77 l0 x9_1).f1) 0 999 false _ A10.out).mono ?_); rintro e w' ⟨rfl, ⟨nd, rfl⟩⟩))
         go_meet
         case rel => exact ⟨_, (true), (by first | rfl | (simp; done) | (simp [*]; done)), H', ⟨by have := HK1.out; first | omega | exact Nat.le_refl _⟩, ⟨by refine q_ ?_; refine blk_put (cs := #[.int .i64 ((rd_T77 l0 x9_1).f0), .int .i64 ((rd_T77 l0 x9_1).f1), .int .i64 ((rd_T77 l0 x9_1).f2), .bool ((rd_T77 l0 x9_1).f3), .float .f64 0]) ?_ 4 _ rfl; refine q_ ?_; refine blk_put (cs := #[.int .i64 ((rd_T77 l0 x9_1).f0), .int .i64 ((rd_T77 l0 x9_1).f1), .int .i64 ((rd_T77 l0 x9_1).f2), .bool false, .float .f64 0]) ?_ 3 _ rfl; refine q_ ?_; refine blk_put (cs := #[.int .i64 ((rd_T77 l0 x9_1).f0), .int .i64 ((rd_T77 l0 x9_1).f1), .int .i64 0, .bool false, .float .f64 0]) ?_ 2 _ rfl; refine q_ ?_; refine blk_put (cs := #[.int .i64 ((rd_T77 l0 x9_1).f0), .int .i64 0, .int .i64 0, .bool false, .float .f64 0]) ?_ 1 _ rfl; refine q_ ?_; refine blk_put (cs := #[.int .i64 0, .int .i64 0, .int .i64 0, .bool false, .float .f64 0]) ?_ 0 _ rfl; exact q_ BK102.out⟩, ⟨b_⟩⟩
       ·replace c9 := Bool.eq_false_iff.mpr c9
        subst c9
        have H1 : (spec_l16Good.j1 k1 l0 x9_1 l0 (l0.length : Int) x9_1 true ((rd_T77 l0 x9_1).f0) ((rd_T77 l0 x9_1).f1) ((rd_T77 l0 x9_1).f2) ((rd_T77 l0 x9_1).f3) ((rd_T77 l0 x9_1).f4)) = some r := by rw [if_neg (show ¬ (false = true) by decide)] at H; exact H
        clear H; have H := H1; clear H1
        have H' := a_ H
        clear H
        have hcz15_0 : w6.cell? ⟨gb102, 0, none⟩ = some (.int .i64 0) := (blk_cell BK102.out 0).trans rfl
        have hcz15_1 : w6.cell? ⟨gb102, 1, none⟩ = some (.int .i64 0) := (blk_cell BK102.out 1).trans rfl
        have hcz15_2 : w6.cell? ⟨gb102, 2, none⟩ = some (.int .i64 0) := (blk_cell BK102.out 2).trans rfl
        have hcz15_3 : w6.cell? ⟨gb102, 3, none⟩ = some (.bool false) := (blk_cell BK102.out 3).trans rfl
        have hcz15_4 : w6.cell? ⟨gb102, 4, none⟩ = some (.float .f64 0) := (blk_cell BK102.out 4).trans rfl
        have hfz15_0 := blk_frozen BK102.out 0
        have hfz15_1 := blk_frozen BK102.out 1
        have hfz15_2 := blk_frozen BK102.out 2
        have hfz15_3 := blk_frozen BK102.out 3
        have hfz15_4 := blk_frozen BK102.out 4
        go_wp2_with (first | ((with_reducible refine gate_callee (f := 82) rfl ?_); refine goesL_ (some 16) rfl rfl Try.func82 (by kernel_rfl) rfl #[.int .i64 ((rd_T77 l0 x9_1).f0), .int .i64 0, .int .i64 9] rfl la_ ?_; (with_reducible refine (spec_l1In.calls ((rd_T77 l0 x9_1).f0) 0 9 false _ A8.out).mono ?_); rintro e w' ⟨rfl, ⟨nd, rfl⟩⟩; refine ⟨_, rfl, ?_⟩))
        go_meet
        case rel => exact ⟨_, (true), (by first | rfl | (simp; done) | (simp [*]; done)), H', ⟨by have := HK1.out; first | omega | exact Nat.le_refl _⟩, ⟨by refine q_ ?_; refine blk_put (cs := #[.int .i64 ((rd_T77 l0 x9_1).f0), .int .i64 ((rd_T77 l0 x9_1).f1), .int .i64 ((rd_T77 l0 x9_1).f2), .bool ((rd_T77 l0 x9_1).f3), .float .f64 0]) ?_ 4 _ rfl; refine q_ ?_; refine blk_put (cs := #[.int .i64 ((rd_T77 l0 x9_1).f0), .int .i64 ((rd_T77 l0 x9_1).f1), .int .i64 ((rd_T77 l0 x9_1).f2), .bool false, .float .f64 0]) ?_ 3 _ rfl; refine q_ ?_; refine blk_put (cs := #[.int .i64 ((rd_T77 l0 x9_1).f0), .int .i64 ((rd_T77 l0 x9_1).f1), .int .i64 0, .bool false, .float .f64 0]) ?_ 2 _ rfl; refine q_ ?_; refine blk_put (cs := #[.int .i64 ((rd_T77 l0 x9_1).f0), .int .i64 0, .int .i64 0, .bool false, .float .f64 0]) ?_ 1 _ rfl; refine q_ ?_; refine blk_put (cs := #[.int .i64 0, .int .i64 0, .int .i64 0, .bool false, .float .f64 0]) ?_ 0 _ rfl; exact q_ BK102.out⟩, ⟨b_⟩⟩
      case rest =>
       clear HC5; (try clear c1); (try clear p1); (try clear q1); (try clear hx1); (try clear c2); (try clear c2b0); (try clear p2); (try clear c3); (try clear c3b0); (try clear c4); (try clear c4b0); (try clear c5); (try clear p6); (try clear c8); (try clear c9); (try clear p10); (try clear q10); (try clear hx10); (try clear c11); (try clear hcz13_0); (try clear hcz13_1); (try clear hcz13_2); (try clear hcz13_3); (try clear hcz13_4); (try clear hcz14_0); (try clear hcz14_1); (try clear hcz14_2); (try clear hcz14_3); (try clear hcz14_4); (try clear hcz15_0); (try clear hcz15_1); (try clear hcz15_2); (try clear hcz15_3); (try clear hcz15_4); (try clear hcz7_0); (try clear hcz7_1); (try clear hcz7_2); (try clear hcz7_3); (try clear hcz7_4); (try clear hfz13_0); (try clear hfz13_1); (try clear hfz13_2); (try clear hfz13_3); (try clear hfz13_4); (try clear hfz14_0); (try clear hfz14_1); (try clear hfz14_2); (try clear hfz14_3); (try clear hfz14_4); (try clear hfz15_0); (try clear hfz15_1); (try clear hfz15_2); (try clear hfz15_3); (try clear hfz15_4); (try clear hfz7_0); (try clear hfz7_1); (try clear hfz7_2); (try clear hfz7_3); (try clear hfz7_4); (try clear hx101_0); (try clear hx101_1); (try clear hx101_2); (try clear hx101_3); (try clear hx101_4); (try clear p101); (try clear q101)
       obtain ⟨kq, x32_4, rfl, HA, HJ4, BK102, HB⟩ := hcut
       cases kq with
       | zero => exact absurd HA.out (by simp [spec_l16Good.j1])
       | succ kj4 =>
        have H := HA.out; clear HA
        simp only [spec_l16Good.j1] at H
        by_cases c16 : x32_4 = true
        ·subst c16
         have H1 : (some false) = some r := by rw [if_pos rfl] at H; exact H
         clear H; have H := H1; clear H1
         obtain rfl := Option.some.inj H
         go_wp2
         go_ret
         exact ⟨by first | rfl | (simp [errW_none, errW_some] <;> rfl) | (simp [*, errW_none, errW_some] <;> rfl), b_⟩
        ·replace c16 := Bool.eq_false_iff.mpr c16
         subst c16
         have H1 : (if 0 ≤ x9_1 then (if x9_1 ≤ (l0.length : Int) then ((some (l0.take (x9_1 : Int).toNat : List (S77))).bind fun y106 => (spec_l16Good.l1 kj4 l0 l0 (l0.length : Int) x9_1 y106 (y106.length : Int) 0 ((rd_T77 l0 x9_1).f0) ((rd_T77 l0 x9_1).f1) ((rd_T77 l0 x9_1).f2) ((rd_T77 l0 x9_1).f3) ((rd_T77 l0 x9_1).f4))) else (none)) else (none)) = some r := by rw [if_neg (show ¬ (false = true) by decide)] at H; exact H
         clear H; have H := H1; clear H1
         by_cases c17 : 0 ≤ x9_1
         ·rw [if_pos c17] at H
          have c17b0 := eq_true c17
          have c17b1 : decide (0 ≤ x9_1) = true := decide_eq_true c17
          clear c17
          by_cases c18 : x9_1 ≤ (l0.length : Int)
          ·rw [if_pos c18] at H
           have c18b0 := eq_true c18
           have c18b1 : decide (x9_1 ≤ (l0.length : Int)) = true := decide_eq_true c18
           clear c18
           obtain ⟨y106, hy106⟩ : ∃ y_ : List (S77), y_ = (l0.take (x9_1 : Int).toNat) := ⟨_, rfl⟩
           replace H : (spec_l16Good.l1 kj4 l0 l0 (l0.length : Int) x9_1 y106 (y106.length : Int) 0 ((rd_T77 l0 x9_1).f0) ((rd_T77 l0 x9_1).f1) ((rd_T77 l0 x9_1).f2) ((rd_T77 l0 x9_1).f3) ((rd_T77 l0 x9_1).f4)) = some r := by first|(rw [hy106]; with_reducible exact H)|(rw [hy106]; exact (Option.bind_some _ _).symm.trans H)|(rw [hy106]; exact H)|exact H
           have Ny106 := a_ hy106; clear hy106
           have H' := a_ H
           clear H
           have q19 : (x9_1 : Int) ≤ ((l0.length : Int) : Int) := od_
           obtain ⟨i019, hi019, _, hsz19, _⟩ := info_parts info77
           have hroom19 : l0.length ≤ c0 := HC0.out
           have hC19 : Kd.C k77 _ (some ad101) l0.length l0 := HR0.out
           have hcut19 := cut_to (P := Try.prog) 28 77 .i64 Try.underlying28 hi019 (some ad101) l0.length c0 x9_1 (od_) q19 hroom19
           have hr19 := Kd.C_take (m := (x9_1 : Int).toNat) hC19 (by omega)
           have hy19 : y106.length = (x9_1 : Int).toNat := (by rw [Ny106.out, List.length_take]; omega)
           rw [← Ny106.out] at hr19
           rw [← hy19] at hcut19
           have HR109 := a_ hr19
           have HC109 := a_ (show y106.length ≤ c0 from by omega)
           clear hr19 hC19 hroom19 hi019 hsz19; have KY19 := a_ hy19; clear hy19; replace q19 := eq_true q19
           go_wp2
           go_loopg [37] kj4 (fun kq v37 w' => ∃ (x37_3 : Int), v37 = .int .i64 x37_3 ∧ Aside0 (spec_l16Good.l1 kq l0 l0 (l0.length : Int) x9_1 y106 (y106.length : Int) x37_3 ((rd_T77 l0 x9_1).f0) ((rd_T77 l0 x9_1).f1) ((rd_T77 l0 x9_1).f2) ((rd_T77 l0 x9_1).f3) ((rd_T77 l0 x9_1).f4) = some r) ∧ Aside0 (kq ≤ kj4) ∧ Aside0 (w'.heap[gb102]? = some (.cells #[.int .i64 ((rd_T77 l0 x9_1).f0), .int .i64 ((rd_T77 l0 x9_1).f1), .int .i64 ((rd_T77 l0 x9_1).f2), .bool ((rd_T77 l0 x9_1).f3), .float .f64 ((rd_T77 l0 x9_1).f4)] 77 (0, 0))) ∧ Aside0 (Below w.heap.size w w'))
           case atStart => exact ⟨(0), (by first | rfl | (simp; done) | (simp [*]; done)), H', ⟨Nat.le_refl _⟩, ⟨by exact q_ BK102.out⟩, ⟨b_⟩⟩
           case round =>
            clear H'
            (try clear c1); (try clear p1); (try clear q1); (try clear hx1); (try clear c2); (try clear c2b0); (try clear p2); (try clear c3); (try clear c3b0); (try clear c4); (try clear c4b0); (try clear c5); (try clear p6); (try clear c8); (try clear c9); (try clear p10); (try clear q10); (try clear hx10); (try clear c11); (try clear c16); (try clear c17); (try clear c17b0); (try clear c17b1); (try clear c18); (try clear c18b0); (try clear c18b1); (try clear q19); (try clear hcz13_0); (try clear hcz13_1); (try clear hcz13_2); (try clear hcz13_3); (try clear hcz13_4); (try clear hcz14_0); (try clear hcz14_1); (try clear hcz14_2); (try clear hcz14_3); (try clear hcz14_4); (try clear hcz15_0); (try clear hcz15_1); (try clear hcz15_2); (try clear hcz15_3); (try clear hcz15_4); (try clear hcz7_0); (try clear hcz7_1); (try clear hcz7_2); (try clear hcz7_3); (try clear hcz7_4); (try clear hfz13_0); (try clear hfz13_1); (try clear hfz13_2); (try clear hfz13_3); (try clear hfz13_4); (try clear hfz14_0); (try clear hfz14_1); (try clear hfz14_2); (try clear hfz14_3); (try clear hfz14_4); (try clear hfz15_0); (try clear hfz15_1); (try clear hfz15_2); (try clear hfz15_3); (try clear hfz15_4); (try clear hfz7_0); (try clear hfz7_1); (try clear hfz7_2); (try clear hfz7_3); (try clear hfz7_4); (try clear hx101_0); (try clear hx101_1); (try clear hx101_2); (try clear hx101_3); (try clear hx101_4); (try clear p1); (try clear p10); (try clear p101); (try clear p2); (try clear p6); (try clear q1); (try clear q10); (try clear q101); (try clear q19)
            obtain ⟨x37_3, rfl, HA, HK3, BK102, HB⟩ := hrel
            cases gk with
            | zero => exact absurd HA.out (by simp [spec_l16Good.l1])
            | succ k3 =>
             have H := HA.out; clear HA
             simp only [spec_l16Good.l1] at H
             by_cases c20 : x37_3 < (y106.length : Int)
             ·rw [if_pos c20] at H
              have c20b0 : decide (x37_3 < (y106.length : Int)) = true := decide_eq_true c20
              clear c20
              by_cases c21 : 0 ≤ x37_3
              ·rw [if_pos c21] at H
               have c21b0 : decide (0 ≤ x37_3) = true := decide_eq_true c21
               clear c21
               by_cases c22 : x37_3 < (y106.length : Int)
               ·rw [if_pos c22] at H
                have c22b0 : decide (x37_3 < (y106.length : Int)) = true := decide_eq_true c22
                clear c22
                by_cases c23 : ((rd_T77 l0 x9_1).f0) = ((rd_T77 y106 x37_3).f0)
                ·rw [if_pos c23] at H
                 have c23b0 : (((rd_T77 l0 x9_1).f0) == ((rd_T77 y106 x37_3).f0)) = true := beq_iff_eq.mpr c23
                 have c23b1 : (((rd_T77 l0 x9_1).f0) != ((rd_T77 y106 x37_3).f0)) = false := bne_eq_false_iff_eq.mpr c23
                 clear c23
                 by_cases c24 : ((rd_T77 l0 x9_1).f2) ≥ ((rd_T77 y106 x37_3).f1)
                 ·rw [if_pos c24] at H
                  have c24b0 : decide (((rd_T77 y106 x37_3).f1) ≤ ((rd_T77 l0 x9_1).f2)) = true := decide_eq_true c24
                  clear c24
                  by_cases c25 : ((rd_T77 y106 x37_3).f2) ≥ ((rd_T77 l0 x9_1).f1)
                  ·rw [if_pos c25] at H
                   have c25b0 : decide (((rd_T77 l0 x9_1).f1) ≤ ((rd_T77 y106 x37_3).f2)) = true := decide_eq_true c25
                   clear c25
                   obtain rfl := Option.some.inj H
                   have p110 : 0 ≤ (x37_3 : Int) := od_
                   have q110 : x37_3 < (y106.length : Int) := od_
                   obtain ⟨ad110, e110, hx110_0, hx110_1, hx110_2, hx110_3, hx110_4⟩ := at_T77 HR109.out x37_3 p110 q110
                   obtain rfl : ad101 = ad110 := (by injection e110)
                   try replace hx110_0 := (HB.out.cell (World.block_lt_of_cell? w _ hx110_0)).trans hx110_0
                   try replace hx110_1 := (HB.out.cell (World.block_lt_of_cell? w _ hx110_1)).trans hx110_1
                   try replace hx110_2 := (HB.out.cell (World.block_lt_of_cell? w _ hx110_2)).trans hx110_2
                   try replace hx110_3 := (HB.out.cell (World.block_lt_of_cell? w _ hx110_3)).trans hx110_3
                   try replace hx110_4 := (HB.out.cell (World.block_lt_of_cell? w _ hx110_4)).trans hx110_4
                   replace p110 := eq_true p110; replace q110 := eq_true q110
                   go_wp2_with (first | ((with_reducible refine gate_dst (N := 6) rfl ?_); refine box_event ?hg (N := 6) ?hd (cs := #[.int .i64 0, .int .i64 0, .int .i64 0, .bool false, .float .f64 0]) (t := 77) ?hr ?_; (case hd => rfl); (case hg => rfl); (case hr => first | (go_simp; done) | (go_simp; rfl)); intro gb111 hg w26 hbox hb; have n0_ := a_ (blk_below (g := gb102) (o := .cells #[.int .i64 ((rd_T77 l0 x9_1).f0), .int .i64 ((rd_T77 l0 x9_1).f1), .int .i64 ((rd_T77 l0 x9_1).f2), .bool ((rd_T77 l0 x9_1).f3), .float .f64 ((rd_T77 l0 x9_1).f4)] 77 (0, 0)) (q_ BK102.out) hb); have n1_ := a_ (below_step b_ hb); have n2_ := a_ (hbox); have n3_ := a_ ((by rw [hg]; exact (below_size b_) : w.heap.size ≤ gb111)); have n4_ := a_ ((by rw [hg]; exact (below_size b_) : w.heap.size ≤ gb111)); have n5_ := a_ ((by rw [hg]; exact Nat.ne_of_lt (blk_lt (g := gb102) (o := .cells #[.int .i64 ((rd_T77 l0 x9_1).f0), .int .i64 ((rd_T77 l0 x9_1).f1), .int .i64 ((rd_T77 l0 x9_1).f2), .bool ((rd_T77 l0 x9_1).f3), .float .f64 ((rd_T77 l0 x9_1).f4)] 77 (0, 0)) (q_ BK102.out)) : gb102 ≠ gb111)); have n6_ := a_ ((by rw [hg]; exact Nat.ne_of_gt (blk_lt (g := gb102) (o := .cells #[.int .i64 ((rd_T77 l0 x9_1).f0), .int .i64 ((rd_T77 l0 x9_1).f1), .int .i64 ((rd_T77 l0 x9_1).f2), .bool ((rd_T77 l0 x9_1).f3), .float .f64 ((rd_T77 l0 x9_1).f4)] 77 (0, 0)) (q_ BK102.out)) : gb111 ≠ gb102)); clear BK102; clear HB; have BK102 := n0_; have HB := n1_; have BK111 := n2_; have GW111 := n3_; have GE111 := n4_; have NB102_111 := n5_; have NB111_102 := n6_; clear n0_ n1_ n2_ n3_ n4_ n5_ n6_; clear hb hbox hg; have hnb27 := NB111_102.out; have hnc27 := NB102_111.out; have hcz28_0 : w26.cell? ⟨gb111, 0, none⟩ = some (.int .i64 0) := (blk_cell BK111.out 0).trans rfl; have hcz28_1 : w26.cell? ⟨gb111, 1, none⟩ = some (.int .i64 0) := (blk_cell BK111.out 1).trans rfl; have hcz28_2 : w26.cell? ⟨gb111, 2, none⟩ = some (.int .i64 0) := (blk_cell BK111.out 2).trans rfl; have hcz28_3 : w26.cell? ⟨gb111, 3, none⟩ = some (.bool false) := (blk_cell BK111.out 3).trans rfl; have hcz28_4 : w26.cell? ⟨gb111, 4, none⟩ = some (.float .f64 0) := (blk_cell BK111.out 4).trans rfl; have hfz28_0 := blk_frozen BK111.out 0; have hfz28_1 := blk_frozen BK111.out 1; have hfz28_2 := blk_frozen BK111.out 2; have hfz28_3 := blk_frozen BK111.out 3; have hfz28_4 := blk_frozen BK111.out 4; have hcz29_0 : w26.cell? ⟨gb102, 0, none⟩ = some (.int .i64 ((rd_T77 l0 x9_1).f0)) := (blk_cell BK102.out 0).trans rfl; have hcz29_1 : w26.cell? ⟨gb102, 1, none⟩ = some (.int .i64 ((rd_T77 l0 x9_1).f1)) := (blk_cell BK102.out 1).trans rfl; have hcz29_2 : w26.cell? ⟨gb102, 2, none⟩ = some (.int .i64 ((rd_T77 l0 x9_1).f2)) := (blk_cell BK102.out 2).trans rfl; have hcz29_3 : w26.cell? ⟨gb102, 3, none⟩ = some (.bool ((rd_T77 l0 x9_1).f3)) := (blk_cell BK102.out 3).trans rfl; have hcz29_4 : w26.cell? ⟨gb102, 4, none⟩ = some (.float .f64 ((rd_T77 l0 x9_1).f4)) := (blk_cell BK102.out 4).trans rfl; have hfz29_0 := blk_frozen BK102.out 0; have hfz29_1 := blk_frozen BK102.out 1; have hfz29_2 := blk_frozen BK102.out 2; have hfz29_3 := blk_frozen BK102.out 3; have hfz29_4 := blk_frozen BK102.out 4))
                   go_ret
                   exact ⟨by first | rfl | (simp [errW_none, errW_some] <;> rfl) | (simp [*, errW_none, errW_some] <;> rfl), b_⟩
                  ·rw [if_neg c25] at H
                   have c25b0 : decide (((rd_T77 l0 x9_1).f1) ≤ ((rd_T77 y106 x37_3).f2)) = false := decide_eq_false c25
                   clear c25
                   have H' := a_ H
                   clear H
                   have p110 : 0 ≤ (x37_3 : Int) := od_
                   have q110 : x37_3 < (y106.length : Int) := od_
                   obtain ⟨ad110, e110, hx110_0, hx110_1, hx110_2, hx110_3, hx110_4⟩ := at_T77 HR109.out x37_3 p110 q110
                   obtain rfl : ad101 = ad110 := (by injection e110)
                   try replace hx110_0 := (HB.out.cell (World.block_lt_of_cell? w _ hx110_0)).trans hx110_0
                   try replace hx110_1 := (HB.out.cell (World.block_lt_of_cell? w _ hx110_1)).trans hx110_1
                   try replace hx110_2 := (HB.out.cell (World.block_lt_of_cell? w _ hx110_2)).trans hx110_2
                   try replace hx110_3 := (HB.out.cell (World.block_lt_of_cell? w _ hx110_3)).trans hx110_3
                   try replace hx110_4 := (HB.out.cell (World.block_lt_of_cell? w _ hx110_4)).trans hx110_4
                   replace p110 := eq_true p110; replace q110 := eq_true q110
                   go_wp2_with (first | ((with_reducible refine gate_dst (N := 6) rfl ?_); refine box_event ?hg (N := 6) ?hd (cs := #[.int .i64 0, .int .i64 0, .int .i64 0, .bool false, .float .f64 0]) (t := 77) ?hr ?_; (case hd => rfl); (case hg => rfl); (case hr => first | (go_simp; done) | (go_simp; rfl)); intro gb111 hg w30 hbox hb; have n0_ := a_ (blk_below (g := gb102) (o := .cells #[.int .i64 ((rd_T77 l0 x9_1).f0), .int .i64 ((rd_T77 l0 x9_1).f1), .int .i64 ((rd_T77 l0 x9_1).f2), .bool ((rd_T77 l0 x9_1).f3), .float .f64 ((rd_T77 l0 x9_1).f4)] 77 (0, 0)) (q_ BK102.out) hb); have n1_ := a_ (below_step b_ hb); have n2_ := a_ (hbox); have n3_ := a_ ((by rw [hg]; exact (below_size b_) : w.heap.size ≤ gb111)); have n4_ := a_ ((by rw [hg]; exact (below_size b_) : w.heap.size ≤ gb111)); have n5_ := a_ ((by rw [hg]; exact Nat.ne_of_lt (blk_lt (g := gb102) (o := .cells #[.int .i64 ((rd_T77 l0 x9_1).f0), .int .i64 ((rd_T77 l0 x9_1).f1), .int .i64 ((rd_T77 l0 x9_1).f2), .bool ((rd_T77 l0 x9_1).f3), .float .f64 ((rd_T77 l0 x9_1).f4)] 77 (0, 0)) (q_ BK102.out)) : gb102 ≠ gb111)); have n6_ := a_ ((by rw [hg]; exact Nat.ne_of_gt (blk_lt (g := gb102) (o := .cells #[.int .i64 ((rd_T77 l0 x9_1).f0), .int .i64 ((rd_T77 l0 x9_1).f1), .int .i64 ((rd_T77 l0 x9_1).f2), .bool ((rd_T77 l0 x9_1).f3), .float .f64 ((rd_T77 l0 x9_1).f4)] 77 (0, 0)) (q_ BK102.out)) : gb111 ≠ gb102)); clear BK102; clear HB; have BK102 := n0_; have HB := n1_; have BK111 := n2_; have GW111 := n3_; have GE111 := n4_; have NB102_111 := n5_; have NB111_102 := n6_; clear n0_ n1_ n2_ n3_ n4_ n5_ n6_; clear hb hbox hg; have hnb31 := NB111_102.out; have hnc31 := NB102_111.out; have hcz32_0 : w30.cell? ⟨gb111, 0, none⟩ = some (.int .i64 0) := (blk_cell BK111.out 0).trans rfl; have hcz32_1 : w30.cell? ⟨gb111, 1, none⟩ = some (.int .i64 0) := (blk_cell BK111.out 1).trans rfl; have hcz32_2 : w30.cell? ⟨gb111, 2, none⟩ = some (.int .i64 0) := (blk_cell BK111.out 2).trans rfl; have hcz32_3 : w30.cell? ⟨gb111, 3, none⟩ = some (.bool false) := (blk_cell BK111.out 3).trans rfl; have hcz32_4 : w30.cell? ⟨gb111, 4, none⟩ = some (.float .f64 0) := (blk_cell BK111.out 4).trans rfl; have hfz32_0 := blk_frozen BK111.out 0; have hfz32_1 := blk_frozen BK111.out 1; have hfz32_2 := blk_frozen BK111.out 2; have hfz32_3 := blk_frozen BK111.out 3; have hfz32_4 := blk_frozen BK111.out 4; have hcz33_0 : w30.cell? ⟨gb102, 0, none⟩ = some (.int .i64 ((rd_T77 l0 x9_1).f0)) := (blk_cell BK102.out 0).trans rfl; have hcz33_1 : w30.cell? ⟨gb102, 1, none⟩ = some (.int .i64 ((rd_T77 l0 x9_1).f1)) := (blk_cell BK102.out 1).trans rfl; have hcz33_2 : w30.cell? ⟨gb102, 2, none⟩ = some (.int .i64 ((rd_T77 l0 x9_1).f2)) := (blk_cell BK102.out 2).trans rfl; have hcz33_3 : w30.cell? ⟨gb102, 3, none⟩ = some (.bool ((rd_T77 l0 x9_1).f3)) := (blk_cell BK102.out 3).trans rfl; have hcz33_4 : w30.cell? ⟨gb102, 4, none⟩ = some (.float .f64 ((rd_T77 l0 x9_1).f4)) := (blk_cell BK102.out 4).trans rfl; have hfz33_0 := blk_frozen BK102.out 0; have hfz33_1 := blk_frozen BK102.out 1; have hfz33_2 := blk_frozen BK102.out 2; have hfz33_3 := blk_frozen BK102.out 3; have hfz33_4 := blk_frozen BK102.out 4))
                   go_roundg k3
                   case measure => have := HK1.out; have := HJ4.out; have := HK3.out; omega
                   case rel => exact ⟨(wrap64 (x37_3 + 1)), (by first | rfl | (simp; done) | (simp [*]; done)), H', ⟨by have := HK1.out; have := HJ4.out; have := HK3.out; omega⟩, ⟨by refine q_ ?_; refine blk_far ?_ NB102_111.out _; refine q_ ?_; refine blk_far ?_ NB102_111.out _; refine q_ ?_; refine blk_far ?_ NB102_111.out _; refine q_ ?_; refine blk_far ?_ NB102_111.out _; refine q_ ?_; refine blk_far ?_ NB102_111.out _; exact q_ BK102.out⟩, ⟨b_⟩⟩
                 ·rw [if_neg c24] at H
                  have c24b0 : decide (((rd_T77 y106 x37_3).f1) ≤ ((rd_T77 l0 x9_1).f2)) = false := decide_eq_false c24
                  clear c24
                  have H' := a_ H
                  clear H
                  have p110 : 0 ≤ (x37_3 : Int) := od_
                  have q110 : x37_3 < (y106.length : Int) := od_
                  obtain ⟨ad110, e110, hx110_0, hx110_1, hx110_2, hx110_3, hx110_4⟩ := at_T77 HR109.out x37_3 p110 q110
                  obtain rfl : ad101 = ad110 := (by injection e110)
                  try replace hx110_0 := (HB.out.cell (World.block_lt_of_cell? w _ hx110_0)).trans hx110_0
                  try replace hx110_1 := (HB.out.cell (World.block_lt_of_cell? w _ hx110_1)).trans hx110_1
                  try replace hx110_2 := (HB.out.cell (World.block_lt_of_cell? w _ hx110_2)).trans hx110_2
                  try replace hx110_3 := (HB.out.cell (World.block_lt_of_cell? w _ hx110_3)).trans hx110_3
                  try replace hx110_4 := (HB.out.cell (World.block_lt_of_cell? w _ hx110_4)).trans hx110_4
                  replace p110 := eq_true p110; replace q110 := eq_true q110
                  go_wp2_with (first | ((with_reducible refine gate_dst (N := 6) rfl ?_); refine box_event ?hg (N := 6) ?hd (cs := #[.int .i64 0, .int .i64 0, .int .i64 0, .bool false, .float .f64 0]) (t := 77) ?hr ?_; (case hd => rfl); (case hg => rfl); (case hr => first | (go_simp; done) | (go_simp; rfl)); intro gb111 hg w34 hbox hb; have n0_ := a_ (blk_below (g := gb102) (o := .cells #[.int .i64 ((rd_T77 l0 x9_1).f0), .int .i64 ((rd_T77 l0 x9_1).f1), .int .i64 ((rd_T77 l0 x9_1).f2), .bool ((rd_T77 l0 x9_1).f3), .float .f64 ((rd_T77 l0 x9_1).f4)] 77 (0, 0)) (q_ BK102.out) hb); have n1_ := a_ (below_step b_ hb); have n2_ := a_ (hbox); have n3_ := a_ ((by rw [hg]; exact (below_size b_) : w.heap.size ≤ gb111)); have n4_ := a_ ((by rw [hg]; exact (below_size b_) : w.heap.size ≤ gb111)); have n5_ := a_ ((by rw [hg]; exact Nat.ne_of_lt (blk_lt (g := gb102) (o := .cells #[.int .i64 ((rd_T77 l0 x9_1).f0), .int .i64 ((rd_T77 l0 x9_1).f1), .int .i64 ((rd_T77 l0 x9_1).f2), .bool ((rd_T77 l0 x9_1).f3), .float .f64 ((rd_T77 l0 x9_1).f4)] 77 (0, 0)) (q_ BK102.out)) : gb102 ≠ gb111)); have n6_ := a_ ((by rw [hg]; exact Nat.ne_of_gt (blk_lt (g := gb102) (o := .cells #[.int .i64 ((rd_T77 l0 x9_1).f0), .int .i64 ((rd_T77 l0 x9_1).f1), .int .i64 ((rd_T77 l0 x9_1).f2), .bool ((rd_T77 l0 x9_1).f3), .float .f64 ((rd_T77 l0 x9_1).f4)] 77 (0, 0)) (q_ BK102.out)) : gb111 ≠ gb102)); clear BK102; clear HB; have BK102 := n0_; have HB := n1_; have BK111 := n2_; have GW111 := n3_; have GE111 := n4_; have NB102_111 := n5_; have NB111_102 := n6_; clear n0_ n1_ n2_ n3_ n4_ n5_ n6_; clear hb hbox hg; have hnb35 := NB111_102.out; have hnc35 := NB102_111.out; have hcz36_0 : w34.cell? ⟨gb111, 0, none⟩ = some (.int .i64 0) := (blk_cell BK111.out 0).trans rfl; have hcz36_1 : w34.cell? ⟨gb111, 1, none⟩ = some (.int .i64 0) := (blk_cell BK111.out 1).trans rfl; have hcz36_2 : w34.cell? ⟨gb111, 2, none⟩ = some (.int .i64 0) := (blk_cell BK111.out 2).trans rfl; have hcz36_3 : w34.cell? ⟨gb111, 3, none⟩ = some (.bool false) := (blk_cell BK111.out 3).trans rfl; have hcz36_4 : w34.cell? ⟨gb111, 4, none⟩ = some (.float .f64 0) := (blk_cell BK111.out 4).trans rfl; have hfz36_0 := blk_frozen BK111.out 0; have hfz36_1 := blk_frozen BK111.out 1; have hfz36_2 := blk_frozen BK111.out 2; have hfz36_3 := blk_frozen BK111.out 3; have hfz36_4 := blk_frozen BK111.out 4; have hcz37_0 : w34.cell? ⟨gb102, 0, none⟩ = some (.int .i64 ((rd_T77 l0 x9_1).f0)) := (blk_cell BK102.out 0).trans rfl; have hcz37_1 : w34.cell? ⟨gb102, 1, none⟩ = some (.int .i64 ((rd_T77 l0 x9_1).f1)) := (blk_cell BK102.out 1).trans rfl; have hcz37_2 : w34.cell? ⟨gb102, 2, none⟩ = some (.int .i64 ((rd_T77 l0 x9_1).f2)) := (blk_cell BK102.out 2).trans rfl; have hcz37_3 : w34.cell? ⟨gb102, 3, none⟩ = some (.bool ((rd_T77 l0 x9_1).f3)) := (blk_cell BK102.out 3).trans rfl; have hcz37_4 : w34.cell? ⟨gb102, 4, none⟩ = some (.float .f64 ((rd_T77 l0 x9_1).f4)) := (blk_cell BK102.out 4).trans rfl; have hfz37_0 := blk_frozen BK102.out 0; have hfz37_1 := blk_frozen BK102.out 1; have hfz37_2 := blk_frozen BK102.out 2; have hfz37_3 := blk_frozen BK102.out 3; have hfz37_4 := blk_frozen BK102.out 4))
                  go_roundg k3
                  case measure => have := HK1.out; have := HJ4.out; have := HK3.out; omega
                  case rel => exact ⟨(wrap64 (x37_3 + 1)), (by first | rfl | (simp; done) | (simp [*]; done)), H', ⟨by have := HK1.out; have := HJ4.out; have := HK3.out; omega⟩, ⟨by refine q_ ?_; refine blk_far ?_ NB102_111.out _; refine q_ ?_; refine blk_far ?_ NB102_111.out _; refine q_ ?_; refine blk_far ?_ NB102_111.out _; refine q_ ?_; refine blk_far ?_ NB102_111.out _; refine q_ ?_; refine blk_far ?_ NB102_111.out _; exact q_ BK102.out⟩, ⟨b_⟩⟩
                ·rw [if_neg c23] at H
                 have c23b0 : (((rd_T77 l0 x9_1).f0) == ((rd_T77 y106 x37_3).f0)) = false := beq_eq_false_iff_ne.mpr c23
                 have c23b1 : (((rd_T77 l0 x9_1).f0) != ((rd_T77 y106 x37_3).f0)) = true := bne_iff_ne.mpr c23
                 have H' := a_ H
                 clear H
                 have p110 : 0 ≤ (x37_3 : Int) := od_
                 have q110 : x37_3 < (y106.length : Int) := od_
                 obtain ⟨ad110, e110, hx110_0, hx110_1, hx110_2, hx110_3, hx110_4⟩ := at_T77 HR109.out x37_3 p110 q110
                 obtain rfl : ad101 = ad110 := (by injection e110)
                 try replace hx110_0 := (HB.out.cell (World.block_lt_of_cell? w _ hx110_0)).trans hx110_0
                 try replace hx110_1 := (HB.out.cell (World.block_lt_of_cell? w _ hx110_1)).trans hx110_1
                 try replace hx110_2 := (HB.out.cell (World.block_lt_of_cell? w _ hx110_2)).trans hx110_2
                 try replace hx110_3 := (HB.out.cell (World.block_lt_of_cell? w _ hx110_3)).trans hx110_3
                 try replace hx110_4 := (HB.out.cell (World.block_lt_of_cell? w _ hx110_4)).trans hx110_4
                 replace p110 := eq_true p110; replace q110 := eq_true q110
                 go_wp2_with (first | ((with_reducible refine gate_dst (N := 6) rfl ?_); refine box_event ?hg (N := 6) ?hd (cs := #[.int .i64 0, .int .i64 0, .int .i64 0, .bool false, .float .f64 0]) (t := 77) ?hr ?_; (case hd => rfl); (case hg => rfl); (case hr => first | (go_simp; done) | (go_simp; rfl)); intro gb111 hg w38 hbox hb; have n0_ := a_ (blk_below (g := gb102) (o := .cells #[.int .i64 ((rd_T77 l0 x9_1).f0), .int .i64 ((rd_T77 l0 x9_1).f1), .int .i64 ((rd_T77 l0 x9_1).f2), .bool ((rd_T77 l0 x9_1).f3), .float .f64 ((rd_T77 l0 x9_1).f4)] 77 (0, 0)) (q_ BK102.out) hb); have n1_ := a_ (below_step b_ hb); have n2_ := a_ (hbox); have n3_ := a_ ((by rw [hg]; exact (below_size b_) : w.heap.size ≤ gb111)); have n4_ := a_ ((by rw [hg]; exact (below_size b_) : w.heap.size ≤ gb111)); have n5_ := a_ ((by rw [hg]; exact Nat.ne_of_lt (blk_lt (g := gb102) (o := .cells #[.int .i64 ((rd_T77 l0 x9_1).f0), .int .i64 ((rd_T77 l0 x9_1).f1), .int .i64 ((rd_T77 l0 x9_1).f2), .bool ((rd_T77 l0 x9_1).f3), .float .f64 ((rd_T77 l0 x9_1).f4)] 77 (0, 0)) (q_ BK102.out)) : gb102 ≠ gb111)); have n6_ := a_ ((by rw [hg]; exact Nat.ne_of_gt (blk_lt (g := gb102) (o := .cells #[.int .i64 ((rd_T77 l0 x9_1).f0), .int .i64 ((rd_T77 l0 x9_1).f1), .int .i64 ((rd_T77 l0 x9_1).f2), .bool ((rd_T77 l0 x9_1).f3), .float .f64 ((rd_T77 l0 x9_1).f4)] 77 (0, 0)) (q_ BK102.out)) : gb111 ≠ gb102)); clear BK102; clear HB; have BK102 := n0_; have HB := n1_; have BK111 := n2_; have GW111 := n3_; have GE111 := n4_; have NB102_111 := n5_; have NB111_102 := n6_; clear n0_ n1_ n2_ n3_ n4_ n5_ n6_; clear hb hbox hg; have hnb39 := NB111_102.out; have hnc39 := NB102_111.out; have hcz40_0 : w38.cell? ⟨gb111, 0, none⟩ = some (.int .i64 0) := (blk_cell BK111.out 0).trans rfl; have hcz40_1 : w38.cell? ⟨gb111, 1, none⟩ = some (.int .i64 0) := (blk_cell BK111.out 1).trans rfl; have hcz40_2 : w38.cell? ⟨gb111, 2, none⟩ = some (.int .i64 0) := (blk_cell BK111.out 2).trans rfl; have hcz40_3 : w38.cell? ⟨gb111, 3, none⟩ = some (.bool false) := (blk_cell BK111.out 3).trans rfl; have hcz40_4 : w38.cell? ⟨gb111, 4, none⟩ = some (.float .f64 0) := (blk_cell BK111.out 4).trans rfl; have hfz40_0 := blk_frozen BK111.out 0; have hfz40_1 := blk_frozen BK111.out 1; have hfz40_2 := blk_frozen BK111.out 2; have hfz40_3 := blk_frozen BK111.out 3; have hfz40_4 := blk_frozen BK111.out 4; have hcz41_0 : w38.cell? ⟨gb102, 0, none⟩ = some (.int .i64 ((rd_T77 l0 x9_1).f0)) := (blk_cell BK102.out 0).trans rfl; have hcz41_1 : w38.cell? ⟨gb102, 1, none⟩ = some (.int .i64 ((rd_T77 l0 x9_1).f1)) := (blk_cell BK102.out 1).trans rfl; have hcz41_2 : w38.cell? ⟨gb102, 2, none⟩ = some (.int .i64 ((rd_T77 l0 x9_1).f2)) := (blk_cell BK102.out 2).trans rfl; have hcz41_3 : w38.cell? ⟨gb102, 3, none⟩ = some (.bool ((rd_T77 l0 x9_1).f3)) := (blk_cell BK102.out 3).trans rfl; have hcz41_4 : w38.cell? ⟨gb102, 4, none⟩ = some (.float .f64 ((rd_T77 l0 x9_1).f4)) := (blk_cell BK102.out 4).trans rfl; have hfz41_0 := blk_frozen BK102.out 0; have hfz41_1 := blk_frozen BK102.out 1; have hfz41_2 := blk_frozen BK102.out 2; have hfz41_3 := blk_frozen BK102.out 3; have hfz41_4 := blk_frozen BK102.out 4))
                 go_roundg k3
                 case measure => have := HK1.out; have := HJ4.out; have := HK3.out; omega
                 case rel => exact ⟨(wrap64 (x37_3 + 1)), (by first | rfl | (simp; done) | (simp [*]; done)), H', ⟨by have := HK1.out; have := HJ4.out; have := HK3.out; omega⟩, ⟨by refine q_ ?_; refine blk_far ?_ NB102_111.out _; refine q_ ?_; refine blk_far ?_ NB102_111.out _; refine q_ ?_; refine blk_far ?_ NB102_111.out _; refine q_ ?_; refine blk_far ?_ NB102_111.out _; refine q_ ?_; refine blk_far ?_ NB102_111.out _; exact q_ BK102.out⟩, ⟨b_⟩⟩
               ·rw [if_neg c22] at H
                exact absurd H (by simp)
              ·rw [if_neg c21] at H
               exact absurd H (by simp)
             ·rw [if_neg c20] at H
              have c20b0 : decide (x37_3 < (y106.length : Int)) = false := decide_eq_false c20
              clear c20
              have H' := a_ H
              clear H
              go_wp2
              go_roundg k3
              case measure => have := HK1.out; have := HJ4.out; have := HK3.out; omega
              case rel => exact ⟨(wrap64 (x9_1 + 1)), (by first | rfl | (simp; done) | (simp [*]; done)), H', ⟨by have := HK1.out; have := HJ4.out; have := HK3.out; omega⟩, ⟨b_⟩⟩
          ·rw [if_neg c18] at H
           exact absurd H (by simp)
         ·rw [if_neg c17] at H
          exact absurd H (by simp)
     ·rw [if_neg c4] at H
      exact absurd H (by simp)
    ·rw [if_neg c3] at H
     exact absurd H (by simp)
   ·rw [if_neg c2] at H
    have c2b0 : decide (x9_1 < (l0.length : Int)) = false := decide_eq_false c2
    clear c2
    obtain rfl := Option.some.inj H
    go_wp2
    go_ret
    exact ⟨by first | rfl | (simp [errW_none, errW_some] <;> rfl) | (simp [*, errW_none, errW_some] <;> rfl), b_⟩

/-! ### spec_l1All: function 102 -/
def spec_l1All.l0 : Nat → Int → Int → List Int → Int → Int → Option (Bool)
 | 0, _, _, _, _, _ => none
 | k + 1, x1, x2, x9, x10, x11 => if x11 < x10 then (if 0 ≤ x11 then (if x11 < (x9.length : Int) then ((spec_l1In.f (rd x9 x11) x1 x2).bind fun t113 => (if t113 = true then (spec_l1All.l0 k x1 x2 x9 x10 (wrap64 (x11 + 1))) else (some false))) else (none)) else (none)) else (some true)
def spec_l1All.f (k : Nat) (l0 : List Int) (a1 : Int) (a2 : Int) : Option (Bool) := spec_l1All.l0 k a1 a2 l0 (l0.length : Int) 0
theorem spec_l1All.mono_l : ∀ k, (∀ y0 y1 y2 y3 y4, LeO (spec_l1All.l0 k y0 y1 y2 y3 y4) (spec_l1All.l0 (k + 1) y0 y1 y2 y3 y4))
 | 0 => fun _ _ _ _ _ r h => by simp [spec_l1All.l0] at h
 | k + 1 => by
  have ih0 := spec_l1All.mono_l k
  ·intro y0 y1 y2 y3 y4
   unfold spec_l1All.l0
   repeat' first | (with_reducible exact ih0 _ _ _ _ _) | (with_reducible exact LeO.refl _) | (with_reducible exact LeO.none _) | (with_reducible refine LeO.ite ?_ ?_) | (with_reducible refine LeO.bind ?_ (fun _ => ?_)) | exact ih0 _ _ _ _ _ | exact LeO.none _ | refine LeO.ite ?_ ?_ | refine LeO.bind ?_ (fun _ => ?_)
theorem spec_l1All.mono : ∀ a0 a1 a2 k, LeO (spec_l1All.f k a0 a1 a2) (spec_l1All.f (k + 1) a0 a1 a2) := by
 intro a0 a1 a2 k
 have ih0 := spec_l1All.mono_l k
 unfold spec_l1All.f
 repeat' first | (with_reducible exact ih0 _ _ _ _ _) | (with_reducible exact LeO.refl _) | (with_reducible exact LeO.none _) | (with_reducible refine LeO.ite ?_ ?_) | (with_reducible refine LeO.bind ?_ (fun _ => ?_)) | exact ih0 _ _ _ _ _ | exact LeO.none _ | refine LeO.ite ?_ ?_ | refine LeO.bind ?_ (fun _ => ?_)
set_option maxHeartbeats 8000000 in
set_option maxRecDepth 100000 in
theorem spec_l1All.calls (k : Nat) (A0 : Option Addr) (c0 : Nat) (l0 : List Int) (a1 : Int) (a2 : Int) (r : Bool) (w : World) (hr0 : Kd.C (Kd.int .i64) w A0 l0.length l0) (hc0 : l0.length ≤ c0) (h : spec_l1All.f k l0 a1 a2 = some r) :
  Calls Try.prog 102 #[.slice A0 l0.length c0, .int .i64 a1, .int .i64 a2] w fun e w' => e = .returned (.bool r) ∧ Drawn0 w w' := by
 have HR0 := a_ hr0
 have HC0 := a_ hc0
 clear hr0 hc0
 have H : (spec_l1All.l0 k a1 a2 l0 (l0.length : Int) 0) = some r := h
 clear h
 have H' := a_ H
 clear H
 go_enter Try.func102, Try.ntmps102
 go_wp2
 go_loopg [11] k (fun kq v11 w' => ∃ (x11_1 : Int), v11 = .int .i64 x11_1 ∧ Aside0 (spec_l1All.l0 kq a1 a2 l0 (l0.length : Int) x11_1 = some r) ∧ Aside0 (kq ≤ k) ∧ Drawn0 w w')
 case atStart => exact ⟨(0), (by first | rfl | (simp; done) | (simp [*]; done)), H', ⟨Nat.le_refl _⟩, by repeat (first | exact Drawn0.refl _ | apply Drawn0.step)⟩
 case round =>
  clear H'
  (try clear c1); (try clear p2)
  obtain ⟨x11_1, rfl, HA, HK1, ⟨m1, rfl⟩⟩ := hrel
  cases gk with
  | zero => exact absurd HA.out (by simp [spec_l1All.l0])
  | succ k1 =>
   have H := HA.out; clear HA
   simp only [spec_l1All.l0] at H
   by_cases c4 : x11_1 < (l0.length : Int)
   ·rw [if_pos c4] at H
    have c4b0 : decide (x11_1 < (l0.length : Int)) = true := decide_eq_true c4
    clear c4
    by_cases c5 : 0 ≤ x11_1
    ·rw [if_pos c5] at H
     have c5b0 : decide (0 ≤ x11_1) = true := decide_eq_true c5
     clear c5
     by_cases c6 : x11_1 < (l0.length : Int)
     ·rw [if_pos c6] at H
      have c6b0 : decide (x11_1 < (l0.length : Int)) = true := decide_eq_true c6
      clear c6
      replace H := Option.bind_eq_some_iff.mp H
      obtain ⟨t113, A70, H⟩ := H
      replace H : (if t113 = true then (spec_l1All.l0 k1 a1 a2 l0 (l0.length : Int) (wrap64 (x11_1 + 1))) else (some false)) = some r := H
      have A7 := a_ A70; clear A70
      by_cases c8 : t113 = true
      ·subst c8
       have H1 : (spec_l1All.l0 k1 a1 a2 l0 (l0.length : Int) (wrap64 (x11_1 + 1))) = some r := by rw [if_pos rfl] at H; exact H
       clear H; have H := H1; clear H1
       have H' := a_ H
       clear H
       have p112 : 0 ≤ (x11_1 : Int) := od_
       have q112 : x11_1 < (l0.length : Int) := od_
       obtain ⟨ad112, e112, hx112_0⟩ := Kd.at_int HR0.out x11_1 p112 q112
       cases e112
       replace p112 := eq_true p112; replace q112 := eq_true q112
       go_wp2_with (first | ((with_reducible refine gate_callee (f := 82) rfl ?_); refine goesL_ (some 18) rfl rfl Try.func82 (by kernel_rfl) rfl #[.int .i64 (rd l0 x11_1), .int .i64 a1, .int .i64 a2] rfl la_ ?_; (with_reducible refine (spec_l1In.calls (rd l0 x11_1) a1 a2 true _ A7.out).mono ?_); rintro e w' ⟨rfl, ⟨nd, rfl⟩⟩; refine ⟨_, rfl, ?_⟩))
       go_roundg k1
       case measure => have := HK1.out; omega
       case rel => exact ⟨(wrap64 (x11_1 + 1)), (by first | rfl | (simp; done) | (simp [*]; done)), H', ⟨by have := HK1.out; omega⟩, by repeat (first | exact Drawn0.refl _ | apply Drawn0.step)⟩
      ·replace c8 := Bool.eq_false_iff.mpr c8
       subst c8
       have H1 : (some false) = some r := by rw [if_neg (show ¬ (false = true) by decide)] at H; exact H
       clear H; have H := H1; clear H1
       obtain rfl := Option.some.inj H
       have p112 : 0 ≤ (x11_1 : Int) := od_
       have q112 : x11_1 < (l0.length : Int) := od_
       obtain ⟨ad112, e112, hx112_0⟩ := Kd.at_int HR0.out x11_1 p112 q112
       cases e112
       replace p112 := eq_true p112; replace q112 := eq_true q112
       go_wp2_with (first | ((with_reducible refine gate_callee (f := 82) rfl ?_); refine goesL_ (some 18) rfl rfl Try.func82 (by kernel_rfl) rfl #[.int .i64 (rd l0 x11_1), .int .i64 a1, .int .i64 a2] rfl la_ ?_; (with_reducible refine (spec_l1In.calls (rd l0 x11_1) a1 a2 false _ A7.out).mono ?_); rintro e w' ⟨rfl, ⟨nd, rfl⟩⟩; refine ⟨_, rfl, ?_⟩))
       go_ret
       exact ⟨by first | rfl | (simp; done) | (simp [*]; done), by repeat (first | exact Drawn0.refl _ | apply Drawn0.step)⟩
     ·rw [if_neg c6] at H
      exact absurd H (by simp)
    ·rw [if_neg c5] at H
     exact absurd H (by simp)
   ·rw [if_neg c4] at H
    have c4b0 : decide (x11_1 < (l0.length : Int)) = false := decide_eq_false c4
    clear c4
    obtain rfl := Option.some.inj H
    go_wp2
    go_ret
    exact ⟨by first | rfl | (simp; done) | (simp [*]; done), by repeat (first | exact Drawn0.refl _ | apply Drawn0.step)⟩

/-! ### spec_l1Has: function 103 -/
def spec_l1Has.l0 : Nat → Int → List Int → Int → Int → Option (Bool)
 | 0, _, _, _, _ => none
 | k + 1, x1, x7, x8, x9 => if x9 < x8 then (if 0 ≤ x9 then (if x9 < (x7.length : Int) then (if (rd x7 x9) = x1 then (some true) else (spec_l1Has.l0 k x1 x7 x8 (wrap64 (x9 + 1)))) else (none)) else (none)) else (some false)
def spec_l1Has.f (k : Nat) (l0 : List Int) (a1 : Int) : Option (Bool) := spec_l1Has.l0 k a1 l0 (l0.length : Int) 0
theorem spec_l1Has.mono_l : ∀ k, (∀ y0 y1 y2 y3, LeO (spec_l1Has.l0 k y0 y1 y2 y3) (spec_l1Has.l0 (k + 1) y0 y1 y2 y3))
 | 0 => fun _ _ _ _ r h => by simp [spec_l1Has.l0] at h
 | k + 1 => by
  have ih0 := spec_l1Has.mono_l k
  ·intro y0 y1 y2 y3
   unfold spec_l1Has.l0
   repeat' first | (with_reducible exact ih0 _ _ _ _) | (with_reducible exact LeO.refl _) | (with_reducible exact LeO.none _) | (with_reducible refine LeO.ite ?_ ?_) | (with_reducible refine LeO.bind ?_ (fun _ => ?_)) | exact ih0 _ _ _ _ | exact LeO.none _ | refine LeO.ite ?_ ?_ | refine LeO.bind ?_ (fun _ => ?_)
theorem spec_l1Has.mono : ∀ a0 a1 k, LeO (spec_l1Has.f k a0 a1) (spec_l1Has.f (k + 1) a0 a1) := by
 intro a0 a1 k
 have ih0 := spec_l1Has.mono_l k
 unfold spec_l1Has.f
 repeat' first | (with_reducible exact ih0 _ _ _ _) | (with_reducible exact LeO.refl _) | (with_reducible exact LeO.none _) | (with_reducible refine LeO.ite ?_ ?_) | (with_reducible refine LeO.bind ?_ (fun _ => ?_)) | exact ih0 _ _ _ _ | exact LeO.none _ | refine LeO.ite ?_ ?_ | refine LeO.bind ?_ (fun _ => ?_)
set_option maxHeartbeats 8000000 in
set_option maxRecDepth 100000 in
theorem spec_l1Has.calls (k : Nat) (A0 : Option Addr) (c0 : Nat) (l0 : List Int) (a1 : Int) (r : Bool) (w : World) (hr0 : Kd.C (Kd.int .i64) w A0 l0.length l0) (hc0 : l0.length ≤ c0) (h : spec_l1Has.f k l0 a1 = some r) :
  Calls Try.prog 103 #[.slice A0 l0.length c0, .int .i64 a1] w fun e w' => e = .returned (.bool r) ∧ Drawn0 w w' := by
 have HR0 := a_ hr0
 have HC0 := a_ hc0
 clear hr0 hc0
 have H : (spec_l1Has.l0 k a1 l0 (l0.length : Int) 0) = some r := h
 clear h
 have H' := a_ H
 clear H
 go_enter Try.func103, Try.ntmps103
 go_wp2
 go_loopg [9] k (fun kq v9 w' => ∃ (x9_1 : Int), v9 = .int .i64 x9_1 ∧ Aside0 (spec_l1Has.l0 kq a1 l0 (l0.length : Int) x9_1 = some r) ∧ Aside0 (kq ≤ k) ∧ Drawn0 w w')
 case atStart => exact ⟨(0), (by first | rfl | (simp; done) | (simp [*]; done)), H', ⟨Nat.le_refl _⟩, by repeat (first | exact Drawn0.refl _ | apply Drawn0.step)⟩
 case round =>
  clear H'
  (try clear c1); (try clear p2)
  obtain ⟨x9_1, rfl, HA, HK1, ⟨m1, rfl⟩⟩ := hrel
  cases gk with
  | zero => exact absurd HA.out (by simp [spec_l1Has.l0])
  | succ k1 =>
   have H := HA.out; clear HA
   simp only [spec_l1Has.l0] at H
   by_cases c3 : x9_1 < (l0.length : Int)
   ·rw [if_pos c3] at H
    have c3b0 : decide (x9_1 < (l0.length : Int)) = true := decide_eq_true c3
    clear c3
    by_cases c4 : 0 ≤ x9_1
    ·rw [if_pos c4] at H
     have c4b0 : decide (0 ≤ x9_1) = true := decide_eq_true c4
     clear c4
     by_cases c5 : x9_1 < (l0.length : Int)
     ·rw [if_pos c5] at H
      have c5b0 : decide (x9_1 < (l0.length : Int)) = true := decide_eq_true c5
      clear c5
      by_cases c6 : (rd l0 x9_1) = a1
      ·rw [if_pos c6] at H
       have c6b0 : ((rd l0 x9_1) == a1) = true := beq_iff_eq.mpr c6
       have c6b1 : ((rd l0 x9_1) != a1) = false := bne_eq_false_iff_eq.mpr c6
       clear c6
       obtain rfl := Option.some.inj H
       have p114 : 0 ≤ (x9_1 : Int) := od_
       have q114 : x9_1 < (l0.length : Int) := od_
       obtain ⟨ad114, e114, hx114_0⟩ := Kd.at_int HR0.out x9_1 p114 q114
       cases e114
       replace p114 := eq_true p114; replace q114 := eq_true q114
       go_wp2
       go_ret
       exact ⟨by first | rfl | (simp; done) | (simp [*]; done), by repeat (first | exact Drawn0.refl _ | apply Drawn0.step)⟩
      ·rw [if_neg c6] at H
       have c6b0 : ((rd l0 x9_1) == a1) = false := beq_eq_false_iff_ne.mpr c6
       have c6b1 : ((rd l0 x9_1) != a1) = true := bne_iff_ne.mpr c6
       have H' := a_ H
       clear H
       have p114 : 0 ≤ (x9_1 : Int) := od_
       have q114 : x9_1 < (l0.length : Int) := od_
       obtain ⟨ad114, e114, hx114_0⟩ := Kd.at_int HR0.out x9_1 p114 q114
       cases e114
       replace p114 := eq_true p114; replace q114 := eq_true q114
       go_wp2
       go_roundg k1
       case measure => have := HK1.out; omega
       case rel => exact ⟨(wrap64 (x9_1 + 1)), (by first | rfl | (simp; done) | (simp [*]; done)), H', ⟨by have := HK1.out; omega⟩, by repeat (first | exact Drawn0.refl _ | apply Drawn0.step)⟩
     ·rw [if_neg c5] at H
      exact absurd H (by simp)
    ·rw [if_neg c4] at H
     exact absurd H (by simp)
   ·rw [if_neg c3] at H
    have c3b0 : decide (x9_1 < (l0.length : Int)) = false := decide_eq_false c3
    clear c3
    obtain rfl := Option.some.inj H
    go_wp2
    go_ret
    exact ⟨by first | rfl | (simp; done) | (simp [*]; done), by repeat (first | exact Drawn0.refl _ | apply Drawn0.step)⟩

end Go.Proofs.Ythdpiceiemkjlaa.GPlayObject

-- Printed by wip/tools/print2.py out of the translation: walks and plain functions; Lean checks them.
import Derived.Test.YthdpiceiemkjlaaGFnOneOrderx0
namespace Go.Proofs.Ythdpiceiemkjlaa.GFnOneOrder
open Go.RowKit Go.Proofs.YthdpiceiemkjlaaW.PrintWords Go.Proofs.YthdpiceiemkjlaaW.PrintLast Go.Proofs.YthdpiceiemkjlaaW.PrintMore
attribute [local go_sem] max2_int min2_int max_two min_two max_three min_three max_four min_four   -- for this text's walks alone
set_option linter.unusedVariables false
set_option linter.unusedSimpArgs false

/-! ### spec_l16Kind: function 58 -/
def spec_l16Kind.f (a0 : Int) : Option (Bool) := if a0 = 1 then (some true) else (some (a0 == 2))
set_option maxHeartbeats 8000000 in
set_option maxRecDepth 100000 in
theorem spec_l16Kind.calls (a0 : Int) (r : Bool) (w : World) (h : spec_l16Kind.f a0 = some r) :
  Calls Try.prog 58 #[.int .i64 a0] w fun e w' => e = .returned (.bool r) ∧ Drawn0 w w' := by
 have H : (if a0 = 1 then (some true) else (some (a0 == 2))) = some r := h
 clear h
 by_cases c2 : a0 = 1
 ·rw [if_pos c2] at H
  have c2b0 := beq_iff_eq.mpr c2
  have c2b1 := bne_eq_false_iff_eq.mpr c2
  clear c2
  obtain rfl := Option.some.inj H
  go_enter Try.func58, Try.ntmps58
  go_wp2
  go_ret
  exact ⟨by first | rfl | (simp; done) | (simp [*]; done), by repeat (first | exact Drawn0.refl _ | apply Drawn0.step)⟩
 ·rw [if_neg c2] at H
  have c2b0 := beq_eq_false_iff_ne.mpr c2
  have c2b1 := bne_iff_ne.mpr c2
  obtain rfl := Option.some.inj H
  go_enter Try.func58, Try.ntmps58
  go_wp2
  go_ret
  exact ⟨by first | rfl | (simp; done) | (simp [*]; done), by repeat (first | exact Drawn0.refl _ | apply Drawn0.step)⟩

/-! ### spec_l1In: function 82 -/
def spec_l1In.f (a0 : Int) (a1 : Int) (a2 : Int) : Option (Bool) := if a0 ≥ a1 then (some (decide (a0 ≤ a2))) else (some false)
set_option maxHeartbeats 8000000 in
set_option maxRecDepth 100000 in
theorem spec_l1In.calls (a0 : Int) (a1 : Int) (a2 : Int) (r : Bool) (w : World) (h : spec_l1In.f a0 a1 a2 = some r) :
  Calls Try.prog 82 #[.int .i64 a0, .int .i64 a1, .int .i64 a2] w fun e w' => e = .returned (.bool r) ∧ Drawn0 w w' := by
 have H : (if a0 ≥ a1 then (some (decide (a0 ≤ a2))) else (some false)) = some r := h
 clear h
 by_cases c4 : a0 ≥ a1
 ·rw [if_pos c4] at H
  have c4b0 := decide_eq_true c4
  clear c4
  obtain rfl := Option.some.inj H
  go_enter Try.func82, Try.ntmps82
  go_wp2
  go_ret
  exact ⟨by first | rfl | (simp; done) | (simp [*]; done), by repeat (first | exact Drawn0.refl _ | apply Drawn0.step)⟩
 ·rw [if_neg c4] at H
  have c4b0 := decide_eq_false c4
  clear c4
  obtain rfl := Option.some.inj H
  go_enter Try.func82, Try.ntmps82
  go_wp2
  go_ret
  exact ⟨by first | rfl | (simp; done) | (simp [*]; done), by repeat (first | exact Drawn0.refl _ | apply Drawn0.step)⟩

/-! ### spec_l16Good: function 59 -/
mutual
def spec_l16Good.l0 : Nat → List (S77) → List (S77) → Int → Int → Option (Bool)
 | 0, _, _, _, _ => none
 | k + 1, x0, x7, x8, x9 => if x9 < x8 then (if 0 ≤ x9 then (if x9 < (x7.length : Int) then ((spec_l1In.f ((rd_T77 x7 x9).f0) 0 9).bind fun t103 => (if t103 = true then ((spec_l1In.f ((rd_T77 x7 x9).f1) 0 999).bind fun t104 => (if t104 = true then ((spec_l1In.f ((rd_T77 x7 x9).f2) (wrap64 (((rd_T77 x7 x9).f1) + 1)) 999).bind fun t105 => (spec_l16Good.j1 k x0 x9 x7 x8 x9 (!t105) ((rd_T77 x7 x9).f0) ((rd_T77 x7 x9).f1) ((rd_T77 x7 x9).f2) ((rd_T77 x7 x9).f3) ((rd_T77 x7 x9).f4))) else (spec_l16Good.j1 k x0 x9 x7 x8 x9 true ((rd_T77 x7 x9).f0) ((rd_T77 x7 x9).f1) ((rd_T77 x7 x9).f2) ((rd_T77 x7 x9).f3) ((rd_T77 x7 x9).f4)))) else (spec_l16Good.j1 k x0 x9 x7 x8 x9 true ((rd_T77 x7 x9).f0) ((rd_T77 x7 x9).f1) ((rd_T77 x7 x9).f2) ((rd_T77 x7 x9).f3) ((rd_T77 x7 x9).f4)))) else (none)) else (none)) else (some (decide ((x0.length : Int) ≤ 8)))
def spec_l16Good.j1 : Nat → List (S77) → Int → List (S77) → Int → Int → Bool → Int → Int → Int → Bool → Nat → Option (Bool)
 | 0, _, _, _, _, _, _, _, _, _, _, _ => none
 | k + 1, x0, x3, x7, x8, x9, x32, x103000, x103001, x103002, x103003, x103004 => if x32 = true then (some false) else (if 0 ≤ x3 then (if x3 ≤ (x0.length : Int) then ((some (x0.take (x3 : Int).toNat : List (S77))).bind fun y106 => (spec_l16Good.l1 k x0 x7 x8 x9 y106 (y106.length : Int) 0 x103000 x103001 x103002 x103003 x103004)) else (none)) else (none))
def spec_l16Good.l1 : Nat → List (S77) → List (S77) → Int → Int → List (S77) → Int → Int → Int → Int → Int → Bool → Nat → Option (Bool)
 | 0, _, _, _, _, _, _, _, _, _, _, _, _ => none
 | k + 1, x0, x7, x8, x9, x35, x36, x37, x103000, x103001, x103002, x103003, x103004 => if x37 < x36 then (if 0 ≤ x37 then (if x37 < (x35.length : Int) then (if x103000 = ((rd_T77 x35 x37).f0) then (if x103002 ≥ ((rd_T77 x35 x37).f1) then (if ((rd_T77 x35 x37).f2) ≥ x103001 then (some false) else (spec_l16Good.l1 k x0 x7 x8 x9 x35 x36 (wrap64 (x37 + 1)) x103000 x103001 x103002 x103003 x103004)) else (spec_l16Good.l1 k x0 x7 x8 x9 x35 x36 (wrap64 (x37 + 1)) x103000 x103001 x103002 x103003 x103004)) else (spec_l16Good.l1 k x0 x7 x8 x9 x35 x36 (wrap64 (x37 + 1)) x103000 x103001 x103002 x103003 x103004)) else (none)) else (none)) else (spec_l16Good.l0 k x0 x7 x8 (wrap64 (x9 + 1)))
end
def spec_l16Good.f (k : Nat) (l0 : List (S77)) : Option (Bool) := spec_l16Good.l0 k l0 l0 (l0.length : Int) 0
set_option maxHeartbeats 8000000 in
set_option maxRecDepth 100000 in
theorem spec_l16Good.calls (k : Nat) (A0 : Option Addr) (c0 : Nat) (l0 : List (S77)) (r : Bool) (w : World) (hr0 : Kd.C k77 w A0 l0.length l0) (hc0 : l0.length ≤ c0) (h : spec_l16Good.f k l0 = some r) :
  Calls Try.prog 59 #[.slice A0 l0.length c0] w fun e w' => e = .returned (.bool r) ∧ Below w.heap.size w w' := by
 have hu77 := Try.underlying77
 have HR0 := a_ hr0
 have HC0 := a_ hc0
 clear hr0 hc0
 have HB := a_ (Below.refl w.heap.size w)
 have H : (spec_l16Good.l0 k l0 l0 (l0.length : Int) 0) = some r := h
 clear h
 have H' := a_ H
 clear H
 go_enter Try.func59, Try.ntmps59
 go_wp2
 go_loopg [9] k (fun kq v9 w' => ∃ (x9_1 : Int), v9 = .int .i64 x9_1 ∧ Aside0 (spec_l16Good.l0 kq l0 l0 (l0.length : Int) x9_1 = some r) ∧ Aside0 (kq ≤ k) ∧ Aside0 (Below w.heap.size w w'))
 case atStart => exact ⟨(0), (by first | rfl | (simp; done) | (simp [*]; done)), H', ⟨Nat.le_refl _⟩, ⟨b_⟩⟩
 case round =>
  clear H'
  obtain ⟨x9_1, rfl, HA, HK1, HB⟩ := hrel
  cases gk with
  | zero => exact absurd HA.out (by simp [spec_l16Good.l0])
  | succ k1 =>
   have H := HA.out; clear HA
   simp only [spec_l16Good.l0] at H
   by_cases c2 : x9_1 < (l0.length : Int)
   ·rw [if_pos c2] at H
    have c2b0 := decide_eq_true c2
    clear c2
    replace H := ig_ H
    obtain ⟨c3b0, H⟩ := H
    replace H := ig_ H
    obtain ⟨c4b0, H⟩ := H
    have HC5 := a_ H; clear H
    have p101 : 0 ≤ (x9_1 : Int) := od_
    have q101 : x9_1 < (l0.length : Int) := od_
    obtain ⟨ad101, e101, hx101_0, hx101_1, hx101_2, hx101_3, hx101_4⟩ := at_T77 HR0.out x9_1 p101 q101
    cases e101
    try replace hx101_0 := cl_ HB.out hx101_0
    try replace hx101_1 := cl_ HB.out hx101_1
    try replace hx101_2 := cl_ HB.out hx101_2
    try replace hx101_3 := cl_ HB.out hx101_3
    try replace hx101_4 := cl_ HB.out hx101_4
    replace p101 := eq_true p101; replace q101 := eq_true q101
    go_upto_region 4 with (first | ((with_reducible refine gate_dst (N := 4) rfl ?_); refine box_event ?hg (N := 4) ?hd (cs := #[.int .i64 0, .int .i64 0, .int .i64 0, .bool false, .float .f64 0]) (t := 77) ?hr ?_; (case hd => rfl); (case hg => rfl); (case hr => first | (go_simp; done) | (go_simp; rfl)); intro gb102 hg w6 hbox hb; have n0_ := a_ (below_step b_ hb); have n1_ := a_ (hbox); have n2_ := a_ ((by rw [hg]; exact (below_size b_) : w.heap.size ≤ gb102)); have n3_ := a_ ((by rw [hg]; exact (below_size b_) : w.heap.size ≤ gb102)); clear HB; have HB := n0_; have BK102 := n1_; have GW102 := n2_; have GE102 := n3_; clear n0_ n1_ n2_ n3_; clear hb hbox hg; obtain ⟨hcz7_0, hcz7_1, hcz7_2, hcz7_3, hcz7_4, hfz7_0, hfz7_1, hfz7_2, hfz7_3, hfz7_4⟩ := cz5_ BK102.out))
    (try simp only [Act.put, List.setIfInBounds_toArray, List.set_cons_zero, List.set_cons_succ])
    go_cut [32] (fun v32 wc => ∃ (kq : Nat) (x32_4 : Bool), v32 = .bool x32_4 ∧ Aside0 (spec_l16Good.j1 kq l0 x9_1 l0 (l0.length : Int) x9_1 x32_4 ((rd_T77 l0 x9_1).f0) ((rd_T77 l0 x9_1).f1) ((rd_T77 l0 x9_1).f2) ((rd_T77 l0 x9_1).f3) ((rd_T77 l0 x9_1).f4) = some r) ∧ Aside0 (kq ≤ k1) ∧ Aside0 (wc.heap[gb102]? = some (.cells #[.int .i64 ((rd_T77 l0 x9_1).f0), .int .i64 ((rd_T77 l0 x9_1).f1), .int .i64 ((rd_T77 l0 x9_1).f2), .bool ((rd_T77 l0 x9_1).f3), .float .f64 ((rd_T77 l0 x9_1).f4)] 77 (0, 0))) ∧ Aside0 (Below w.heap.size w wc))
    case first =>
     have H := HC5.out; clear HC5
     replace H := Option.bind_eq_some_iff.mp H
     obtain ⟨t103, A80, H⟩ := H
     try dsimp only at H
     have A8 := a_ A80; clear A80
     by_cases c9 : t103 = true
     ·subst c9
      rw [if_pos rfl] at H
      replace H := Option.bind_eq_some_iff.mp H
      obtain ⟨t104, A100, H⟩ := H
      try dsimp only at H
      have A10 := a_ A100; clear A100
      by_cases c11 : t104 = true
      ·subst c11
       rw [if_pos rfl] at H
       replace H := Option.bind_eq_some_iff.mp H
       obtain ⟨t105, A120, H⟩ := H
       try dsimp only at H
       have A12 := a_ A120; clear A120
       have H' := a_ H
       clear H
       obtain ⟨hcz13_0, hcz13_1, hcz13_2, hcz13_3, hcz13_4, hfz13_0, hfz13_1, hfz13_2, hfz13_3, hfz13_4⟩ := cz5_ BK102.out
       go_wp2_with (first | ((with_reducible refine gate_callee (f := 82) rfl ?_); refine goesL_ (some 16) rfl rfl Try.func82 (by kernel_rfl) rfl #[.int .i64 ((rd_T77 l0 x9_1).f0), .int .i64 0, .int .i64 9] rfl la_ ?_; (with_reducible refine (spec_l1In.calls ((rd_T77 l0 x9_1).f0) 0 9 true _ A8.out).mono ?_); rintro e w' ⟨rfl, ⟨nd, rfl⟩⟩; refine ⟨_, rfl, ?_⟩) | (go_at_call 82; (with_reducible refine (spec_l1In.calls ((rd_T77 l0 x9_1).f1) 0 999 true _ A10.out).mono ?_); rintro e w' ⟨rfl, ⟨nd, rfl⟩⟩) | (go_at_call 82; (with_reducible refine (spec_l1In.calls ((rd_T77 l0 x9_1).f2) (wrap64 (((rd_T77 l0 x9_1).f1) + 1)) 999 t105 _ A12.out).mono ?_); rintro e w' ⟨rfl, ⟨nd, rfl⟩⟩))
       go_meet
       case rel => exact ⟨_, (!t105), (by first | rfl | (simp; done) | (simp [*]; done)), H', ⟨by have := HK1.out; first | omega | exact Nat.le_refl _⟩, ⟨by refine q_ ?_; refine blk_put (cs := #[.int .i64 ((rd_T77 l0 x9_1).f0), .int .i64 ((rd_T77 l0 x9_1).f1), .int .i64 ((rd_T77 l0 x9_1).f2), .bool ((rd_T77 l0 x9_1).f3), .float .f64 0]) ?_ 4 _ rfl; refine q_ ?_; refine blk_put (cs := #[.int .i64 ((rd_T77 l0 x9_1).f0), .int .i64 ((rd_T77 l0 x9_1).f1), .int .i64 ((rd_T77 l0 x9_1).f2), .bool false, .float .f64 0]) ?_ 3 _ rfl; refine q_ ?_; refine blk_put (cs := #[.int .i64 ((rd_T77 l0 x9_1).f0), .int .i64 ((rd_T77 l0 x9_1).f1), .int .i64 0, .bool false, .float .f64 0]) ?_ 2 _ rfl; refine q_ ?_; refine blk_put (cs := #[.int .i64 ((rd_T77 l0 x9_1).f0), .int .i64 0, .int .i64 0, .bool false, .float .f64 0]) ?_ 1 _ rfl; refine q_ ?_; refine blk_put (cs := #[.int .i64 0, .int .i64 0, .int .i64 0, .bool false, .float .f64 0]) ?_ 0 _ rfl; exact q_ BK102.out⟩, ⟨b_⟩⟩
      ·replace c11 := Bool.eq_false_iff.mpr c11
       subst c11
       rw [if_neg (show ¬ (false = true) by decide)] at H
       have H' := a_ H
       clear H
       obtain ⟨hcz14_0, hcz14_1, hcz14_2, hcz14_3, hcz14_4, hfz14_0, hfz14_1, hfz14_2, hfz14_3, hfz14_4⟩ := cz5_ BK102.out
       go_wp2_with (first | ((with_reducible refine gate_callee (f := 82) rfl ?_); refine goesL_ (some 16) rfl rfl Try.func82 (by kernel_rfl) rfl #[.int .i64 ((rd_T77 l0 x9_1).f0), .int .i64 0, .int .i64 9] rfl la_ ?_; (with_reducible refine (spec_l1In.calls ((rd_T77 l0 x9_1).f0) 0 9 true _ A8.out).mono ?_); rintro e w' ⟨rfl, ⟨nd, rfl⟩⟩; refine ⟨_, rfl, ?_⟩) | (go_at_call 82; (with_reducible refine (spec_l1In.calls ((rd_T77 l0 x9_1).f1) 0 999 false _ A10.out).mono ?_); rintro e w' ⟨rfl, ⟨nd, rfl⟩⟩))
       go_meet
       case rel => exact ⟨_, (true), (by first | rfl | (simp; done) | (simp [*]; done)), H', ⟨by have := HK1.out; first | omega | exact Nat.le_refl _⟩, ⟨by refine q_ ?_; refine blk_put (cs := #[.int .i64 ((rd_T77 l0 x9_1).f0), .int .i64 ((rd_T77 l0 x9_1).f1), .int .i64 ((rd_T77 l0 x9_1).f2), .bool ((rd_T77 l0 x9_1).f3), .float .f64 0]) ?_ 4 _ rfl; refine q_ ?_; refine blk_put (cs := #[.int .i64 ((rd_T77 l0 x9_1).f0), .int .i64 ((rd_T77 l0 x9_1).f1), .int .i64 ((rd_T77 l0 x9_1).f2), .bool false, .float .f64 0]) ?_ 3 _ rfl; refine q_ ?_; refine blk_put (cs := #[.int .i64 ((rd_T77 l0 x9_1).f0), .int .i64 ((rd_T77 l0 x9_1).f1), .int .i64 0, .bool false, .float .f64 0]) ?_ 2 _ rfl; refine q_ ?_; refine blk_put (cs := #[.int .i64 ((rd_T77 l0 x9_1).f0), .int .i64 0, .int .i64 0, .bool false, .float .f64 0]) ?_ 1 _ rfl; refine q_ ?_; refine blk_put (cs := #[.int .i64 0, .int .i64 0, .int .i64 0, .bool false, .float .f64 0]) ?_ 0 _ rfl; exact q_ BK102.out⟩, ⟨b_⟩⟩
     ·replace c9 := Bool.eq_false_iff.mpr c9
      subst c9
      rw [if_neg (show ¬ (false = true) by decide)] at H
      have H' := a_ H
      clear H
      obtain ⟨hcz15_0, hcz15_1, hcz15_2, hcz15_3, hcz15_4, hfz15_0, hfz15_1, hfz15_2, hfz15_3, hfz15_4⟩ := cz5_ BK102.out
      go_wp2_with (first | ((with_reducible refine gate_callee (f := 82) rfl ?_); refine goesL_ (some 16) rfl rfl Try.func82 (by kernel_rfl) rfl #[.int .i64 ((rd_T77 l0 x9_1).f0), .int .i64 0, .int .i64 9] rfl la_ ?_; (with_reducible refine (spec_l1In.calls ((rd_T77 l0 x9_1).f0) 0 9 false _ A8.out).mono ?_); rintro e w' ⟨rfl, ⟨nd, rfl⟩⟩; refine ⟨_, rfl, ?_⟩))
      go_meet
      case rel => exact ⟨_, (true), (by first | rfl | (simp; done) | (simp [*]; done)), H', ⟨by have := HK1.out; first | omega | exact Nat.le_refl _⟩, ⟨by refine q_ ?_; refine blk_put (cs := #[.int .i64 ((rd_T77 l0 x9_1).f0), .int .i64 ((rd_T77 l0 x9_1).f1), .int .i64 ((rd_T77 l0 x9_1).f2), .bool ((rd_T77 l0 x9_1).f3), .float .f64 0]) ?_ 4 _ rfl; refine q_ ?_; refine blk_put (cs := #[.int .i64 ((rd_T77 l0 x9_1).f0), .int .i64 ((rd_T77 l0 x9_1).f1), .int .i64 ((rd_T77 l0 x9_1).f2), .bool false, .float .f64 0]) ?_ 3 _ rfl; refine q_ ?_; refine blk_put (cs := #[.int .i64 ((rd_T77 l0 x9_1).f0), .int .i64 ((rd_T77 l0 x9_1).f1), .int .i64 0, .bool false, .float .f64 0]) ?_ 2 _ rfl; refine q_ ?_; refine blk_put (cs := #[.int .i64 ((rd_T77 l0 x9_1).f0), .int .i64 0, .int .i64 0, .bool false, .float .f64 0]) ?_ 1 _ rfl; refine q_ ?_; refine blk_put (cs := #[.int .i64 0, .int .i64 0, .int .i64 0, .bool false, .float .f64 0]) ?_ 0 _ rfl; exact q_ BK102.out⟩, ⟨b_⟩⟩
    case rest =>
     clear HC5; (try clear c1); (try clear p1); (try clear q1); (try clear hx1); (try clear c2); (try clear c2b0); (try clear p2); (try clear c3); (try clear c3b0); (try clear c4); (try clear c4b0); (try clear c5); (try clear p6); (try clear c8); (try clear c9); (try clear p10); (try clear q10); (try clear hx10); (try clear c11); (try clear hcz13_0); (try clear hcz13_1); (try clear hcz13_2); (try clear hcz13_3); (try clear hcz13_4); (try clear hcz14_0); (try clear hcz14_1); (try clear hcz14_2); (try clear hcz14_3); (try clear hcz14_4); (try clear hcz15_0); (try clear hcz15_1); (try clear hcz15_2); (try clear hcz15_3); (try clear hcz15_4); (try clear hcz7_0); (try clear hcz7_1); (try clear hcz7_2); (try clear hcz7_3); (try clear hcz7_4); (try clear hfz13_0); (try clear hfz13_1); (try clear hfz13_2); (try clear hfz13_3); (try clear hfz13_4); (try clear hfz14_0); (try clear hfz14_1); (try clear hfz14_2); (try clear hfz14_3); (try clear hfz14_4); (try clear hfz15_0); (try clear hfz15_1); (try clear hfz15_2); (try clear hfz15_3); (try clear hfz15_4); (try clear hfz7_0); (try clear hfz7_1); (try clear hfz7_2); (try clear hfz7_3); (try clear hfz7_4); (try clear hx101_0); (try clear hx101_1); (try clear hx101_2); (try clear hx101_3); (try clear hx101_4); (try clear p101); (try clear q101)
     obtain ⟨kq, x32_4, rfl, HA, HJ4, BK102, HB⟩ := hcut
     cases kq with
     | zero => exact absurd HA.out (by simp [spec_l16Good.j1])
     | succ kj4 =>
      have H := HA.out; clear HA
      simp only [spec_l16Good.j1] at H
      by_cases c16 : x32_4 = true
      ·subst c16
       rw [if_pos rfl] at H
       obtain rfl := Option.some.inj H
       go_wp2
       go_ret
       exact ⟨by first | rfl | (simp [errW_none, errW_some] <;> rfl) | (simp [*, errW_none, errW_some] <;> rfl), b_⟩
      ·replace c16 := Bool.eq_false_iff.mpr c16
       subst c16
       rw [if_neg (show ¬ (false = true) by decide)] at H
       have c17 := it_ H
       rw [if_pos c17] at H
       have c17b0 := eq_true c17
       have c17b1 := decide_eq_true c17
       clear c17
       have c18 := it_ H
       rw [if_pos c18] at H
       have c18b0 := eq_true c18
       have c18b1 := decide_eq_true c18
       clear c18
       obtain ⟨y106, hy106⟩ : ∃ y_ : List (S77), y_ = (l0.take (x9_1 : Int).toNat) := ⟨_, rfl⟩
       replace H : (spec_l16Good.l1 kj4 l0 l0 (l0.length : Int) x9_1 y106 (y106.length : Int) 0 ((rd_T77 l0 x9_1).f0) ((rd_T77 l0 x9_1).f1) ((rd_T77 l0 x9_1).f2) ((rd_T77 l0 x9_1).f3) ((rd_T77 l0 x9_1).f4)) = some r := by first|(rw [hy106]; with_reducible exact H)|(rw [hy106]; exact (Option.bind_some _ _).symm.trans H)|(rw [hy106]; exact H)|exact H
       have Ny106 := a_ hy106; clear hy106
       have H' := a_ H
       clear H
       have q19 : (x9_1 : Int) ≤ ((l0.length : Int) : Int) := od_
       obtain ⟨i019, hi019, _, hsz19, _⟩ := info_parts info77
       have hroom19 : l0.length ≤ c0 := HC0.out
       have hC19 : Kd.C k77 _ (some ad101) l0.length l0 := HR0.out
       have hcut19 := cut_to (P := Try.prog) 28 77 .i64 Try.underlying28 hi019 (some ad101) l0.length c0 x9_1 (od_) q19 hroom19
       have hr19 := Kd.C_take (m := (x9_1 : Int).toNat) hC19 (by omega)
       have hy19 : y106.length = (x9_1 : Int).toNat := (by rw [Ny106.out, List.length_take]; omega)
       rw [← Ny106.out] at hr19
       rw [← hy19] at hcut19
       have HR109 := a_ hr19
       have HC109 := a_ (show y106.length ≤ c0 from by omega)
       clear hr19 hC19 hroom19 hi019 hsz19; have KY19 := a_ hy19; clear hy19; replace q19 := eq_true q19
       go_wp2
       go_loopg [37] kj4 (fun kq v37 w' => ∃ (x37_3 : Int), v37 = .int .i64 x37_3 ∧ Aside0 (spec_l16Good.l1 kq l0 l0 (l0.length : Int) x9_1 y106 (y106.length : Int) x37_3 ((rd_T77 l0 x9_1).f0) ((rd_T77 l0 x9_1).f1) ((rd_T77 l0 x9_1).f2) ((rd_T77 l0 x9_1).f3) ((rd_T77 l0 x9_1).f4) = some r) ∧ Aside0 (kq ≤ kj4) ∧ Aside0 (w'.heap[gb102]? = some (.cells #[.int .i64 ((rd_T77 l0 x9_1).f0), .int .i64 ((rd_T77 l0 x9_1).f1), .int .i64 ((rd_T77 l0 x9_1).f2), .bool ((rd_T77 l0 x9_1).f3), .float .f64 ((rd_T77 l0 x9_1).f4)] 77 (0, 0))) ∧ Aside0 (Below w.heap.size w w'))
       case atStart => exact ⟨(0), (by first | rfl | (simp; done) | (simp [*]; done)), H', ⟨Nat.le_refl _⟩, ⟨by exact q_ BK102.out⟩, ⟨b_⟩⟩
       case round =>
        clear H'
        (try clear c1); (try clear p1); (try clear q1); (try clear hx1); (try clear c2); (try clear c2b0); (try clear p2); (try clear c3); (try clear c3b0); (try clear c4); (try clear c4b0); (try clear c5); (try clear p6); (try clear c8); (try clear c9); (try clear p10); (try clear q10); (try clear hx10); (try clear c11); (try clear c16); (try clear c17); (try clear c17b0); (try clear c17b1); (try clear c18); (try clear c18b0); (try clear c18b1); (try clear q19); (try clear hcz13_0); (try clear hcz13_1); (try clear hcz13_2); (try clear hcz13_3); (try clear hcz13_4); (try clear hcz14_0); (try clear hcz14_1); (try clear hcz14_2); (try clear hcz14_3); (try clear hcz14_4); (try clear hcz15_0); (try clear hcz15_1); (try clear hcz15_2); (try clear hcz15_3); (try clear hcz15_4); (try clear hcz7_0); (try clear hcz7_1); (try clear hcz7_2); (try clear hcz7_3); (try clear hcz7_4); (try clear hfz13_0); (try clear hfz13_1); (try clear hfz13_2); (try clear hfz13_3); (try clear hfz13_4); (try clear hfz14_0); (try clear hfz14_1); (try clear hfz14_2); (try clear hfz14_3); (try clear hfz14_4); (try clear hfz15_0); (try clear hfz15_1); (try clear hfz15_2); (try clear hfz15_3); (try clear hfz15_4); (try clear hfz7_0); (try clear hfz7_1); (try clear hfz7_2); (try clear hfz7_3); (try clear hfz7_4); (try clear hx101_0); (try clear hx101_1); (try clear hx101_2); (try clear hx101_3); (try clear hx101_4); (try clear p1); (try clear p10); (try clear p101); (try clear p2); (try clear p6); (try clear q1); (try clear q10); (try clear q101); (try clear q19)
        obtain ⟨x37_3, rfl, HA, HK3, BK102, HB⟩ := hrel
        cases gk with
        | zero => exact absurd HA.out (by simp [spec_l16Good.l1])
        | succ k3 =>
         have H := HA.out; clear HA
         simp only [spec_l16Good.l1] at H
         by_cases c20 : x37_3 < (y106.length : Int)
         ·rw [if_pos c20] at H
          have c20b0 := decide_eq_true c20
          clear c20
          replace H := ig_ H
          obtain ⟨c21b0, H⟩ := H
          replace H := ig_ H
          obtain ⟨c22b0, H⟩ := H
          by_cases c23 : ((rd_T77 l0 x9_1).f0) = ((rd_T77 y106 x37_3).f0)
          ·rw [if_pos c23] at H
           have c23b0 := beq_iff_eq.mpr c23
           have c23b1 := bne_eq_false_iff_eq.mpr c23
           clear c23
           by_cases c24 : ((rd_T77 l0 x9_1).f2) ≥ ((rd_T77 y106 x37_3).f1)
           ·rw [if_pos c24] at H
            have c24b0 := decide_eq_true c24
            clear c24
            by_cases c25 : ((rd_T77 y106 x37_3).f2) ≥ ((rd_T77 l0 x9_1).f1)
            ·rw [if_pos c25] at H
             have c25b0 := decide_eq_true c25
             clear c25
             obtain rfl := Option.some.inj H
             have p110 : 0 ≤ (x37_3 : Int) := od_
             have q110 : x37_3 < (y106.length : Int) := od_
             obtain ⟨ad110, e110, hx110_0, hx110_1, hx110_2, hx110_3, hx110_4⟩ := at_T77 HR109.out x37_3 p110 q110
             obtain rfl : ad101 = ad110 := (by injection e110)
             try replace hx110_0 := cl_ HB.out hx110_0
             try replace hx110_1 := cl_ HB.out hx110_1
             try replace hx110_2 := cl_ HB.out hx110_2
             try replace hx110_3 := cl_ HB.out hx110_3
             try replace hx110_4 := cl_ HB.out hx110_4
             replace p110 := eq_true p110; replace q110 := eq_true q110
             go_wp2_with (first | ((with_reducible refine gate_dst (N := 6) rfl ?_); refine box_event ?hg (N := 6) ?hd (cs := #[.int .i64 0, .int .i64 0, .int .i64 0, .bool false, .float .f64 0]) (t := 77) ?hr ?_; (case hd => rfl); (case hg => rfl); (case hr => first | (go_simp; done) | (go_simp; rfl)); intro gb111 hg w26 hbox hb; have n0_ := a_ (blk_below (g := gb102) (o := .cells #[.int .i64 ((rd_T77 l0 x9_1).f0), .int .i64 ((rd_T77 l0 x9_1).f1), .int .i64 ((rd_T77 l0 x9_1).f2), .bool ((rd_T77 l0 x9_1).f3), .float .f64 ((rd_T77 l0 x9_1).f4)] 77 (0, 0)) (q_ BK102.out) hb); have n1_ := a_ (below_step b_ hb); have n2_ := a_ (hbox); have n3_ := a_ ((by rw [hg]; exact (below_size b_) : w.heap.size ≤ gb111)); have n4_ := a_ ((by rw [hg]; exact (below_size b_) : w.heap.size ≤ gb111)); have n5_ := a_ ((by rw [hg]; exact Nat.ne_of_lt (blk_lt (g := gb102) (o := .cells #[.int .i64 ((rd_T77 l0 x9_1).f0), .int .i64 ((rd_T77 l0 x9_1).f1), .int .i64 ((rd_T77 l0 x9_1).f2), .bool ((rd_T77 l0 x9_1).f3), .float .f64 ((rd_T77 l0 x9_1).f4)] 77 (0, 0)) (q_ BK102.out)) : gb102 ≠ gb111)); have n6_ := a_ ((by rw [hg]; exact Nat.ne_of_gt (blk_lt (g := gb102) (o := .cells #[.int .i64 ((rd_T77 l0 x9_1).f0), .int .i64 ((rd_T77 l0 x9_1).f1), .int .i64 ((rd_T77 l0 x9_1).f2), .bool ((rd_T77 l0 x9_1).f3), .float .f64 ((rd_T77 l0 x9_1).f4)] 77 (0, 0)) (q_ BK102.out)) : gb111 ≠ gb102)); clear BK102; clear HB; have BK102 := n0_; have HB := n1_; have BK111 := n2_; have GW111 := n3_; have GE111 := n4_; have NB102_111 := n5_; have NB111_102 := n6_; clear n0_ n1_ n2_ n3_ n4_ n5_ n6_; clear hb hbox hg; have hnb27 := NB111_102.out; have hnc27 := NB102_111.out; obtain ⟨hcz28_0, hcz28_1, hcz28_2, hcz28_3, hcz28_4, hfz28_0, hfz28_1, hfz28_2, hfz28_3, hfz28_4⟩ := cz5_ BK111.out; obtain ⟨hcz29_0, hcz29_1, hcz29_2, hcz29_3, hcz29_4, hfz29_0, hfz29_1, hfz29_2, hfz29_3, hfz29_4⟩ := cz5_ BK102.out))
             go_ret
             exact ⟨by first | rfl | (simp [errW_none, errW_some] <;> rfl) | (simp [*, errW_none, errW_some] <;> rfl), b_⟩
            ·rw [if_neg c25] at H
             have c25b0 := decide_eq_false c25
             clear c25
             have H' := a_ H
             clear H
             have p110 : 0 ≤ (x37_3 : Int) := od_
             have q110 : x37_3 < (y106.length : Int) := od_
             obtain ⟨ad110, e110, hx110_0, hx110_1, hx110_2, hx110_3, hx110_4⟩ := at_T77 HR109.out x37_3 p110 q110
             obtain rfl : ad101 = ad110 := (by injection e110)
             try replace hx110_0 := cl_ HB.out hx110_0
             try replace hx110_1 := cl_ HB.out hx110_1
             try replace hx110_2 := cl_ HB.out hx110_2
             try replace hx110_3 := cl_ HB.out hx110_3
             try replace hx110_4 := cl_ HB.out hx110_4
             replace p110 := eq_true p110; replace q110 := eq_true q110
             go_wp2_with (first | ((with_reducible refine gate_dst (N := 6) rfl ?_); refine box_event ?hg (N := 6) ?hd (cs := #[.int .i64 0, .int .i64 0, .int .i64 0, .bool false, .float .f64 0]) (t := 77) ?hr ?_; (case hd => rfl); (case hg => rfl); (case hr => first | (go_simp; done) | (go_simp; rfl)); intro gb111 hg w30 hbox hb; have n0_ := a_ (blk_below (g := gb102) (o := .cells #[.int .i64 ((rd_T77 l0 x9_1).f0), .int .i64 ((rd_T77 l0 x9_1).f1), .int .i64 ((rd_T77 l0 x9_1).f2), .bool ((rd_T77 l0 x9_1).f3), .float .f64 ((rd_T77 l0 x9_1).f4)] 77 (0, 0)) (q_ BK102.out) hb); have n1_ := a_ (below_step b_ hb); have n2_ := a_ (hbox); have n3_ := a_ ((by rw [hg]; exact (below_size b_) : w.heap.size ≤ gb111)); have n4_ := a_ ((by rw [hg]; exact (below_size b_) : w.heap.size ≤ gb111)); have n5_ := a_ ((by rw [hg]; exact Nat.ne_of_lt (blk_lt (g := gb102) (o := .cells #[.int .i64 ((rd_T77 l0 x9_1).f0), .int .i64 ((rd_T77 l0 x9_1).f1), .int .i64 ((rd_T77 l0 x9_1).f2), .bool ((rd_T77 l0 x9_1).f3), .float .f64 ((rd_T77 l0 x9_1).f4)] 77 (0, 0)) (q_ BK102.out)) : gb102 ≠ gb111)); have n6_ := a_ ((by rw [hg]; exact Nat.ne_of_gt (blk_lt (g := gb102) (o := .cells #[.int .i64 ((rd_T77 l0 x9_1).f0), .int .i64 ((rd_T77 l0 x9_1).f1), .int .i64 ((rd_T77 l0 x9_1).f2), .bool ((rd_T77 l0 x9_1).f3), .float .f64 ((rd_T77 l0 x9_1).f4)] 77 (0, 0)) (q_ BK102.out)) : gb111 ≠ gb102)); clear BK102; clear HB; have BK102 := n0_; have HB := n1_; have BK111 := n2_; have GW111 := n3_; have GE111 := n4_; have NB102_111 := n5_; have NB111_102 := n6_; clear n0_ n1_ n2_ n3_ n4_ n5_ n6_; clear hb hbox hg; have hnb31 := NB111_102.out; have hnc31 := NB102_111.out; obtain ⟨hcz32_0, hcz32_1, hcz32_2, hcz32_3, hcz32_4, hfz32_0, hfz32_1, hfz32_2, hfz32_3, hfz32_4⟩ := cz5_ BK111.out; obtain ⟨hcz33_0, hcz33_1, hcz33_2, hcz33_3, hcz33_4, hfz33_0, hfz33_1, hfz33_2, hfz33_3, hfz33_4⟩ := cz5_ BK102.out))
             go_roundg k3
             case measure => have := HK1.out; have := HJ4.out; have := HK3.out; omega
             case rel => exact ⟨(wrap64 (x37_3 + 1)), (by first | rfl | (simp; done) | (simp [*]; done)), H', ⟨by have := HK1.out; have := HJ4.out; have := HK3.out; omega⟩, ⟨by refine q_ ?_; refine blk_far ?_ NB102_111.out _; refine q_ ?_; refine blk_far ?_ NB102_111.out _; refine q_ ?_; refine blk_far ?_ NB102_111.out _; refine q_ ?_; refine blk_far ?_ NB102_111.out _; refine q_ ?_; refine blk_far ?_ NB102_111.out _; exact q_ BK102.out⟩, ⟨b_⟩⟩
           ·rw [if_neg c24] at H
            have c24b0 := decide_eq_false c24
            clear c24
            have H' := a_ H
            clear H
            have p110 : 0 ≤ (x37_3 : Int) := od_
            have q110 : x37_3 < (y106.length : Int) := od_
            obtain ⟨ad110, e110, hx110_0, hx110_1, hx110_2, hx110_3, hx110_4⟩ := at_T77 HR109.out x37_3 p110 q110
            obtain rfl : ad101 = ad110 := (by injection e110)
            try replace hx110_0 := cl_ HB.out hx110_0
            try replace hx110_1 := cl_ HB.out hx110_1
            try replace hx110_2 := cl_ HB.out hx110_2
            try replace hx110_3 := cl_ HB.out hx110_3
            try replace hx110_4 := cl_ HB.out hx110_4
            replace p110 := eq_true p110; replace q110 := eq_true q110
            go_wp2_with (first | ((with_reducible refine gate_dst (N := 6) rfl ?_); refine box_event ?hg (N := 6) ?hd (cs := #[.int .i64 0, .int .i64 0, .int .i64 0, .bool false, .float .f64 0]) (t := 77) ?hr ?_; (case hd => rfl); (case hg => rfl); (case hr => first | (go_simp; done) | (go_simp; rfl)); intro gb111 hg w34 hbox hb; have n0_ := a_ (blk_below (g := gb102) (o := .cells #[.int .i64 ((rd_T77 l0 x9_1).f0), .int .i64 ((rd_T77 l0 x9_1).f1), .int .i64 ((rd_T77 l0 x9_1).f2), .bool ((rd_T77 l0 x9_1).f3), .float .f64 ((rd_T77 l0 x9_1).f4)] 77 (0, 0)) (q_ BK102.out) hb); have n1_ := a_ (below_step b_ hb); have n2_ := a_ (hbox); have n3_ := a_ ((by rw [hg]; exact (below_size b_) : w.heap.size ≤ gb111)); have n4_ := a_ ((by rw [hg]; exact (below_size b_) : w.heap.size ≤ gb111)); have n5_ := a_ ((by rw [hg]; exact Nat.ne_of_lt (blk_lt (g := gb102) (o := .cells #[.int .i64 ((rd_T77 l0 x9_1).f0), .int .i64 ((rd_T77 l0 x9_1).f1), .int .i64 ((rd_T77 l0 x9_1).f2), .bool ((rd_T77 l0 x9_1).f3), .float .f64 ((rd_T77 l0 x9_1).f4)] 77 (0, 0)) (q_ BK102.out)) : gb102 ≠ gb111)); have n6_ := a_ ((by rw [hg]; exact Nat.ne_of_gt (blk_lt (g := gb102) (o := .cells #[.int .i64 ((rd_T77 l0 x9_1).f0), .int .i64 ((rd_T77 l0 x9_1).f1), .int .i64 ((rd_T77 l0 x9_1).f2), .bool ((rd_T77 l0 x9_1).f3), .float .f64 ((rd_T77 l0 x9_1).f4)] 77 (0, 0)) (q_ BK102.out)) : gb111 ≠ gb102)); clear BK102; clear HB; have BK102 := n0_; have HB := n1_; have BK111 := n2_; have GW111 := n3_; have GE111 := n4_; have NB102_111 := n5_; have NB111_102 := n6_; clear n0_ n1_ n2_ n3_ n4_ n5_ n6_; clear hb hbox hg; have hnb35 := NB111_102.out; have hnc35 := NB102_111.out; obtain ⟨hcz36_0, hcz36_1, hcz36_2, hcz36_3, hcz36_4, hfz36_0, hfz36_1, hfz36_2, hfz36_3, hfz36_4⟩ := cz5_ BK111.out; obtain ⟨hcz37_0, hcz37_1, hcz37_2, hcz37_3, hcz37_4, hfz37_0, hfz37_1, hfz37_2, hfz37_3, hfz37_4⟩ := cz5_ BK102.out))
            go_roundg k3
            case measure => have := HK1.out; have := HJ4.out; have := HK3.out; omega
            case rel => exact ⟨(wrap64 (x37_3 + 1)), (by first | rfl | (simp; done) | (simp [*]; done)), H', ⟨by have := HK1.out; have := HJ4.out; have := HK3.out; omega⟩, ⟨by refine q_ ?_; refine blk_far ?_ NB102_111.out _; refine q_ ?_; refine blk_far ?_ NB102_111.out _; refine q_ ?_; refine blk_far ?_ NB102_111.out _; refine q_ ?_; refine blk_far ?_ NB102_111.out _; refine q_ ?_; refine blk_far ?_ NB102_111.out _; exact q_ BK102.out⟩, ⟨b_⟩⟩
          ·rw [if_neg c23] at H
           have c23b0 := beq_eq_false_iff_ne.mpr c23
           have c23b1 := bne_iff_ne.mpr c23
           have H' := a_ H
           clear H
           have p110 : 0 ≤ (x37_3 : Int) := od_
           have q110 : x37_3 < (y106.length : Int) := od_
           obtain ⟨ad110, e110, hx110_0, hx110_1, hx110_2, hx110_3, hx110_4⟩ := at_T77 HR109.out x37_3 p110 q110
           obtain rfl : ad101 = ad110 := (by injection e110)
           try replace hx110_0 := cl_ HB.out hx110_0
           try replace hx110_1 := cl_ HB.out hx110_1
           try replace hx110_2 := cl_ HB.out hx110_2
           try replace hx110_3 := cl_ HB.out hx110_3
           try replace hx110_4 := cl_ HB.out hx110_4
           replace p110 := eq_true p110; replace q110 := eq_true q110
           go_wp2_with (first | ((with_reducible refine gate_dst (N := 6) rfl ?_); refine box_event ?hg (N := 6) ?hd (cs := #[.int .i64 0, .int .i64 0, .int .i64 0, .bool false, .float .f64 0]) (t := 77) ?hr ?_; (case hd => rfl); (case hg => rfl); (case hr => first | (go_simp; done) | (go_simp; rfl)); intro gb111 hg w38 hbox hb; have n0_ := a_ (blk_below (g := gb102) (o := .cells #[.int .i64 ((rd_T77 l0 x9_1).f0), .int .i64 ((rd_T77 l0 x9_1).f1), .int .i64 ((rd_T77 l0 x9_1).f2), .bool ((rd_T77 l0 x9_1).f3), .float .f64 ((rd_T77 l0 x9_1).f4)] 77 (0, 0)) (q_ BK102.out) hb); have n1_ := a_ (below_step b_ hb); have n2_ := a_ (hbox); have n3_ := a_ ((by rw [hg]; exact (below_size b_) : w.heap.size ≤ gb111)); have n4_ := a_ ((by rw [hg]; exact (below_size b_) : w.heap.size ≤ gb111)); have n5_ := a_ ((by rw [hg]; exact Nat.ne_of_lt (blk_lt (g := gb102) (o := .cells #[.int .i64 ((rd_T77 l0 x9_1).f0), .int .i64 ((rd_T77 l0 x9_1).f1), .int .i64 ((rd_T77 l0 x9_1).f2), .bool ((rd_T77 l0 x9_1).f3), .float .f64 ((rd_T77 l0 x9_1).f4)] 77 (0, 0)) (q_ BK102.out)) : gb102 ≠ gb111)); have n6_ := a_ ((by rw [hg]; exact Nat.ne_of_gt (blk_lt (g := gb102) (o := .cells #[.int .i64 ((rd_T77 l0 x9_1).f0), .int .i64 ((rd_T77 l0 x9_1).f1), .int .i64 ((rd_T77 l0 x9_1).f2), .bool ((rd_T77 l0 x9_1).f3), .float .f64 ((rd_T77 l0 x9_1).f4)] 77 (0, 0)) (q_ BK102.out)) : gb111 ≠ gb102)); clear BK102; clear HB; have BK102 := n0_; have HB := n1_; have BK111 := n2_; have GW111 := n3_; have GE111 := n4_; have NB102_111 := n5_; have NB111_102 := n6_; clear n0_ n1_ n2_ n3_ n4_ n5_ n6_; clear hb hbox hg; have hnb39 := NB111_102.out; have hnc39 := NB102_111.out; obtain ⟨hcz40_0, hcz40_1, hcz40_2, hcz40_3, hcz40_4, hfz40_0, hfz40_1, hfz40_2, hfz40_3, hfz40_4⟩ := cz5_ BK111.out; obtain ⟨hcz41_0, hcz41_1, hcz41_2, hcz41_3, hcz41_4, hfz41_0, hfz41_1, hfz41_2, hfz41_3, hfz41_4⟩ := cz5_ BK102.out))
           go_roundg k3
           case measure => have := HK1.out; have := HJ4.out; have := HK3.out; omega
           case rel => exact ⟨(wrap64 (x37_3 + 1)), (by first | rfl | (simp; done) | (simp [*]; done)), H', ⟨by have := HK1.out; have := HJ4.out; have := HK3.out; omega⟩, ⟨by refine q_ ?_; refine blk_far ?_ NB102_111.out _; refine q_ ?_; refine blk_far ?_ NB102_111.out _; refine q_ ?_; refine blk_far ?_ NB102_111.out _; refine q_ ?_; refine blk_far ?_ NB102_111.out _; refine q_ ?_; refine blk_far ?_ NB102_111.out _; exact q_ BK102.out⟩, ⟨b_⟩⟩
         ·rw [if_neg c20] at H
          have c20b0 := decide_eq_false c20
          clear c20
          have H' := a_ H
          clear H
          go_wp2
          go_roundg k3
          case measure => have := HK1.out; have := HJ4.out; have := HK3.out; omega
          case rel => exact ⟨(wrap64 (x9_1 + 1)), (by first | rfl | (simp; done) | (simp [*]; done)), H', ⟨by have := HK1.out; have := HJ4.out; have := HK3.out; omega⟩, ⟨b_⟩⟩
   ·rw [if_neg c2] at H
    have c2b0 := decide_eq_false c2
    clear c2
    obtain rfl := Option.some.inj H
    go_wp2
    go_ret
    exact ⟨by first | rfl | (simp [errW_none, errW_some] <;> rfl) | (simp [*, errW_none, errW_some] <;> rfl), b_⟩

/-! ### spec_l1All: function 102 -/
def spec_l1All.l0 : Nat → Int → Int → List Int → Int → Int → Option (Bool)
 | 0, _, _, _, _, _ => none
 | k + 1, x1, x2, x9, x10, x11 => if x11 < x10 then (if 0 ≤ x11 then (if x11 < (x9.length : Int) then ((spec_l1In.f (rd x9 x11) x1 x2).bind fun t113 => (if t113 = true then (spec_l1All.l0 k x1 x2 x9 x10 (wrap64 (x11 + 1))) else (some false))) else (none)) else (none)) else (some true)
def spec_l1All.f (k : Nat) (l0 : List Int) (a1 : Int) (a2 : Int) : Option (Bool) := spec_l1All.l0 k a1 a2 l0 (l0.length : Int) 0
set_option maxHeartbeats 8000000 in
set_option maxRecDepth 100000 in
theorem spec_l1All.calls (k : Nat) (A0 : Option Addr) (c0 : Nat) (l0 : List Int) (a1 : Int) (a2 : Int) (r : Bool) (w : World) (hr0 : Kd.C (Kd.int .i64) w A0 l0.length l0) (hc0 : l0.length ≤ c0) (h : spec_l1All.f k l0 a1 a2 = some r) :
  Calls Try.prog 102 #[.slice A0 l0.length c0, .int .i64 a1, .int .i64 a2] w fun e w' => e = .returned (.bool r) ∧ Drawn0 w w' := by
 have HR0 := a_ hr0
 have HC0 := a_ hc0
 clear hr0 hc0
 have H : (spec_l1All.l0 k a1 a2 l0 (l0.length : Int) 0) = some r := h
 clear h
 have H' := a_ H
 clear H
 go_enter Try.func102, Try.ntmps102
 go_wp2
 go_loopg [11] k (fun kq v11 w' => ∃ (x11_1 : Int), v11 = .int .i64 x11_1 ∧ Aside0 (spec_l1All.l0 kq a1 a2 l0 (l0.length : Int) x11_1 = some r) ∧ Aside0 (kq ≤ k) ∧ Drawn0 w w')
 case atStart => exact ⟨(0), (by first | rfl | (simp; done) | (simp [*]; done)), H', ⟨Nat.le_refl _⟩, by repeat (first | exact Drawn0.refl _ | apply Drawn0.step)⟩
 case round =>
  clear H'
  (try clear c1); (try clear p2)
  obtain ⟨x11_1, rfl, HA, HK1, ⟨m1, rfl⟩⟩ := hrel
  cases gk with
  | zero => exact absurd HA.out (by simp [spec_l1All.l0])
  | succ k1 =>
   have H := HA.out; clear HA
   simp only [spec_l1All.l0] at H
   by_cases c4 : x11_1 < (l0.length : Int)
   ·rw [if_pos c4] at H
    have c4b0 := decide_eq_true c4
    clear c4
    replace H := ig_ H
    obtain ⟨c5b0, H⟩ := H
    replace H := ig_ H
    obtain ⟨c6b0, H⟩ := H
    replace H := Option.bind_eq_some_iff.mp H
    obtain ⟨t113, A70, H⟩ := H
    try dsimp only at H
    have A7 := a_ A70; clear A70
    by_cases c8 : t113 = true
    ·subst c8
     rw [if_pos rfl] at H
     have H' := a_ H
     clear H
     have p112 : 0 ≤ (x11_1 : Int) := od_
     have q112 : x11_1 < (l0.length : Int) := od_
     obtain ⟨ad112, e112, hx112_0⟩ := Kd.at_int HR0.out x11_1 p112 q112
     cases e112
     replace p112 := eq_true p112; replace q112 := eq_true q112
     go_wp2_with (first | ((with_reducible refine gate_callee (f := 82) rfl ?_); refine goesL_ (some 18) rfl rfl Try.func82 (by kernel_rfl) rfl #[.int .i64 (rd l0 x11_1), .int .i64 a1, .int .i64 a2] rfl la_ ?_; (with_reducible refine (spec_l1In.calls (rd l0 x11_1) a1 a2 true _ A7.out).mono ?_); rintro e w' ⟨rfl, ⟨nd, rfl⟩⟩; refine ⟨_, rfl, ?_⟩))
     go_roundg k1
     case measure => have := HK1.out; omega
     case rel => exact ⟨(wrap64 (x11_1 + 1)), (by first | rfl | (simp; done) | (simp [*]; done)), H', ⟨by have := HK1.out; omega⟩, by repeat (first | exact Drawn0.refl _ | apply Drawn0.step)⟩
    ·replace c8 := Bool.eq_false_iff.mpr c8
     subst c8
     rw [if_neg (show ¬ (false = true) by decide)] at H
     obtain rfl := Option.some.inj H
     have p112 : 0 ≤ (x11_1 : Int) := od_
     have q112 : x11_1 < (l0.length : Int) := od_
     obtain ⟨ad112, e112, hx112_0⟩ := Kd.at_int HR0.out x11_1 p112 q112
     cases e112
     replace p112 := eq_true p112; replace q112 := eq_true q112
     go_wp2_with (first | ((with_reducible refine gate_callee (f := 82) rfl ?_); refine goesL_ (some 18) rfl rfl Try.func82 (by kernel_rfl) rfl #[.int .i64 (rd l0 x11_1), .int .i64 a1, .int .i64 a2] rfl la_ ?_; (with_reducible refine (spec_l1In.calls (rd l0 x11_1) a1 a2 false _ A7.out).mono ?_); rintro e w' ⟨rfl, ⟨nd, rfl⟩⟩; refine ⟨_, rfl, ?_⟩))
     go_ret
     exact ⟨by first | rfl | (simp; done) | (simp [*]; done), by repeat (first | exact Drawn0.refl _ | apply Drawn0.step)⟩
   ·rw [if_neg c4] at H
    have c4b0 := decide_eq_false c4
    clear c4
    obtain rfl := Option.some.inj H
    go_wp2
    go_ret
    exact ⟨by first | rfl | (simp; done) | (simp [*]; done), by repeat (first | exact Drawn0.refl _ | apply Drawn0.step)⟩

/-! ### spec_l1Has: function 103 -/
def spec_l1Has.l0 : Nat → Int → List Int → Int → Int → Option (Bool)
 | 0, _, _, _, _ => none
 | k + 1, x1, x7, x8, x9 => if x9 < x8 then (if 0 ≤ x9 then (if x9 < (x7.length : Int) then (if (rd x7 x9) = x1 then (some true) else (spec_l1Has.l0 k x1 x7 x8 (wrap64 (x9 + 1)))) else (none)) else (none)) else (some false)
def spec_l1Has.f (k : Nat) (l0 : List Int) (a1 : Int) : Option (Bool) := spec_l1Has.l0 k a1 l0 (l0.length : Int) 0
set_option maxHeartbeats 8000000 in
set_option maxRecDepth 100000 in
theorem spec_l1Has.calls (k : Nat) (A0 : Option Addr) (c0 : Nat) (l0 : List Int) (a1 : Int) (r : Bool) (w : World) (hr0 : Kd.C (Kd.int .i64) w A0 l0.length l0) (hc0 : l0.length ≤ c0) (h : spec_l1Has.f k l0 a1 = some r) :
  Calls Try.prog 103 #[.slice A0 l0.length c0, .int .i64 a1] w fun e w' => e = .returned (.bool r) ∧ Drawn0 w w' := by
 have HR0 := a_ hr0
 have HC0 := a_ hc0
 clear hr0 hc0
 have H : (spec_l1Has.l0 k a1 l0 (l0.length : Int) 0) = some r := h
 clear h
 have H' := a_ H
 clear H
 go_enter Try.func103, Try.ntmps103
 go_wp2
 go_loopg [9] k (fun kq v9 w' => ∃ (x9_1 : Int), v9 = .int .i64 x9_1 ∧ Aside0 (spec_l1Has.l0 kq a1 l0 (l0.length : Int) x9_1 = some r) ∧ Aside0 (kq ≤ k) ∧ Drawn0 w w')
 case atStart => exact ⟨(0), (by first | rfl | (simp; done) | (simp [*]; done)), H', ⟨Nat.le_refl _⟩, by repeat (first | exact Drawn0.refl _ | apply Drawn0.step)⟩
 case round =>
  clear H'
  (try clear c1); (try clear p2)
  obtain ⟨x9_1, rfl, HA, HK1, ⟨m1, rfl⟩⟩ := hrel
  cases gk with
  | zero => exact absurd HA.out (by simp [spec_l1Has.l0])
  | succ k1 =>
   have H := HA.out; clear HA
   simp only [spec_l1Has.l0] at H
   by_cases c3 : x9_1 < (l0.length : Int)
   ·rw [if_pos c3] at H
    have c3b0 := decide_eq_true c3
    clear c3
    replace H := ig_ H
    obtain ⟨c4b0, H⟩ := H
    replace H := ig_ H
    obtain ⟨c5b0, H⟩ := H
    by_cases c6 : (rd l0 x9_1) = a1
    ·rw [if_pos c6] at H
     have c6b0 := beq_iff_eq.mpr c6
     have c6b1 := bne_eq_false_iff_eq.mpr c6
     clear c6
     obtain rfl := Option.some.inj H
     have p114 : 0 ≤ (x9_1 : Int) := od_
     have q114 : x9_1 < (l0.length : Int) := od_
     obtain ⟨ad114, e114, hx114_0⟩ := Kd.at_int HR0.out x9_1 p114 q114
     cases e114
     replace p114 := eq_true p114; replace q114 := eq_true q114
     go_wp2
     go_ret
     exact ⟨by first | rfl | (simp; done) | (simp [*]; done), by repeat (first | exact Drawn0.refl _ | apply Drawn0.step)⟩
    ·rw [if_neg c6] at H
     have c6b0 := beq_eq_false_iff_ne.mpr c6
     have c6b1 := bne_iff_ne.mpr c6
     have H' := a_ H
     clear H
     have p114 : 0 ≤ (x9_1 : Int) := od_
     have q114 : x9_1 < (l0.length : Int) := od_
     obtain ⟨ad114, e114, hx114_0⟩ := Kd.at_int HR0.out x9_1 p114 q114
     cases e114
     replace p114 := eq_true p114; replace q114 := eq_true q114
     go_wp2
     go_roundg k1
     case measure => have := HK1.out; omega
     case rel => exact ⟨(wrap64 (x9_1 + 1)), (by first | rfl | (simp; done) | (simp [*]; done)), H', ⟨by have := HK1.out; omega⟩, by repeat (first | exact Drawn0.refl _ | apply Drawn0.step)⟩
   ·rw [if_neg c3] at H
    have c3b0 := decide_eq_false c3
    clear c3
    obtain rfl := Option.some.inj H
    go_wp2
    go_ret
    exact ⟨by first | rfl | (simp; done) | (simp [*]; done), by repeat (first | exact Drawn0.refl _ | apply Drawn0.step)⟩

end Go.Proofs.Ythdpiceiemkjlaa.GFnOneOrder

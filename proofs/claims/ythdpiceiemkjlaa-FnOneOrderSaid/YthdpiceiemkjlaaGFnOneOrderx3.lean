-- Printed by wip/tools/print2.py out of the translation: walks and plain functions; Lean checks them.
import Derived.Test.YthdpiceiemkjlaaGFnOneOrderx0
import Derived.Test.YthdpiceiemkjlaaGFnOneOrderx2
namespace Go.Proofs.Ythdpiceiemkjlaa.GFnOneOrder
open Go.RowKit Go.Proofs.YthdpiceiemkjlaaW.PrintWords Go.Proofs.YthdpiceiemkjlaaW.PrintLast Go.Proofs.YthdpiceiemkjlaaW.PrintMore
attribute [local go_sem] max2_int min2_int max_two min_two max_three min_three max_four min_four   -- for this text's walks alone
set_option linter.unusedVariables false
set_option linter.unusedSimpArgs false

/-! ### impl_GoodHistory: function 31 -/
mutual
def impl_GoodHistory.l0 : Nat → List (S77) → List (S77) → Int → Int → Option (Bool)
 | 0, _, _, _, _ => none
 | k + 1, x0, x7, x8, x9 => if x9 < x8 then (if 0 ≤ x9 then (if x9 < (x7.length : Int) then ((impl_in.f ((rd_T77 x7 x9).f0) 0 9).bind fun t149 => (if t149 = true then (if ((rd_T77 x7 x9).f1) < 0 then (impl_GoodHistory.j1 k x0 x9 x7 x8 x9 true ((rd_T77 x7 x9).f0) ((rd_T77 x7 x9).f1) ((rd_T77 x7 x9).f2) ((rd_T77 x7 x9).f3) ((rd_T77 x7 x9).f4)) else (if ((rd_T77 x7 x9).f1) ≥ ((rd_T77 x7 x9).f2) then (impl_GoodHistory.j1 k x0 x9 x7 x8 x9 true ((rd_T77 x7 x9).f0) ((rd_T77 x7 x9).f1) ((rd_T77 x7 x9).f2) ((rd_T77 x7 x9).f3) ((rd_T77 x7 x9).f4)) else (impl_GoodHistory.j1 k x0 x9 x7 x8 x9 (decide (((rd_T77 x7 x9).f2) > 999)) ((rd_T77 x7 x9).f0) ((rd_T77 x7 x9).f1) ((rd_T77 x7 x9).f2) ((rd_T77 x7 x9).f3) ((rd_T77 x7 x9).f4)))) else (impl_GoodHistory.j1 k x0 x9 x7 x8 x9 true ((rd_T77 x7 x9).f0) ((rd_T77 x7 x9).f1) ((rd_T77 x7 x9).f2) ((rd_T77 x7 x9).f3) ((rd_T77 x7 x9).f4)))) else (none)) else (none)) else (some (decide ((x0.length : Int) ≤ 8)))
def impl_GoodHistory.j1 : Nat → List (S77) → Int → List (S77) → Int → Int → Bool → Int → Int → Int → Bool → Nat → Option (Bool)
 | 0, _, _, _, _, _, _, _, _, _, _, _ => none
 | k + 1, x0, x3, x7, x8, x9, x34, x149000, x149001, x149002, x149003, x149004 => if x34 = true then (some false) else (if 0 ≤ x3 then (if x3 ≤ (x0.length : Int) then ((some (x0.take (x3 : Int).toNat : List (S77))).bind fun y150 => (impl_GoodHistory.l1 k x0 x7 x8 x9 y150 (y150.length : Int) 0 x149000 x149001 x149002 x149003 x149004)) else (none)) else (none))
def impl_GoodHistory.l1 : Nat → List (S77) → List (S77) → Int → Int → List (S77) → Int → Int → Int → Int → Int → Bool → Nat → Option (Bool)
 | 0, _, _, _, _, _, _, _, _, _, _, _, _ => none
 | k + 1, x0, x7, x8, x9, x37, x38, x39, x149000, x149001, x149002, x149003, x149004 => if x39 < x38 then (if 0 ≤ x39 then (if x39 < (x37.length : Int) then (if ((rd_T77 x37 x39).f0) = x149000 then (if ((rd_T77 x37 x39).f2) ≥ x149001 then (if x149002 ≥ ((rd_T77 x37 x39).f1) then (some false) else (impl_GoodHistory.l1 k x0 x7 x8 x9 x37 x38 (wrap64 (x39 + 1)) x149000 x149001 x149002 x149003 x149004)) else (impl_GoodHistory.l1 k x0 x7 x8 x9 x37 x38 (wrap64 (x39 + 1)) x149000 x149001 x149002 x149003 x149004)) else (impl_GoodHistory.l1 k x0 x7 x8 x9 x37 x38 (wrap64 (x39 + 1)) x149000 x149001 x149002 x149003 x149004)) else (none)) else (none)) else (impl_GoodHistory.l0 k x0 x7 x8 (wrap64 (x9 + 1)))
end
def impl_GoodHistory.f (k : Nat) (l0 : List (S77)) : Option (Bool) := impl_GoodHistory.l0 k l0 l0 (l0.length : Int) 0
set_option maxHeartbeats 8000000 in
set_option maxRecDepth 100000 in
theorem impl_GoodHistory.calls (k : Nat) (A0 : Option Addr) (c0 : Nat) (l0 : List (S77)) (r : Bool) (w : World) (hr0 : Kd.C k77 w A0 l0.length l0) (hc0 : l0.length ≤ c0) (h : impl_GoodHistory.f k l0 = some r) :
  Calls Try.prog 31 #[.slice A0 l0.length c0] w fun e w' => e = .returned (.bool r) ∧ Below w.heap.size w w' := by
 have hu77 := Try.underlying77
 have HR0 := a_ hr0
 have HC0 := a_ hc0
 clear hr0 hc0
 have HB := a_ (Below.refl w.heap.size w)
 have H : (impl_GoodHistory.l0 k l0 l0 (l0.length : Int) 0) = some r := h
 clear h
 have H' := a_ H
 clear H
 go_enter Try.func31, Try.ntmps31
 go_wp2
 go_loopg [9] k (fun kq v9 w' => ∃ (x9_1 : Int), v9 = .int .i64 x9_1 ∧ Aside0 (impl_GoodHistory.l0 kq l0 l0 (l0.length : Int) x9_1 = some r) ∧ Aside0 (kq ≤ k) ∧ Aside0 (Below w.heap.size w w'))
 case atStart => exact ⟨(0), (by first | rfl | (simp; done) | (simp [*]; done)), H', ⟨Nat.le_refl _⟩, ⟨b_⟩⟩
 case round =>
  clear H'
  obtain ⟨x9_1, rfl, HA, HK1, HB⟩ := hrel
  cases gk with
  | zero => exact absurd HA.out (by simp [impl_GoodHistory.l0])
  | succ k1 =>
   have H := HA.out; clear HA
   simp only [impl_GoodHistory.l0] at H
   by_cases c2 : x9_1 < (l0.length : Int)
   ·rw [if_pos c2] at H
    have c2b0 := decide_eq_true c2
    clear c2
    replace H := ig_ H
    obtain ⟨c3b0, H⟩ := H
    replace H := ig_ H
    obtain ⟨c4b0, H⟩ := H
    have HC5 := a_ H; clear H
    have p147 : 0 ≤ (x9_1 : Int) := od_
    have q147 : x9_1 < (l0.length : Int) := od_
    obtain ⟨ad147, e147, hx147_0, hx147_1, hx147_2, hx147_3, hx147_4⟩ := at_T77 HR0.out x9_1 p147 q147
    cases e147
    try replace hx147_0 := cl_ HB.out hx147_0
    try replace hx147_1 := cl_ HB.out hx147_1
    try replace hx147_2 := cl_ HB.out hx147_2
    try replace hx147_3 := cl_ HB.out hx147_3
    try replace hx147_4 := cl_ HB.out hx147_4
    replace p147 := eq_true p147; replace q147 := eq_true q147
    go_upto_region 4 with (first | ((with_reducible refine gate_dst (N := 4) rfl ?_); refine box_event ?hg (N := 4) ?hd (cs := #[.int .i64 0, .int .i64 0, .int .i64 0, .bool false, .float .f64 0]) (t := 77) ?hr ?_; (case hd => rfl); (case hg => rfl); (case hr => first | (go_simp; done) | (go_simp; rfl)); intro gb148 hg w6 hbox hb; have n0_ := a_ (below_step b_ hb); have n1_ := a_ (hbox); have n2_ := a_ ((by rw [hg]; exact (below_size b_) : w.heap.size ≤ gb148)); have n3_ := a_ ((by rw [hg]; exact (below_size b_) : w.heap.size ≤ gb148)); clear HB; have HB := n0_; have BK148 := n1_; have GW148 := n2_; have GE148 := n3_; clear n0_ n1_ n2_ n3_; clear hb hbox hg; obtain ⟨hcz7_0, hcz7_1, hcz7_2, hcz7_3, hcz7_4, hfz7_0, hfz7_1, hfz7_2, hfz7_3, hfz7_4⟩ := cz5_ BK148.out))
    (try simp only [Act.put, List.setIfInBounds_toArray, List.set_cons_zero, List.set_cons_succ])
    go_cut [34] (fun v34 wc => ∃ (kq : Nat) (x34_4 : Bool), v34 = .bool x34_4 ∧ Aside0 (impl_GoodHistory.j1 kq l0 x9_1 l0 (l0.length : Int) x9_1 x34_4 ((rd_T77 l0 x9_1).f0) ((rd_T77 l0 x9_1).f1) ((rd_T77 l0 x9_1).f2) ((rd_T77 l0 x9_1).f3) ((rd_T77 l0 x9_1).f4) = some r) ∧ Aside0 (kq ≤ k1) ∧ Aside0 (wc.heap[gb148]? = some (.cells #[.int .i64 ((rd_T77 l0 x9_1).f0), .int .i64 ((rd_T77 l0 x9_1).f1), .int .i64 ((rd_T77 l0 x9_1).f2), .bool ((rd_T77 l0 x9_1).f3), .float .f64 ((rd_T77 l0 x9_1).f4)] 77 (0, 0))) ∧ Aside0 (Below w.heap.size w wc))
    case first =>
     have H := HC5.out; clear HC5
     replace H := Option.bind_eq_some_iff.mp H
     obtain ⟨t149, A80, H⟩ := H
     try dsimp only at H
     have A8 := a_ A80; clear A80
     by_cases c9 : t149 = true
     ·subst c9
      rw [if_pos rfl] at H
      by_cases c10 : ((rd_T77 l0 x9_1).f1) < 0
      ·rw [if_pos c10] at H
       have c10b0 := decide_eq_true c10
       clear c10
       (first | rw [c10b0] | (simp only [i64_w, i32_w]; rw [c10b0]) | skip)
       have H' := a_ H
       clear H
       obtain ⟨hcz11_0, hcz11_1, hcz11_2, hcz11_3, hcz11_4, hfz11_0, hfz11_1, hfz11_2, hfz11_3, hfz11_4⟩ := cz5_ BK148.out
       go_wp2_with (first | ((with_reducible refine gate_callee (f := 78) rfl ?_); refine goesL_ (some 16) rfl rfl Try.func78 (by kernel_rfl) rfl #[.int .i64 ((rd_T77 l0 x9_1).f0), .int .i64 0, .int .i64 9] rfl la_ ?_; (with_reducible refine (impl_in.calls ((rd_T77 l0 x9_1).f0) 0 9 true _ A8.out).mono ?_); rintro e w' ⟨rfl, ⟨nd, rfl⟩⟩; refine ⟨_, rfl, ?_⟩))
       go_meet
       case rel => exact ⟨_, (true), (by first | rfl | (simp; done) | (simp [*]; done)), H', ⟨by have := HK1.out; first | omega | exact Nat.le_refl _⟩, ⟨by refine q_ ?_; refine blk_put (cs := #[.int .i64 ((rd_T77 l0 x9_1).f0), .int .i64 ((rd_T77 l0 x9_1).f1), .int .i64 ((rd_T77 l0 x9_1).f2), .bool ((rd_T77 l0 x9_1).f3), .float .f64 0]) ?_ 4 _ rfl; refine q_ ?_; refine blk_put (cs := #[.int .i64 ((rd_T77 l0 x9_1).f0), .int .i64 ((rd_T77 l0 x9_1).f1), .int .i64 ((rd_T77 l0 x9_1).f2), .bool false, .float .f64 0]) ?_ 3 _ rfl; refine q_ ?_; refine blk_put (cs := #[.int .i64 ((rd_T77 l0 x9_1).f0), .int .i64 ((rd_T77 l0 x9_1).f1), .int .i64 0, .bool false, .float .f64 0]) ?_ 2 _ rfl; refine q_ ?_; refine blk_put (cs := #[.int .i64 ((rd_T77 l0 x9_1).f0), .int .i64 0, .int .i64 0, .bool false, .float .f64 0]) ?_ 1 _ rfl; refine q_ ?_; refine blk_put (cs := #[.int .i64 0, .int .i64 0, .int .i64 0, .bool false, .float .f64 0]) ?_ 0 _ rfl; exact q_ BK148.out⟩, ⟨b_⟩⟩
      ·rw [if_neg c10] at H
       have c10b0 := decide_eq_false c10
       clear c10
       (first | rw [c10b0] | (simp only [i64_w, i32_w]; rw [c10b0]) | skip)
       by_cases c12 : ((rd_T77 l0 x9_1).f1) ≥ ((rd_T77 l0 x9_1).f2)
       ·rw [if_pos c12] at H
        have c12b0 := decide_eq_true c12
        clear c12
        have H' := a_ H
        clear H
        obtain ⟨hcz13_0, hcz13_1, hcz13_2, hcz13_3, hcz13_4, hfz13_0, hfz13_1, hfz13_2, hfz13_3, hfz13_4⟩ := cz5_ BK148.out
        go_wp2_with (first | ((with_reducible refine gate_callee (f := 78) rfl ?_); refine goesL_ (some 16) rfl rfl Try.func78 (by kernel_rfl) rfl #[.int .i64 ((rd_T77 l0 x9_1).f0), .int .i64 0, .int .i64 9] rfl la_ ?_; (with_reducible refine (impl_in.calls ((rd_T77 l0 x9_1).f0) 0 9 true _ A8.out).mono ?_); rintro e w' ⟨rfl, ⟨nd, rfl⟩⟩; refine ⟨_, rfl, ?_⟩))
        go_meet
        case rel => exact ⟨_, (true), (by first | rfl | (simp; done) | (simp [*]; done)), H', ⟨by have := HK1.out; first | omega | exact Nat.le_refl _⟩, ⟨by refine q_ ?_; refine blk_put (cs := #[.int .i64 ((rd_T77 l0 x9_1).f0), .int .i64 ((rd_T77 l0 x9_1).f1), .int .i64 ((rd_T77 l0 x9_1).f2), .bool ((rd_T77 l0 x9_1).f3), .float .f64 0]) ?_ 4 _ rfl; refine q_ ?_; refine blk_put (cs := #[.int .i64 ((rd_T77 l0 x9_1).f0), .int .i64 ((rd_T77 l0 x9_1).f1), .int .i64 ((rd_T77 l0 x9_1).f2), .bool false, .float .f64 0]) ?_ 3 _ rfl; refine q_ ?_; refine blk_put (cs := #[.int .i64 ((rd_T77 l0 x9_1).f0), .int .i64 ((rd_T77 l0 x9_1).f1), .int .i64 0, .bool false, .float .f64 0]) ?_ 2 _ rfl; refine q_ ?_; refine blk_put (cs := #[.int .i64 ((rd_T77 l0 x9_1).f0), .int .i64 0, .int .i64 0, .bool false, .float .f64 0]) ?_ 1 _ rfl; refine q_ ?_; refine blk_put (cs := #[.int .i64 0, .int .i64 0, .int .i64 0, .bool false, .float .f64 0]) ?_ 0 _ rfl; exact q_ BK148.out⟩, ⟨b_⟩⟩
       ·rw [if_neg c12] at H
        have c12b0 := decide_eq_false c12
        clear c12
        have H' := a_ H
        clear H
        obtain ⟨hcz14_0, hcz14_1, hcz14_2, hcz14_3, hcz14_4, hfz14_0, hfz14_1, hfz14_2, hfz14_3, hfz14_4⟩ := cz5_ BK148.out
        go_wp2_with (first | ((with_reducible refine gate_callee (f := 78) rfl ?_); refine goesL_ (some 16) rfl rfl Try.func78 (by kernel_rfl) rfl #[.int .i64 ((rd_T77 l0 x9_1).f0), .int .i64 0, .int .i64 9] rfl la_ ?_; (with_reducible refine (impl_in.calls ((rd_T77 l0 x9_1).f0) 0 9 true _ A8.out).mono ?_); rintro e w' ⟨rfl, ⟨nd, rfl⟩⟩; refine ⟨_, rfl, ?_⟩))
        go_meet
        case rel => exact ⟨_, (decide (((rd_T77 l0 x9_1).f2) > 999)), (by first | rfl | (simp; done) | (simp [*]; done)), H', ⟨by have := HK1.out; first | omega | exact Nat.le_refl _⟩, ⟨by refine q_ ?_; refine blk_put (cs := #[.int .i64 ((rd_T77 l0 x9_1).f0), .int .i64 ((rd_T77 l0 x9_1).f1), .int .i64 ((rd_T77 l0 x9_1).f2), .bool ((rd_T77 l0 x9_1).f3), .float .f64 0]) ?_ 4 _ rfl; refine q_ ?_; refine blk_put (cs := #[.int .i64 ((rd_T77 l0 x9_1).f0), .int .i64 ((rd_T77 l0 x9_1).f1), .int .i64 ((rd_T77 l0 x9_1).f2), .bool false, .float .f64 0]) ?_ 3 _ rfl; refine q_ ?_; refine blk_put (cs := #[.int .i64 ((rd_T77 l0 x9_1).f0), .int .i64 ((rd_T77 l0 x9_1).f1), .int .i64 0, .bool false, .float .f64 0]) ?_ 2 _ rfl; refine q_ ?_; refine blk_put (cs := #[.int .i64 ((rd_T77 l0 x9_1).f0), .int .i64 0, .int .i64 0, .bool false, .float .f64 0]) ?_ 1 _ rfl; refine q_ ?_; refine blk_put (cs := #[.int .i64 0, .int .i64 0, .int .i64 0, .bool false, .float .f64 0]) ?_ 0 _ rfl; exact q_ BK148.out⟩, ⟨b_⟩⟩
     ·replace c9 := Bool.eq_false_iff.mpr c9
      subst c9
      rw [if_neg (show ¬ (false = true) by decide)] at H
      have H' := a_ H
      clear H
      obtain ⟨hcz15_0, hcz15_1, hcz15_2, hcz15_3, hcz15_4, hfz15_0, hfz15_1, hfz15_2, hfz15_3, hfz15_4⟩ := cz5_ BK148.out
      go_wp2_with (first | ((with_reducible refine gate_callee (f := 78) rfl ?_); refine goesL_ (some 16) rfl rfl Try.func78 (by kernel_rfl) rfl #[.int .i64 ((rd_T77 l0 x9_1).f0), .int .i64 0, .int .i64 9] rfl la_ ?_; (with_reducible refine (impl_in.calls ((rd_T77 l0 x9_1).f0) 0 9 false _ A8.out).mono ?_); rintro e w' ⟨rfl, ⟨nd, rfl⟩⟩; refine ⟨_, rfl, ?_⟩))
      go_meet
      case rel => exact ⟨_, (true), (by first | rfl | (simp; done) | (simp [*]; done)), H', ⟨by have := HK1.out; first | omega | exact Nat.le_refl _⟩, ⟨by refine q_ ?_; refine blk_put (cs := #[.int .i64 ((rd_T77 l0 x9_1).f0), .int .i64 ((rd_T77 l0 x9_1).f1), .int .i64 ((rd_T77 l0 x9_1).f2), .bool ((rd_T77 l0 x9_1).f3), .float .f64 0]) ?_ 4 _ rfl; refine q_ ?_; refine blk_put (cs := #[.int .i64 ((rd_T77 l0 x9_1).f0), .int .i64 ((rd_T77 l0 x9_1).f1), .int .i64 ((rd_T77 l0 x9_1).f2), .bool false, .float .f64 0]) ?_ 3 _ rfl; refine q_ ?_; refine blk_put (cs := #[.int .i64 ((rd_T77 l0 x9_1).f0), .int .i64 ((rd_T77 l0 x9_1).f1), .int .i64 0, .bool false, .float .f64 0]) ?_ 2 _ rfl; refine q_ ?_; refine blk_put (cs := #[.int .i64 ((rd_T77 l0 x9_1).f0), .int .i64 0, .int .i64 0, .bool false, .float .f64 0]) ?_ 1 _ rfl; refine q_ ?_; refine blk_put (cs := #[.int .i64 0, .int .i64 0, .int .i64 0, .bool false, .float .f64 0]) ?_ 0 _ rfl; exact q_ BK148.out⟩, ⟨b_⟩⟩
    case rest =>
     clear HC5; (try clear c1); (try clear p1); (try clear q1); (try clear hx1); (try clear c2); (try clear c2b0); (try clear p2); (try clear c3); (try clear c3b0); (try clear c4); (try clear c4b0); (try clear c7); (try clear c9); (try clear c10); (try clear c10b0); (try clear c12); (try clear c12b0); (try clear p14); (try clear q14); (try clear hx14); (try clear hcz11_0); (try clear hcz11_1); (try clear hcz11_2); (try clear hcz11_3); (try clear hcz11_4); (try clear hcz13_0); (try clear hcz13_1); (try clear hcz13_2); (try clear hcz13_3); (try clear hcz13_4); (try clear hcz14_0); (try clear hcz14_1); (try clear hcz14_2); (try clear hcz14_3); (try clear hcz14_4); (try clear hcz15_0); (try clear hcz15_1); (try clear hcz15_2); (try clear hcz15_3); (try clear hcz15_4); (try clear hcz7_0); (try clear hcz7_1); (try clear hcz7_2); (try clear hcz7_3); (try clear hcz7_4); (try clear hfz11_0); (try clear hfz11_1); (try clear hfz11_2); (try clear hfz11_3); (try clear hfz11_4); (try clear hfz13_0); (try clear hfz13_1); (try clear hfz13_2); (try clear hfz13_3); (try clear hfz13_4); (try clear hfz14_0); (try clear hfz14_1); (try clear hfz14_2); (try clear hfz14_3); (try clear hfz14_4); (try clear hfz15_0); (try clear hfz15_1); (try clear hfz15_2); (try clear hfz15_3); (try clear hfz15_4); (try clear hfz7_0); (try clear hfz7_1); (try clear hfz7_2); (try clear hfz7_3); (try clear hfz7_4); (try clear hx147_0); (try clear hx147_1); (try clear hx147_2); (try clear hx147_3); (try clear hx147_4); (try clear p147); (try clear q147)
     obtain ⟨kq, x34_4, rfl, HA, HJ4, BK148, HB⟩ := hcut
     cases kq with
     | zero => exact absurd HA.out (by simp [impl_GoodHistory.j1])
     | succ kj4 =>
      have H := HA.out; clear HA
      simp only [impl_GoodHistory.j1] at H
      by_cases c16 : x34_4 = true
      ·subst c16
       rw [if_pos rfl] at H
       obtain rfl := Option.some.inj H
       go_wp2
       go_ret
       exact ⟨by first | rfl | (simp [errW_none, errW_some] <;> rfl) | (simp [*, errW_none, errW_some] <;> rfl), b_⟩
      ·replace c16 := Bool.eq_false_iff.mpr c16
       subst c16
       rw [if_neg (show ¬ (false = true) by decide)] at H
       have c17 := it_ H
       rw [if_pos c17] at H
       have c17b0 := eq_true c17
       have c17b1 := decide_eq_true c17
       clear c17
       have c18 := it_ H
       rw [if_pos c18] at H
       have c18b0 := eq_true c18
       have c18b1 := decide_eq_true c18
       clear c18
       obtain ⟨y150, hy150⟩ : ∃ y_ : List (S77), y_ = (l0.take (x9_1 : Int).toNat) := ⟨_, rfl⟩
       replace H : (impl_GoodHistory.l1 kj4 l0 l0 (l0.length : Int) x9_1 y150 (y150.length : Int) 0 ((rd_T77 l0 x9_1).f0) ((rd_T77 l0 x9_1).f1) ((rd_T77 l0 x9_1).f2) ((rd_T77 l0 x9_1).f3) ((rd_T77 l0 x9_1).f4)) = some r := by first|(rw [hy150]; with_reducible exact H)|(rw [hy150]; exact (Option.bind_some _ _).symm.trans H)|(rw [hy150]; exact H)|exact H
       have Ny150 := a_ hy150; clear hy150
       have H' := a_ H
       clear H
       have q19 : (x9_1 : Int) ≤ ((l0.length : Int) : Int) := od_
       obtain ⟨i019, hi019, _, hsz19, _⟩ := info_parts info77
       have hroom19 : l0.length ≤ c0 := HC0.out
       have hC19 : Kd.C k77 _ (some ad147) l0.length l0 := HR0.out
       have hcut19 := cut_to (P := Try.prog) 28 77 .i64 Try.underlying28 hi019 (some ad147) l0.length c0 x9_1 (od_) q19 hroom19
       have hr19 := Kd.C_take (m := (x9_1 : Int).toNat) hC19 (by omega)
       have hy19 : y150.length = (x9_1 : Int).toNat := (by rw [Ny150.out, List.length_take]; omega)
       rw [← Ny150.out] at hr19
       rw [← hy19] at hcut19
       have HR153 := a_ hr19
       have HC153 := a_ (show y150.length ≤ c0 from by omega)
       clear hr19 hC19 hroom19 hi019 hsz19; have KY19 := a_ hy19; clear hy19; replace q19 := eq_true q19
       go_wp2
       go_loopg [39] kj4 (fun kq v39 w' => ∃ (x39_3 : Int), v39 = .int .i64 x39_3 ∧ Aside0 (impl_GoodHistory.l1 kq l0 l0 (l0.length : Int) x9_1 y150 (y150.length : Int) x39_3 ((rd_T77 l0 x9_1).f0) ((rd_T77 l0 x9_1).f1) ((rd_T77 l0 x9_1).f2) ((rd_T77 l0 x9_1).f3) ((rd_T77 l0 x9_1).f4) = some r) ∧ Aside0 (kq ≤ kj4) ∧ Aside0 (w'.heap[gb148]? = some (.cells #[.int .i64 ((rd_T77 l0 x9_1).f0), .int .i64 ((rd_T77 l0 x9_1).f1), .int .i64 ((rd_T77 l0 x9_1).f2), .bool ((rd_T77 l0 x9_1).f3), .float .f64 ((rd_T77 l0 x9_1).f4)] 77 (0, 0))) ∧ Aside0 (Below w.heap.size w w'))
       case atStart => exact ⟨(0), (by first | rfl | (simp; done) | (simp [*]; done)), H', ⟨Nat.le_refl _⟩, ⟨by exact q_ BK148.out⟩, ⟨b_⟩⟩
       case round =>
        clear H'
        (try clear c1); (try clear p1); (try clear q1); (try clear hx1); (try clear c2); (try clear c2b0); (try clear p2); (try clear c3); (try clear c3b0); (try clear c4); (try clear c4b0); (try clear c7); (try clear c9); (try clear c10); (try clear c10b0); (try clear c12); (try clear c12b0); (try clear p14); (try clear q14); (try clear hx14); (try clear c16); (try clear c17); (try clear c17b0); (try clear c17b1); (try clear c18); (try clear c18b0); (try clear c18b1); (try clear q19); (try clear hcz11_0); (try clear hcz11_1); (try clear hcz11_2); (try clear hcz11_3); (try clear hcz11_4); (try clear hcz13_0); (try clear hcz13_1); (try clear hcz13_2); (try clear hcz13_3); (try clear hcz13_4); (try clear hcz14_0); (try clear hcz14_1); (try clear hcz14_2); (try clear hcz14_3); (try clear hcz14_4); (try clear hcz15_0); (try clear hcz15_1); (try clear hcz15_2); (try clear hcz15_3); (try clear hcz15_4); (try clear hcz7_0); (try clear hcz7_1); (try clear hcz7_2); (try clear hcz7_3); (try clear hcz7_4); (try clear hfz11_0); (try clear hfz11_1); (try clear hfz11_2); (try clear hfz11_3); (try clear hfz11_4); (try clear hfz13_0); (try clear hfz13_1); (try clear hfz13_2); (try clear hfz13_3); (try clear hfz13_4); (try clear hfz14_0); (try clear hfz14_1); (try clear hfz14_2); (try clear hfz14_3); (try clear hfz14_4); (try clear hfz15_0); (try clear hfz15_1); (try clear hfz15_2); (try clear hfz15_3); (try clear hfz15_4); (try clear hfz7_0); (try clear hfz7_1); (try clear hfz7_2); (try clear hfz7_3); (try clear hfz7_4); (try clear hx147_0); (try clear hx147_1); (try clear hx147_2); (try clear hx147_3); (try clear hx147_4); (try clear p1); (try clear p14); (try clear p147); (try clear p2); (try clear q1); (try clear q14); (try clear q147); (try clear q19)
        obtain ⟨x39_3, rfl, HA, HK3, BK148, HB⟩ := hrel
        cases gk with
        | zero => exact absurd HA.out (by simp [impl_GoodHistory.l1])
        | succ k3 =>
         have H := HA.out; clear HA
         simp only [impl_GoodHistory.l1] at H
         by_cases c20 : x39_3 < (y150.length : Int)
         ·rw [if_pos c20] at H
          have c20b0 := decide_eq_true c20
          clear c20
          replace H := ig_ H
          obtain ⟨c21b0, H⟩ := H
          replace H := ig_ H
          obtain ⟨c22b0, H⟩ := H
          by_cases c23 : ((rd_T77 y150 x39_3).f0) = ((rd_T77 l0 x9_1).f0)
          ·rw [if_pos c23] at H
           have c23b0 := beq_iff_eq.mpr c23
           have c23b1 := bne_eq_false_iff_eq.mpr c23
           clear c23
           by_cases c24 : ((rd_T77 y150 x39_3).f2) ≥ ((rd_T77 l0 x9_1).f1)
           ·rw [if_pos c24] at H
            have c24b0 := decide_eq_true c24
            clear c24
            by_cases c25 : ((rd_T77 l0 x9_1).f2) ≥ ((rd_T77 y150 x39_3).f1)
            ·rw [if_pos c25] at H
             have c25b0 := decide_eq_true c25
             clear c25
             obtain rfl := Option.some.inj H
             have p154 : 0 ≤ (x39_3 : Int) := od_
             have q154 : x39_3 < (y150.length : Int) := od_
             obtain ⟨ad154, e154, hx154_0, hx154_1, hx154_2, hx154_3, hx154_4⟩ := at_T77 HR153.out x39_3 p154 q154
             obtain rfl : ad147 = ad154 := (by injection e154)
             try replace hx154_0 := cl_ HB.out hx154_0
             try replace hx154_1 := cl_ HB.out hx154_1
             try replace hx154_2 := cl_ HB.out hx154_2
             try replace hx154_3 := cl_ HB.out hx154_3
             try replace hx154_4 := cl_ HB.out hx154_4
             replace p154 := eq_true p154; replace q154 := eq_true q154
             go_wp2_with (first | ((with_reducible refine gate_dst (N := 6) rfl ?_); refine box_event ?hg (N := 6) ?hd (cs := #[.int .i64 0, .int .i64 0, .int .i64 0, .bool false, .float .f64 0]) (t := 77) ?hr ?_; (case hd => rfl); (case hg => rfl); (case hr => first | (go_simp; done) | (go_simp; rfl)); intro gb155 hg w26 hbox hb; have n0_ := a_ (blk_below (g := gb148) (o := .cells #[.int .i64 ((rd_T77 l0 x9_1).f0), .int .i64 ((rd_T77 l0 x9_1).f1), .int .i64 ((rd_T77 l0 x9_1).f2), .bool ((rd_T77 l0 x9_1).f3), .float .f64 ((rd_T77 l0 x9_1).f4)] 77 (0, 0)) (q_ BK148.out) hb); have n1_ := a_ (below_step b_ hb); have n2_ := a_ (hbox); have n3_ := a_ ((by rw [hg]; exact (below_size b_) : w.heap.size ≤ gb155)); have n4_ := a_ ((by rw [hg]; exact (below_size b_) : w.heap.size ≤ gb155)); have n5_ := a_ ((by rw [hg]; exact Nat.ne_of_lt (blk_lt (g := gb148) (o := .cells #[.int .i64 ((rd_T77 l0 x9_1).f0), .int .i64 ((rd_T77 l0 x9_1).f1), .int .i64 ((rd_T77 l0 x9_1).f2), .bool ((rd_T77 l0 x9_1).f3), .float .f64 ((rd_T77 l0 x9_1).f4)] 77 (0, 0)) (q_ BK148.out)) : gb148 ≠ gb155)); have n6_ := a_ ((by rw [hg]; exact Nat.ne_of_gt (blk_lt (g := gb148) (o := .cells #[.int .i64 ((rd_T77 l0 x9_1).f0), .int .i64 ((rd_T77 l0 x9_1).f1), .int .i64 ((rd_T77 l0 x9_1).f2), .bool ((rd_T77 l0 x9_1).f3), .float .f64 ((rd_T77 l0 x9_1).f4)] 77 (0, 0)) (q_ BK148.out)) : gb155 ≠ gb148)); clear BK148; clear HB; have BK148 := n0_; have HB := n1_; have BK155 := n2_; have GW155 := n3_; have GE155 := n4_; have NB148_155 := n5_; have NB155_148 := n6_; clear n0_ n1_ n2_ n3_ n4_ n5_ n6_; clear hb hbox hg; have hnb27 := NB155_148.out; have hnc27 := NB148_155.out; obtain ⟨hcz28_0, hcz28_1, hcz28_2, hcz28_3, hcz28_4, hfz28_0, hfz28_1, hfz28_2, hfz28_3, hfz28_4⟩ := cz5_ BK155.out; obtain ⟨hcz29_0, hcz29_1, hcz29_2, hcz29_3, hcz29_4, hfz29_0, hfz29_1, hfz29_2, hfz29_3, hfz29_4⟩ := cz5_ BK148.out))
             go_ret
             exact ⟨by first | rfl | (simp [errW_none, errW_some] <;> rfl) | (simp [*, errW_none, errW_some] <;> rfl), b_⟩
            ·rw [if_neg c25] at H
             have c25b0 := decide_eq_false c25
             clear c25
             have H' := a_ H
             clear H
             have p154 : 0 ≤ (x39_3 : Int) := od_
             have q154 : x39_3 < (y150.length : Int) := od_
             obtain ⟨ad154, e154, hx154_0, hx154_1, hx154_2, hx154_3, hx154_4⟩ := at_T77 HR153.out x39_3 p154 q154
             obtain rfl : ad147 = ad154 := (by injection e154)
             try replace hx154_0 := cl_ HB.out hx154_0
             try replace hx154_1 := cl_ HB.out hx154_1
             try replace hx154_2 := cl_ HB.out hx154_2
             try replace hx154_3 := cl_ HB.out hx154_3
             try replace hx154_4 := cl_ HB.out hx154_4
             replace p154 := eq_true p154; replace q154 := eq_true q154
             go_wp2_with (first | ((with_reducible refine gate_dst (N := 6) rfl ?_); refine box_event ?hg (N := 6) ?hd (cs := #[.int .i64 0, .int .i64 0, .int .i64 0, .bool false, .float .f64 0]) (t := 77) ?hr ?_; (case hd => rfl); (case hg => rfl); (case hr => first | (go_simp; done) | (go_simp; rfl)); intro gb155 hg w30 hbox hb; have n0_ := a_ (blk_below (g := gb148) (o := .cells #[.int .i64 ((rd_T77 l0 x9_1).f0), .int .i64 ((rd_T77 l0 x9_1).f1), .int .i64 ((rd_T77 l0 x9_1).f2), .bool ((rd_T77 l0 x9_1).f3), .float .f64 ((rd_T77 l0 x9_1).f4)] 77 (0, 0)) (q_ BK148.out) hb); have n1_ := a_ (below_step b_ hb); have n2_ := a_ (hbox); have n3_ := a_ ((by rw [hg]; exact (below_size b_) : w.heap.size ≤ gb155)); have n4_ := a_ ((by rw [hg]; exact (below_size b_) : w.heap.size ≤ gb155)); have n5_ := a_ ((by rw [hg]; exact Nat.ne_of_lt (blk_lt (g := gb148) (o := .cells #[.int .i64 ((rd_T77 l0 x9_1).f0), .int .i64 ((rd_T77 l0 x9_1).f1), .int .i64 ((rd_T77 l0 x9_1).f2), .bool ((rd_T77 l0 x9_1).f3), .float .f64 ((rd_T77 l0 x9_1).f4)] 77 (0, 0)) (q_ BK148.out)) : gb148 ≠ gb155)); have n6_ := a_ ((by rw [hg]; exact Nat.ne_of_gt (blk_lt (g := gb148) (o := .cells #[.int .i64 ((rd_T77 l0 x9_1).f0), .int .i64 ((rd_T77 l0 x9_1).f1), .int .i64 ((rd_T77 l0 x9_1).f2), .bool ((rd_T77 l0 x9_1).f3), .float .f64 ((rd_T77 l0 x9_1).f4)] 77 (0, 0)) (q_ BK148.out)) : gb155 ≠ gb148)); clear BK148; clear HB; have BK148 := n0_; have HB := n1_; have BK155 := n2_; have GW155 := n3_; have GE155 := n4_; have NB148_155 := n5_; have NB155_148 := n6_; clear n0_ n1_ n2_ n3_ n4_ n5_ n6_; clear hb hbox hg; have hnb31 := NB155_148.out; have hnc31 := NB148_155.out; obtain ⟨hcz32_0, hcz32_1, hcz32_2, hcz32_3, hcz32_4, hfz32_0, hfz32_1, hfz32_2, hfz32_3, hfz32_4⟩ := cz5_ BK155.out; obtain ⟨hcz33_0, hcz33_1, hcz33_2, hcz33_3, hcz33_4, hfz33_0, hfz33_1, hfz33_2, hfz33_3, hfz33_4⟩ := cz5_ BK148.out))
             go_roundg k3
             case measure => have := HK1.out; have := HJ4.out; have := HK3.out; omega
             case rel => exact ⟨(wrap64 (x39_3 + 1)), (by first | rfl | (simp; done) | (simp [*]; done)), H', ⟨by have := HK1.out; have := HJ4.out; have := HK3.out; omega⟩, ⟨by refine q_ ?_; refine blk_far ?_ NB148_155.out _; refine q_ ?_; refine blk_far ?_ NB148_155.out _; refine q_ ?_; refine blk_far ?_ NB148_155.out _; refine q_ ?_; refine blk_far ?_ NB148_155.out _; refine q_ ?_; refine blk_far ?_ NB148_155.out _; exact q_ BK148.out⟩, ⟨b_⟩⟩
           ·rw [if_neg c24] at H
            have c24b0 := decide_eq_false c24
            clear c24
            have H' := a_ H
            clear H
            have p154 : 0 ≤ (x39_3 : Int) := od_
            have q154 : x39_3 < (y150.length : Int) := od_
            obtain ⟨ad154, e154, hx154_0, hx154_1, hx154_2, hx154_3, hx154_4⟩ := at_T77 HR153.out x39_3 p154 q154
            obtain rfl : ad147 = ad154 := (by injection e154)
            try replace hx154_0 := cl_ HB.out hx154_0
            try replace hx154_1 := cl_ HB.out hx154_1
            try replace hx154_2 := cl_ HB.out hx154_2
            try replace hx154_3 := cl_ HB.out hx154_3
            try replace hx154_4 := cl_ HB.out hx154_4
            replace p154 := eq_true p154; replace q154 := eq_true q154
            go_wp2_with (first | ((with_reducible refine gate_dst (N := 6) rfl ?_); refine box_event ?hg (N := 6) ?hd (cs := #[.int .i64 0, .int .i64 0, .int .i64 0, .bool false, .float .f64 0]) (t := 77) ?hr ?_; (case hd => rfl); (case hg => rfl); (case hr => first | (go_simp; done) | (go_simp; rfl)); intro gb155 hg w34 hbox hb; have n0_ := a_ (blk_below (g := gb148) (o := .cells #[.int .i64 ((rd_T77 l0 x9_1).f0), .int .i64 ((rd_T77 l0 x9_1).f1), .int .i64 ((rd_T77 l0 x9_1).f2), .bool ((rd_T77 l0 x9_1).f3), .float .f64 ((rd_T77 l0 x9_1).f4)] 77 (0, 0)) (q_ BK148.out) hb); have n1_ := a_ (below_step b_ hb); have n2_ := a_ (hbox); have n3_ := a_ ((by rw [hg]; exact (below_size b_) : w.heap.size ≤ gb155)); have n4_ := a_ ((by rw [hg]; exact (below_size b_) : w.heap.size ≤ gb155)); have n5_ := a_ ((by rw [hg]; exact Nat.ne_of_lt (blk_lt (g := gb148) (o := .cells #[.int .i64 ((rd_T77 l0 x9_1).f0), .int .i64 ((rd_T77 l0 x9_1).f1), .int .i64 ((rd_T77 l0 x9_1).f2), .bool ((rd_T77 l0 x9_1).f3), .float .f64 ((rd_T77 l0 x9_1).f4)] 77 (0, 0)) (q_ BK148.out)) : gb148 ≠ gb155)); have n6_ := a_ ((by rw [hg]; exact Nat.ne_of_gt (blk_lt (g := gb148) (o := .cells #[.int .i64 ((rd_T77 l0 x9_1).f0), .int .i64 ((rd_T77 l0 x9_1).f1), .int .i64 ((rd_T77 l0 x9_1).f2), .bool ((rd_T77 l0 x9_1).f3), .float .f64 ((rd_T77 l0 x9_1).f4)] 77 (0, 0)) (q_ BK148.out)) : gb155 ≠ gb148)); clear BK148; clear HB; have BK148 := n0_; have HB := n1_; have BK155 := n2_; have GW155 := n3_; have GE155 := n4_; have NB148_155 := n5_; have NB155_148 := n6_; clear n0_ n1_ n2_ n3_ n4_ n5_ n6_; clear hb hbox hg; have hnb35 := NB155_148.out; have hnc35 := NB148_155.out; obtain ⟨hcz36_0, hcz36_1, hcz36_2, hcz36_3, hcz36_4, hfz36_0, hfz36_1, hfz36_2, hfz36_3, hfz36_4⟩ := cz5_ BK155.out; obtain ⟨hcz37_0, hcz37_1, hcz37_2, hcz37_3, hcz37_4, hfz37_0, hfz37_1, hfz37_2, hfz37_3, hfz37_4⟩ := cz5_ BK148.out))
            go_roundg k3
            case measure => have := HK1.out; have := HJ4.out; have := HK3.out; omega
            case rel => exact ⟨(wrap64 (x39_3 + 1)), (by first | rfl | (simp; done) | (simp [*]; done)), H', ⟨by have := HK1.out; have := HJ4.out; have := HK3.out; omega⟩, ⟨by refine q_ ?_; refine blk_far ?_ NB148_155.out _; refine q_ ?_; refine blk_far ?_ NB148_155.out _; refine q_ ?_; refine blk_far ?_ NB148_155.out _; refine q_ ?_; refine blk_far ?_ NB148_155.out _; refine q_ ?_; refine blk_far ?_ NB148_155.out _; exact q_ BK148.out⟩, ⟨b_⟩⟩
          ·rw [if_neg c23] at H
           have c23b0 := beq_eq_false_iff_ne.mpr c23
           have c23b1 := bne_iff_ne.mpr c23
           have H' := a_ H
           clear H
           have p154 : 0 ≤ (x39_3 : Int) := od_
           have q154 : x39_3 < (y150.length : Int) := od_
           obtain ⟨ad154, e154, hx154_0, hx154_1, hx154_2, hx154_3, hx154_4⟩ := at_T77 HR153.out x39_3 p154 q154
           obtain rfl : ad147 = ad154 := (by injection e154)
           try replace hx154_0 := cl_ HB.out hx154_0
           try replace hx154_1 := cl_ HB.out hx154_1
           try replace hx154_2 := cl_ HB.out hx154_2
           try replace hx154_3 := cl_ HB.out hx154_3
           try replace hx154_4 := cl_ HB.out hx154_4
           replace p154 := eq_true p154; replace q154 := eq_true q154
           go_wp2_with (first | ((with_reducible refine gate_dst (N := 6) rfl ?_); refine box_event ?hg (N := 6) ?hd (cs := #[.int .i64 0, .int .i64 0, .int .i64 0, .bool false, .float .f64 0]) (t := 77) ?hr ?_; (case hd => rfl); (case hg => rfl); (case hr => first | (go_simp; done) | (go_simp; rfl)); intro gb155 hg w38 hbox hb; have n0_ := a_ (blk_below (g := gb148) (o := .cells #[.int .i64 ((rd_T77 l0 x9_1).f0), .int .i64 ((rd_T77 l0 x9_1).f1), .int .i64 ((rd_T77 l0 x9_1).f2), .bool ((rd_T77 l0 x9_1).f3), .float .f64 ((rd_T77 l0 x9_1).f4)] 77 (0, 0)) (q_ BK148.out) hb); have n1_ := a_ (below_step b_ hb); have n2_ := a_ (hbox); have n3_ := a_ ((by rw [hg]; exact (below_size b_) : w.heap.size ≤ gb155)); have n4_ := a_ ((by rw [hg]; exact (below_size b_) : w.heap.size ≤ gb155)); have n5_ := a_ ((by rw [hg]; exact Nat.ne_of_lt (blk_lt (g := gb148) (o := .cells #[.int .i64 ((rd_T77 l0 x9_1).f0), .int .i64 ((rd_T77 l0 x9_1).f1), .int .i64 ((rd_T77 l0 x9_1).f2), .bool ((rd_T77 l0 x9_1).f3), .float .f64 ((rd_T77 l0 x9_1).f4)] 77 (0, 0)) (q_ BK148.out)) : gb148 ≠ gb155)); have n6_ := a_ ((by rw [hg]; exact Nat.ne_of_gt (blk_lt (g := gb148) (o := .cells #[.int .i64 ((rd_T77 l0 x9_1).f0), .int .i64 ((rd_T77 l0 x9_1).f1), .int .i64 ((rd_T77 l0 x9_1).f2), .bool ((rd_T77 l0 x9_1).f3), .float .f64 ((rd_T77 l0 x9_1).f4)] 77 (0, 0)) (q_ BK148.out)) : gb155 ≠ gb148)); clear BK148; clear HB; have BK148 := n0_; have HB := n1_; have BK155 := n2_; have GW155 := n3_; have GE155 := n4_; have NB148_155 := n5_; have NB155_148 := n6_; clear n0_ n1_ n2_ n3_ n4_ n5_ n6_; clear hb hbox hg; have hnb39 := NB155_148.out; have hnc39 := NB148_155.out; obtain ⟨hcz40_0, hcz40_1, hcz40_2, hcz40_3, hcz40_4, hfz40_0, hfz40_1, hfz40_2, hfz40_3, hfz40_4⟩ := cz5_ BK155.out; obtain ⟨hcz41_0, hcz41_1, hcz41_2, hcz41_3, hcz41_4, hfz41_0, hfz41_1, hfz41_2, hfz41_3, hfz41_4⟩ := cz5_ BK148.out))
           go_roundg k3
           case measure => have := HK1.out; have := HJ4.out; have := HK3.out; omega
           case rel => exact ⟨(wrap64 (x39_3 + 1)), (by first | rfl | (simp; done) | (simp [*]; done)), H', ⟨by have := HK1.out; have := HJ4.out; have := HK3.out; omega⟩, ⟨by refine q_ ?_; refine blk_far ?_ NB148_155.out _; refine q_ ?_; refine blk_far ?_ NB148_155.out _; refine q_ ?_; refine blk_far ?_ NB148_155.out _; refine q_ ?_; refine blk_far ?_ NB148_155.out _; refine q_ ?_; refine blk_far ?_ NB148_155.out _; exact q_ BK148.out⟩, ⟨b_⟩⟩
         ·rw [if_neg c20] at H
          have c20b0 := decide_eq_false c20
          clear c20
          have H' := a_ H
          clear H
          go_wp2
          go_roundg k3
          case measure => have := HK1.out; have := HJ4.out; have := HK3.out; omega
          case rel => exact ⟨(wrap64 (x9_1 + 1)), (by first | rfl | (simp; done) | (simp [*]; done)), H', ⟨by have := HK1.out; have := HJ4.out; have := HK3.out; omega⟩, ⟨b_⟩⟩
   ·rw [if_neg c2] at H
    have c2b0 := decide_eq_false c2
    clear c2
    obtain rfl := Option.some.inj H
    go_wp2
    go_ret
    exact ⟨by first | rfl | (simp [errW_none, errW_some] <;> rfl) | (simp [*, errW_none, errW_some] <;> rfl), b_⟩

/-! ### impl_isKind: function 63 -/
def impl_isKind.f (a0 : Int) : Option (Bool) := if a0 = 1 then (some true) else (some (a0 == 2))
set_option maxHeartbeats 8000000 in
set_option maxRecDepth 100000 in
theorem impl_isKind.calls (a0 : Int) (r : Bool) (w : World) (h : impl_isKind.f a0 = some r) :
  Calls Try.prog 63 #[.int .i64 a0] w fun e w' => e = .returned (.bool r) ∧ Drawn0 w w' := by
 have H : (if a0 = 1 then (some true) else (some (a0 == 2))) = some r := h
 clear h
 by_cases c2 : a0 = 1
 ·rw [if_pos c2] at H
  have c2b0 := beq_iff_eq.mpr c2
  have c2b1 := bne_eq_false_iff_eq.mpr c2
  clear c2
  obtain rfl := Option.some.inj H
  go_enter Try.func63, Try.ntmps63
  go_wp2
  go_ret
  exact ⟨by first | rfl | (simp; done) | (simp [*]; done), by repeat (first | exact Drawn0.refl _ | apply Drawn0.step)⟩
 ·rw [if_neg c2] at H
  have c2b0 := beq_eq_false_iff_ne.mpr c2
  have c2b1 := bne_iff_ne.mpr c2
  obtain rfl := Option.some.inj H
  go_enter Try.func63, Try.ntmps63
  go_wp2
  go_ret
  exact ⟨by first | rfl | (simp; done) | (simp [*]; done), by repeat (first | exact Drawn0.refl _ | apply Drawn0.step)⟩

/-! ### slices_Sort_int_int: function 122 (over the shelf's contract) -/
def slices_Sort_int_int.f (l0 : List Int) : Option (List Int) := if l0.length < 4611686018427387904 then (some (l0.mergeSort fun x y => decide (x ≤ y))) else (none)
def slices_Sort_int_int.rho : Go.Shelf.Ren := ⟨fun q => if q = 125 then 132 else if q = 128 then 142 else if q = 129 then 143 else if q = 189 then 122 else if q = 215 then 149 else if q = 216 then 139 else if q = 257 then 131 else if q = 294 then 133 else if q = 295 then 134 else if q = 296 then 135 else if q = 297 then 136 else if q = 298 then 137 else if q = 299 then 138 else if q = 300 then 140 else if q = 301 then 141 else if q = 328 then 144 else if q = 329 then 145 else if q = 330 then 146 else if q = 331 then 147 else if q = 332 then 148 else if q = 343 then 150 else 0, fun q => if q = 0 then 0 else if q = 3 then 3 else if q = 4 then 4 else if q = 5 then 5 else if q = 9 then 9 else if q = 28 then 23 else if q = 46 then 115 else if q = 51 then 128 else if q = 53 then 92 else if q = 131 then 43 else if q = 182 then 121 else if q = 183 then 122 else if q = 218 then 130 else if q = 222 then 134 else if q = 228 then 136 else if q = 229 then 68 else 0, fun q => q⟩
theorem slices_Sort_int_int.laid : Go.Proofs.Lays.n189 Try.prog slices_Sort_int_int.rho where
 mixed := by kernel_rfl
 f125 := by kernel_rfl
 f128 := by kernel_rfl
 f129 := by kernel_rfl
 f189 := by kernel_rfl
 f215 := by kernel_rfl
 f216 := by kernel_rfl
 f257 := by kernel_rfl
 f294 := by kernel_rfl
 f295 := by kernel_rfl
 f296 := by kernel_rfl
 f297 := by kernel_rfl
 f298 := by kernel_rfl
 f299 := by kernel_rfl
 f300 := by kernel_rfl
 f301 := by kernel_rfl
 f328 := by kernel_rfl
 f329 := by kernel_rfl
 f330 := by kernel_rfl
 f331 := by kernel_rfl
 f332 := by kernel_rfl
 f343 := by kernel_rfl
 t0 := by kernel_rfl
 a0 := fun w => by kernel_rfl
 z0 := fun w => by kernel_rfl
 v0 := fun w => by kernel_rfl
 t3 := by kernel_rfl
 a3 := fun w => by kernel_rfl
 z3 := fun w => by kernel_rfl
 v3 := fun w => by kernel_rfl
 t4 := by kernel_rfl
 a4 := fun w => by kernel_rfl
 z4 := fun w => by kernel_rfl
 v4 := fun w => by kernel_rfl
 t5 := by kernel_rfl
 a5 := fun w => by kernel_rfl
 z5 := fun w => by kernel_rfl
 v5 := fun w => by kernel_rfl
 t9 := by kernel_rfl
 a9 := fun w => by kernel_rfl
 z9 := fun w => by kernel_rfl
 v9 := fun w => by kernel_rfl
 t28 := by kernel_rfl
 a28 := fun w => by kernel_rfl
 z28 := fun w => by kernel_rfl
 v28 := fun w => by kernel_rfl
 t46 := by kernel_rfl
 a46 := fun w => by kernel_rfl
 z46 := fun w => by kernel_rfl
 v46 := fun w => by kernel_rfl
 t51 := by kernel_rfl
 a51 := fun w => by kernel_rfl
 z51 := fun w => by kernel_rfl
 v51 := fun w => by kernel_rfl
 t53 := by kernel_rfl
 a53 := fun w => by kernel_rfl
 z53 := fun w => by kernel_rfl
 v53 := fun w => by kernel_rfl
 t131 := by kernel_rfl
 a131 := fun w => by kernel_rfl
 z131 := fun w => by kernel_rfl
 v131 := fun w => by kernel_rfl
 t182 := by kernel_rfl
 a182 := fun w => by kernel_rfl
 z182 := fun w => by kernel_rfl
 v182 := fun w => by kernel_rfl
 t183 := by kernel_rfl
 a183 := fun w => by kernel_rfl
 z183 := fun w => by kernel_rfl
 v183 := fun w => by kernel_rfl
 t218 := by kernel_rfl
 a218 := fun w => by kernel_rfl
 z218 := fun w => by kernel_rfl
 v218 := fun w => by kernel_rfl
 t222 := by kernel_rfl
 a222 := fun w => by kernel_rfl
 z222 := fun w => by kernel_rfl
 v222 := fun w => by kernel_rfl
 t228 := by kernel_rfl
 a228 := fun w => by kernel_rfl
 z228 := fun w => by kernel_rfl
 v228 := fun w => by kernel_rfl
 t229 := by kernel_rfl
 a229 := fun w => by kernel_rfl
 z229 := fun w => by kernel_rfl
 v229 := fun w => by kernel_rfl
theorem slices_Sort_int_int.calls (P0_ : Nat → Prop) (u9000_ : Value) (l0 : List Int) (r : List Int) (w0 w : World) (hB : Below w0.heap.size w0 w) (ho0 : Kd.R (Kd.int .i64) 3 w w0.heap.size P0_ u9000_ l0) (h : slices_Sort_int_int.f l0 = some r) :
  Calls Try.prog 122 #[u9000_] w fun e w' => e = .returned (.tuple #[]) ∧ Kd.R (Kd.int .i64) 3 w' w0.heap.size (fun k_ => (P0_ k_ ∨ w.heap.size ≤ k_)) u9000_ r ∧ Below w0.heap.size w0 w' ∧ Kept w w' (fun k_ => P0_ k_) := by
 unfold slices_Sort_int_int.f at h
 by_cases c1 : l0.length < 4611686018427387904
 ·rw [if_pos c1] at h
  obtain rfl := Option.some.inj h
  exact Go.Proofs.Ythdpiceiemkjlaa.MSort.R_sort slices_Sort_int_int.laid P0_ u9000_ l0 3 w0 w hB ho0 c1
 ·rw [if_neg c1] at h; cases h

/-! ### slices_Compact_int_int: function 123 (over the shelf's contract) -/
def slices_Compact_int_int.f (l0 : List Int) : Option (List Int) := some (Go.Lib.compact l0)
def slices_Compact_int_int.rho : Go.Shelf.Ren := ⟨fun q => if q = 20 then 123 else 0, fun q => if q = 22 then 23 else q, fun q => q⟩
theorem slices_Compact_int_int.laid : Go.Proofs.Lays2.n20 Try.prog slices_Compact_int_int.rho where
 mixed := by kernel_rfl
 f20 := by kernel_rfl
 t0 := by kernel_rfl
 a0 := fun w => by kernel_rfl
 z0 := fun w => by kernel_rfl
 v0 := fun w => by kernel_rfl
 t3 := by kernel_rfl
 a3 := fun w => by kernel_rfl
 z3 := fun w => by kernel_rfl
 v3 := fun w => by kernel_rfl
 t4 := by kernel_rfl
 a4 := fun w => by kernel_rfl
 z4 := fun w => by kernel_rfl
 v4 := fun w => by kernel_rfl
 t22 := by kernel_rfl
 a22 := fun w => by kernel_rfl
 z22 := fun w => by kernel_rfl
 v22 := fun w => by kernel_rfl
 i3 := by kernel_rfl
theorem slices_Compact_int_int.calls (P0_ : Nat → Prop) (u9000_ : Value) (l0 : List Int) (r : List Int) (w0 w : World) (hB : Below w0.heap.size w0 w) (ho0 : Kd.R (Kd.int .i64) 3 w w0.heap.size P0_ u9000_ l0) (h : slices_Compact_int_int.f l0 = some r) :
  Calls Try.prog 123 #[u9000_] w fun e w' => ∃ v0_ : Value, e = .returned (v0_) ∧ Kd.R (Kd.int .i64) 3 w' w0.heap.size (fun k_ => (P0_ k_ ∨ w.heap.size ≤ k_)) v0_ r ∧ Below w0.heap.size w0 w' ∧ Kept w w' (fun k_ => P0_ k_) := by
 unfold slices_Compact_int_int.f at h
 obtain rfl := Option.some.inj h
 exact Go.Proofs.Ythdpiceiemkjlaa.MSort.R_compact slices_Compact_int_int.laid P0_ u9000_ l0 3 w0 w hB ho0

/-! ### impl_rising: function 104 -/
def impl_rising.f (l0 : List Int) : Option (List Int) := (slices_Sort_int_int.f l0).bind fun t156 => ((slices_Compact_int_int.f t156).bind fun t157 => (some t157))
set_option maxHeartbeats 8000000 in
set_option maxRecDepth 100000 in
theorem impl_rising.calls (P0_ : Nat → Prop) (u9000_ : Value) (l0 : List Int) (r : List Int) (w0 w : World) (hB : Below w0.heap.size w0 w) (ho0 : Kd.R (Kd.int .i64) 3 w w0.heap.size P0_ u9000_ l0) (h : impl_rising.f l0 = some r) :
  Calls Try.prog 104 #[u9000_] w fun e w' => ∃ v0_ : Value, e = .returned (v0_) ∧ Kd.R (Kd.int .i64) 3 w' w0.heap.size (fun k_ => (P0_ k_ ∨ w.heap.size ≤ k_)) v0_ r ∧ Below w0.heap.size w0 w' ∧ Kept w w' (fun k_ => P0_ k_) := by
 have HO0 := a_ (show Kd.R (Kd.int .i64) 3 w w0.heap.size (fun k_ => (P0_ k_ ∨ w.heap.size ≤ k_)) u9000_ l0 from Kd.R_mono ho0 (fun k_ hk => (.inl hk)))
 have HK := a_ (Kept.refl w (fun k_ => P0_ k_))
 have HW0 := a_ hB.size
 have HB := a_ hB
 clear hB
 have H : ((slices_Sort_int_int.f l0).bind fun t156 => ((slices_Compact_int_int.f t156).bind fun t157 => (some t157))) = some r := h
 clear h
 replace H := Option.bind_eq_some_iff.mp H
 obtain ⟨t156, A20, H⟩ := H
 try dsimp only at H
 have A2 := a_ A20
 clear A20
 replace H := Option.bind_eq_some_iff.mp H
 obtain ⟨t157, A30, H⟩ := H
 try dsimp only at H
 have A3 := a_ A30
 clear A30
 obtain rfl := Option.some.inj H
 obtain ⟨Ao4, co4, eo4⟩ := Kd.R_slice HO0.out
 subst eo4
 go_enter Try.func104, Try.ntmps104
 go_wp2_with (first | ((with_reducible refine gate_callee (f := 122) rfl ?_); refine goesL_ (some 4) rfl rfl Try.func122 (by kernel_rfl) rfl #[.slice Ao4 l0.length co4] rfl la_ ?_; (with_reducible refine (slices_Sort_int_int.calls (fun k_ => some k_ = (.slice Ao4 l0.length co4 : Value).ownBlock) (.slice Ao4 l0.length co4) l0 t156 w0 _ ?side1 ?side2 A2.out).mono ?_); (case side1 => exact b_); (case side2 => exact Kd.R_tight rfl HO0.out); rintro e w5 ⟨rfl, hy0, hb, hkp⟩; refine ⟨_, rfl, ?_⟩; have n0_ := a_ (Kd.R_reok rfl hy0 (fun k_ e_ => HO0.out.1 k_ e_)); have n1_ := a_ (Kept.then_ (S := (fun k_ => P0_ k_)) (by repeat (first | (with_reducible first | exact HK.out | apply Kept.alloc | apply Kept.drewN | apply Kept.drew) | exact HK.out)) hkp (fun k_ hs_ => (fun e_ => (HO0.out.1 k_ e_.symm)) hs_)); have n2_ := a_ (hb); clear HO0; clear HK; clear HB; have HO0 := n0_; have HK := n1_; have HB := n2_; clear n0_ n1_ n2_; (try clear hb); (try clear hkp); (try clear hy0)) | ((with_reducible refine gate_callee (f := 123) rfl ?_); refine goesL_ (some 6) rfl rfl Try.func123 (by kernel_rfl) rfl #[.slice Ao4 l0.length co4] rfl la_ ?_; (with_reducible refine (slices_Compact_int_int.calls (fun k_ => some k_ = (.slice Ao4 l0.length co4 : Value).ownBlock) (.slice Ao4 l0.length co4) t156 t157 w0 _ ?side1 ?side2 A3.out).mono ?_); (case side1 => exact b_); (case side2 => exact Kd.R_tight rfl HO0.out); rintro e w6 ⟨v158, rfl, ho0, hb, hkp⟩; refine ⟨_, rfl, ?_⟩; have n0_ := a_ (Kd.R_mono (ok' := fun k_ => (P0_ k_ ∨ w.heap.size ≤ k_)) ho0 (fun k_ hk_ => Or.elim hk_ (fun hs_ => (HO0.out.1 k_ (hs_).symm)) (fun hn_ => (.inr (Nat.le_trans (by first | exact HK.out.1 | exact (show Kept w _ (fun k_ => P0_ k_) from by repeat (first | (with_reducible first | exact HK.out | apply Kept.alloc | apply Kept.drewN | apply Kept.drew) | exact HK.out)).1) hn_))))); have n1_ := a_ (Kept.then_ (S := (fun k_ => P0_ k_)) (by repeat (first | (with_reducible first | exact HK.out | apply Kept.alloc | apply Kept.drewN | apply Kept.drew) | exact HK.out)) hkp (fun k_ hs_ => (fun e_ => (HO0.out.1 k_ e_.symm)) hs_)); have n2_ := a_ (hb); clear HK; clear HB; clear HO0; have HO159 := n0_; have HK := n1_; have HB := n2_; clear n0_ n1_ n2_; (try clear hb); (try clear hkp); (try clear ho0)))
 go_ret
 exact ⟨_, by first | rfl | (simp [errW_none, errW_some] <;> rfl) | (simp [*, errW_none, errW_some] <;> rfl), by exact r_ HO159.out, b_, by repeat (first | (with_reducible first | exact HK.out | apply Kept.alloc | apply Kept.drewN | apply Kept.drew) | exact HK.out)⟩

/-! ### slices_Clone_int_int: function 105 -/
def slices_Clone_int_int.f (l0 : List Int) : Option (List Int) := (some (([] : List Int) : List Int)).bind fun y160 => (if y160.length + l0.length < 17592186044416 then (some (y160 ++ l0)) else (none))
set_option maxHeartbeats 8000000 in
set_option maxRecDepth 100000 in
theorem slices_Clone_int_int.calls_some (A0 : Addr) (c0 : Nat) (l0 : List Int) (r : List Int) (w : World) (hr0 : Kd.C (Kd.int .i64) w (some A0) l0.length l0) (hc0 : l0.length ≤ c0) (h : slices_Clone_int_int.f l0 = some r) :
  Calls Try.prog 105 #[.slice (some A0) l0.length c0] w fun e w' => ∃ v0_ : Value, e = .returned (v0_) ∧ Kd.R (Kd.int .i64) 3 w' w.heap.size (fun _ => True) v0_ r ∧ Below w.heap.size w w' := by
 have HR0 := a_ hr0
 have HC0 := a_ hc0
 clear hr0 hc0
 have HB := a_ (Below.refl w.heap.size w)
 have H : ((some (([] : List Int) : List Int)).bind fun y160 => (if y160.length + l0.length < 17592186044416 then (some (y160 ++ l0)) else (none))) = some r := h
 clear h
 obtain ⟨y160, hy160⟩ : ∃ y_ : List Int, y_ = (([] : List Int)) := ⟨_, rfl⟩
 replace H : (if y160.length + l0.length < 17592186044416 then (some (y160 ++ l0)) else (none)) = some r := by first|(rw [hy160]; with_reducible exact H)|(rw [hy160]; exact (Option.bind_some _ _).symm.trans H)|(rw [hy160]; exact H)|exact H
 have Ny160 := a_ hy160
 clear hy160
 have c2 := it_ H
 rw [if_pos c2] at H
 have LMc2 := a_ c2
 clear c2
 obtain ⟨y163, hy163⟩ : ∃ y_ : List Int, y_ = (y160 ++ l0) := ⟨_, rfl⟩
 replace H : (some y163) = some r := by first|(rw [hy163]; with_reducible exact H)|(rw [hy163]; exact (Option.bind_some _ _).symm.trans H)|(rw [hy163]; exact H)|exact H
 have Ny163 := a_ hy163
 clear hy163
 obtain rfl := Option.some.inj H
 have q_ : ∀ (w : World) (a : Option Addr) (n c n' c' : Nat), (binOp .eql 23 (.slice a n c) (.slice none n' c')).run Try.prog w = .ok (.bool a.isNone) w := fun w a n c n' c' => Lib.run_eql_slice_nil w _ _ a n c n' c' Try.underlying23
 go_enter Try.func105, Try.ntmps105
 go_wp2_with (first | ((with_reducible refine gate_dst (N := 5) rfl ?_); refine Kd.R_lit (Kd.int .i64) _ 3 ?hg (N := 5) ?hd (xs := ([] : List Int)) (inner := []) (ok := fun _ => True) (okp := fun _ => True) ?hr ?hp (fun _ hk => hk) trivial (Below.refl _ _) (Nat.le_refl _) (by simp) ?_; (case hd => rfl); (case hg => rfl); (case hr => first | (go_simp; done) | (go_simp; rfl)); (case hp => exact (Reps.none _ _)); intro v161 w3 ho4 hb hg_ hnew_; clear hg_ hnew_; (first | rw [← Ny160.out] at ho4 | (simp only [Int.reduceToNat] at ho4; rw [← Ny160.out] at ho4)); have n0_ := a_ (Kd.R_lower ho4 (below_size b_)); have n1_ := a_ (below_step b_ hb); clear HB; have HO162 := n0_; have HB := n1_; clear n0_ n1_; clear hb ho4) | ((with_reducible refine gate_builtin (b := .append) (xs := #[.tmp 5, .tmp 6]) rfl ?_); at_builtin; refine Kd.R_append_rows (Kd.int .i64) (w0 := w) w.heap.size rfl (.tmp 5) (.tmp 6) 23 3 (.int .i64 0) 8 rfl Try.underlying23 info3 rfl (by decide) (by omega) v161 y160 l0 _ _ _ (fun _ => True) (fun _ => False) rfl rfl ?aO ?aR (fun _ _ h => h) (fun _ h => h.elim) ?aF ?aB ?aS ?aL ?_; (case aR => repeat (first | exact (Kd.C_below HR0.out HB.out) | (with_reducible refine Kd.C_alloc ?_ _) | (with_reducible refine Kd.C_drewN ?_ _) | (with_reducible refine Kd.C_drew ?_))); (case aB => exact b_); (case aF => exact (fun _ _ => trivial)); (case aO => exact (r_ HO162.out)); (case aS => exact (below_size b_)); (case aL => have := LMc2.out; omega); intro v164 w5 ho hb hg hat; rw [← Ny163.out] at ho; have n0_ := a_ (hb); have n1_ := a_ (ho); clear HB; clear HO162; have HB := n0_; have HO165 := n1_; clear n0_ n1_; clear ho hb hg hat))
 go_ret
 exact ⟨_, by first | rfl | (simp [errW_none, errW_some] <;> rfl) | (simp [*, errW_none, errW_some] <;> rfl), by exact r_ HO165.out, b_⟩
theorem slices_Clone_int_int.calls (A0 : Option Addr) (c0 : Nat) (l0 : List Int) (r : List Int) (w : World) (hr0 : Kd.C (Kd.int .i64) w A0 l0.length l0) (hc0 : l0.length ≤ c0) (h : slices_Clone_int_int.f l0 = some r) :
  Calls Try.prog 105 #[.slice A0 l0.length c0] w fun e w' => ∃ v0_ : Value, e = .returned (v0_) ∧ Kd.R (Kd.int .i64) 3 w' w.heap.size (fun _ => True) v0_ r ∧ Below w.heap.size w w' := by
 cases A0 with
 | some a => exact slices_Clone_int_int.calls_some a c0 l0 r w hr0 hc0 h
 | none =>
  have hl : l0 = [] := by
   cases l0 with
   | nil => rfl
   | cons x xs => obtain ⟨a, ha, _⟩ := hr0.2.2 (by simp); cases ha
  subst hl
  have hr : r = [] := by
   have h2 : slices_Clone_int_int.f [] = some [] := rfl
   rw [h2] at h
   exact (Option.some.inj h).symm
  subst hr; clear h hr0 hc0
  have q_ : ∀ (w : World) (a : Option Addr) (n c n' c' : Nat), (binOp .eql 23 (.slice a n c) (.slice none n' c')).run Try.prog w = .ok (.bool a.isNone) w := fun w a n c n' c' => Lib.run_eql_slice_nil w _ _ a n c n' c' Try.underlying23
  go_enter Try.func105, Try.ntmps105
  go_wp2
  go_ret
  exact ⟨_, rfl, Kd.R_nil _ _ _ _ _, by repeat (first | exact Below.refl _ _ | apply below_alloc | apply pw_below_drewN | apply below_drew1)⟩

end Go.Proofs.Ythdpiceiemkjlaa.GFnOneOrder

-- Printed by wip/tools/print2.py out of the translation: walks and plain functions; Lean checks them.
import Derived.Test.YthdpiceiemkjlaaGFnOneOrderx0
import Derived.Test.YthdpiceiemkjlaaGFnOneOrderx1
import Derived.Test.YthdpiceiemkjlaaGFnOneOrderx2
import Derived.Test.YthdpiceiemkjlaaGFnOneOrderx3
import Derived.Test.YthdpiceiemkjlaaGFnOneOrderx9
namespace Go.Proofs.Ythdpiceiemkjlaa.GFnOneOrder
open Go.RowKit Go.Proofs.YthdpiceiemkjlaaW.PrintWords Go.Proofs.YthdpiceiemkjlaaW.PrintLast Go.Proofs.YthdpiceiemkjlaaW.PrintMore
attribute [local go_sem] max2_int min2_int max_two min_two max_three min_three max_four min_four   -- for this text's walks alone
set_option linter.unusedVariables false
set_option linter.unusedSimpArgs false

-- NOT PRINTED: function 29 (spec_DrawOrderFor)

/-! ### laws_sameInts: function 30 -/
def laws_sameInts.l0 : Nat → List Int → List Int → Int → Int → Option (Bool)
 | 0, _, _, _, _ => none
 | k + 1, x0, x1, x12, x13 => if x13 < x12 then (if 0 ≤ x13 then (if x13 < (x0.length : Int) then (if x13 < (x1.length : Int) then (if (rd x0 x13) = (rd x1 x13) then (laws_sameInts.l0 k x0 x1 x12 (wrap64 (x13 + 1))) else (some false)) else (none)) else (none)) else (none)) else (some true)
def laws_sameInts.f (k : Nat) (l0 : List Int) (l1 : List Int) : Option (Bool) := if (l0.length : Int) = (l1.length : Int) then (laws_sameInts.l0 k l0 l1 (l0.length : Int) 0) else (some false)
set_option maxHeartbeats 8000000 in
set_option maxRecDepth 100000 in
theorem laws_sameInts.calls (k : Nat) (A0 : Option Addr) (c0 : Nat) (l0 : List Int) (A1 : Option Addr) (c1 : Nat) (l1 : List Int) (r : Bool) (w : World) (hr0 : Kd.C (Kd.int .i64) w A0 l0.length l0) (hc0 : l0.length ≤ c0) (hr1 : Kd.C (Kd.int .i64) w A1 l1.length l1) (hc1 : l1.length ≤ c1) (h : laws_sameInts.f k l0 l1 = some r) :
  Calls Try.prog 30 #[.slice A0 l0.length c0, .slice A1 l1.length c1] w fun e w' => e = .returned (.bool r) ∧ Drawn0 w w' := by
 have HR0 := a_ hr0
 have HC0 := a_ hc0
 clear hr0 hc0
 have HR1 := a_ hr1
 have HC1 := a_ hc1
 clear hr1 hc1
 have H : (if (l0.length : Int) = (l1.length : Int) then (laws_sameInts.l0 k l0 l1 (l0.length : Int) 0) else (some false)) = some r := h
 clear h
 by_cases c3 : (l0.length : Int) = (l1.length : Int)
 ·rw [if_pos c3] at H
  have c3b0 := beq_iff_eq.mpr c3
  have c3b1 := bne_eq_false_iff_eq.mpr c3
  have c3b2 : (l0.length == l1.length) = true := by first | simpa using c3 | (simp at c3 ⊢; omega)
  clear c3
  have H' := a_ H
  clear H
  go_enter Try.func30, Try.ntmps30
  go_wp2
  repeat (go_quiet (fail); try go_wp2)
  go_loopg [13] k (fun kq v13 w' => ∃ (x13_1 : Int), v13 = .int .i64 x13_1 ∧ Aside0 (laws_sameInts.l0 kq l0 l1 (l0.length : Int) x13_1 = some r) ∧ Aside0 (kq ≤ k) ∧ Drawn0 w w')
  case atStart => exact ⟨(0), (by first | rfl | (simp; done) | (simp [*]; done)), H', ⟨Nat.le_refl _⟩, by repeat (first | exact Drawn0.refl _ | apply Drawn0.step)⟩
  case round =>
   clear H'
   (try clear c1); (try clear p2); (try clear c3); (try clear c3b0); (try clear c3b1); (try clear c3b2)
   obtain ⟨x13_1, rfl, HA, HK1, ⟨m1, rfl⟩⟩ := hrel
   cases gk with
   | zero => exact absurd HA.out (by simp [laws_sameInts.l0])
   | succ k1 =>
    have H := HA.out; clear HA
    simp only [laws_sameInts.l0] at H
    by_cases c4 : x13_1 < (l0.length : Int)
    ·rw [if_pos c4] at H
     have c4b0 := decide_eq_true c4
     clear c4
     replace H := ig_ H
     obtain ⟨c5b0, H⟩ := H
     replace H := ig_ H
     obtain ⟨c6b0, H⟩ := H
     replace H := ig_ H
     obtain ⟨c7b0, H⟩ := H
     by_cases c8 : (rd l0 x13_1) = (rd l1 x13_1)
     ·rw [if_pos c8] at H
      have c8b0 := beq_iff_eq.mpr c8
      have c8b1 := bne_eq_false_iff_eq.mpr c8
      clear c8
      have H' := a_ H
      clear H
      have p462 : 0 ≤ (x13_1 : Int) := od_
      have q462 : x13_1 < (l0.length : Int) := od_
      obtain ⟨ad462, e462, hx462_0⟩ := Kd.at_int HR0.out x13_1 p462 q462
      cases e462
      replace p462 := eq_true p462; replace q462 := eq_true q462
      have p463 : 0 ≤ (x13_1 : Int) := od_
      have q463 : x13_1 < (l1.length : Int) := od_
      obtain ⟨ad463, e463, hx463_0⟩ := Kd.at_int HR1.out x13_1 p463 q463
      cases e463
      replace p463 := eq_true p463; replace q463 := eq_true q463
      go_wp2
      repeat (go_quiet (fail); try go_wp2)
      go_roundg k1
      case measure => have := HK1.out; omega
      case rel => exact ⟨(wrap64 (x13_1 + 1)), (by first | rfl | (simp; done) | (simp [*]; done)), H', ⟨by have := HK1.out; omega⟩, by repeat (first | exact Drawn0.refl _ | apply Drawn0.step)⟩
     ·rw [if_neg c8] at H
      have c8b0 := beq_eq_false_iff_ne.mpr c8
      have c8b1 := bne_iff_ne.mpr c8
      obtain rfl := Option.some.inj H
      have p462 : 0 ≤ (x13_1 : Int) := od_
      have q462 : x13_1 < (l0.length : Int) := od_
      obtain ⟨ad462, e462, hx462_0⟩ := Kd.at_int HR0.out x13_1 p462 q462
      cases e462
      replace p462 := eq_true p462; replace q462 := eq_true q462
      have p463 : 0 ≤ (x13_1 : Int) := od_
      have q463 : x13_1 < (l1.length : Int) := od_
      obtain ⟨ad463, e463, hx463_0⟩ := Kd.at_int HR1.out x13_1 p463 q463
      cases e463
      replace p463 := eq_true p463; replace q463 := eq_true q463
      go_wp2
      repeat (go_quiet (fail); try go_wp2)
      go_ret
      exact ⟨by first | rfl | (simp; done) | (simp [*]; done), by repeat (first | exact Drawn0.refl _ | apply Drawn0.step)⟩
    ·rw [if_neg c4] at H
     have c4b0 := decide_eq_false c4
     clear c4
     obtain rfl := Option.some.inj H
     go_wp2
     repeat (go_quiet (fail); try go_wp2)
     go_ret
     exact ⟨by first | rfl | (simp; done) | (simp [*]; done), by repeat (first | exact Drawn0.refl _ | apply Drawn0.step)⟩
 ·rw [if_neg c3] at H
  have c3b0 := beq_eq_false_iff_ne.mpr c3
  have c3b1 := bne_iff_ne.mpr c3
  have c3b2 : (l0.length == l1.length) = false := by first | simpa using c3 | (simp at c3 ⊢; omega)
  obtain rfl := Option.some.inj H
  go_enter Try.func30, Try.ntmps30
  go_wp2
  repeat (go_quiet (fail); try go_wp2)
  go_ret
  exact ⟨by first | rfl | (simp; done) | (simp [*]; done), by repeat (first | exact Drawn0.refl _ | apply Drawn0.step)⟩

/-! ### spec_GoodHistory: function 32 -/
def spec_GoodHistory.f (k : Nat) (l0 : List (S77)) : Option (Bool) := (spec_l16Good.f k l0).bind fun t464 => (some t464)
set_option maxHeartbeats 8000000 in
set_option maxRecDepth 100000 in
theorem spec_GoodHistory.calls (k : Nat) (A0 : Option Addr) (c0 : Nat) (l0 : List (S77)) (r : Bool) (w : World) (hr0 : Kd.C k77 w A0 l0.length l0) (hc0 : l0.length ≤ c0) (h : spec_GoodHistory.f k l0 = some r) :
  Calls Try.prog 32 #[.slice A0 l0.length c0] w fun e w' => e = .returned (.bool r) ∧ Below w.heap.size w w' := by
 have HR0 := a_ hr0
 have HC0 := a_ hc0
 clear hr0 hc0
 have HB := a_ (Below.refl w.heap.size w)
 have H : ((spec_l16Good.f k l0).bind fun t464 => (some t464)) = some r := h
 clear h
 replace H := Option.bind_eq_some_iff.mp H
 obtain ⟨t464, A20, H⟩ := H
 try dsimp only at H
 have A2 := a_ A20
 clear A20
 obtain rfl := Option.some.inj H
 go_enter Try.func32, Try.ntmps32
 go_wp2_with (first | ((with_reducible refine gate_callee (f := 59) rfl ?_); refine goesL_ (some 4) rfl rfl Try.func59 (by kernel_rfl) rfl #[.slice A0 l0.length c0] rfl la_ ?_; (with_reducible refine (spec_l16Good.calls k _ _ l0 t464 _ ?side1 ?side2 A2.out).mono ?_); (case side1 => repeat (first | exact HR0.out | (with_reducible refine Kd.C_alloc ?_ _) | (with_reducible refine Kd.C_drewN ?_ _) | (with_reducible refine Kd.C_drew ?_))); (case side2 => exact HC0.out); rintro e w3 ⟨rfl, hb⟩; refine ⟨_, rfl, ?_⟩; have n0_ := a_ (below_step b_ hb); clear HB; have HB := n0_; clear n0_; (try clear hb); (try clear hb2); (try clear hk); (try clear hi)))
 go_ret
 exact ⟨by first | rfl | (simp [errW_none, errW_some] <;> rfl) | (simp [*, errW_none, errW_some] <;> rfl), b_⟩

-- NOT PRINTED: function 79 (spec_DrawPlayObject)

-- NOT PRINTED: function 33 (spec_DrawFitsOrder)

/-! ### laws_sameNum: function 43 -/
def laws_sameNum.f (a0 : Nat) (a1 : Nat) : Option (Bool) := if feq a0 a0 = true then (if feq a1 a1 = true then (if feq a0 a1 = true then (if feq a0 0 = true then (if fdivOk 4607182418800017408 a0 = true then (if fdivOk 4607182418800017408 a1 = true then (some (feq (fdiv 4607182418800017408 a0) (fdiv 4607182418800017408 a1))) else (none)) else (none)) else (some true)) else (some false)) else (some false)) else (some (!(feq a1 a1)))
set_option maxHeartbeats 8000000 in
set_option maxRecDepth 100000 in
theorem laws_sameNum.calls (a0 : Nat) (a1 : Nat) (r : Bool) (w : World) (h : laws_sameNum.f a0 a1 = some r) :
  Calls Try.prog 43 #[.float .f64 a0, .float .f64 a1] w fun e w' => e = .returned (.bool r) ∧ Drawn0 w w' := by
 have H : (if feq a0 a0 = true then (if feq a1 a1 = true then (if feq a0 a1 = true then (if feq a0 0 = true then (if fdivOk 4607182418800017408 a0 = true then (if fdivOk 4607182418800017408 a1 = true then (some (feq (fdiv 4607182418800017408 a0) (fdiv 4607182418800017408 a1))) else (none)) else (none)) else (some true)) else (some false)) else (some false)) else (some (!(feq a1 a1)))) = some r := h
 clear h
 by_cases c3 : feq a0 a0 = true
 ·rw [if_pos c3] at H
  have c3b0 : feq a0 a0 = true := c3
  clear c3
  by_cases c4 : feq a1 a1 = true
  ·rw [if_pos c4] at H
   have c4b0 : feq a1 a1 = true := c4
   clear c4
   by_cases c5 : feq a0 a1 = true
   ·rw [if_pos c5] at H
    have c5b0 : feq a0 a1 = true := c5
    clear c5
    by_cases c6 : feq a0 0 = true
    ·rw [if_pos c6] at H
     have c6b0 : feq a0 0 = true := c6
     clear c6
     have c7 := it_ H
     rw [if_pos c7] at H
     have c7b0 := eq_true c7
     have c7b1 := decide_eq_true c7
     clear c7
     have c8 := it_ H
     rw [if_pos c8] at H
     have c8b0 := eq_true c8
     have c8b1 := decide_eq_true c8
     clear c8
     obtain rfl := Option.some.inj H
     go_enter Try.func43, Try.ntmps43
     go_wp2
     go_ret
     exact ⟨by first | rfl | (simp; done) | (simp [*]; done), by repeat (first | exact Drawn0.refl _ | apply Drawn0.step)⟩
    ·rw [if_neg c6] at H
     have c6b0 : feq a0 0 = false := by simpa using c6
     clear c6
     obtain rfl := Option.some.inj H
     go_enter Try.func43, Try.ntmps43
     go_wp2
     go_ret
     exact ⟨by first | rfl | (simp; done) | (simp [*]; done), by repeat (first | exact Drawn0.refl _ | apply Drawn0.step)⟩
   ·rw [if_neg c5] at H
    have c5b0 : feq a0 a1 = false := by simpa using c5
    clear c5
    obtain rfl := Option.some.inj H
    go_enter Try.func43, Try.ntmps43
    go_wp2
    go_ret
    exact ⟨by first | rfl | (simp; done) | (simp [*]; done), by repeat (first | exact Drawn0.refl _ | apply Drawn0.step)⟩
  ·rw [if_neg c4] at H
   have c4b0 : feq a1 a1 = false := by simpa using c4
   clear c4
   obtain rfl := Option.some.inj H
   go_enter Try.func43, Try.ntmps43
   go_wp2
   go_ret
   exact ⟨by first | rfl | (simp; done) | (simp [*]; done), by repeat (first | exact Drawn0.refl _ | apply Drawn0.step)⟩
 ·rw [if_neg c3] at H
  have c3b0 : feq a0 a0 = false := by simpa using c3
  clear c3
  obtain rfl := Option.some.inj H
  go_enter Try.func43, Try.ntmps43
  go_wp2
  go_ret
  exact ⟨by first | rfl | (simp; done) | (simp [*]; done), by repeat (first | exact Drawn0.refl _ | apply Drawn0.step)⟩

/-! ### laws_sameNums: function 34 -/
def laws_sameNums.l0 : Nat → List Nat → List Nat → Int → Int → Option (Bool)
 | 0, _, _, _, _ => none
 | k + 1, x0, x1, x12, x13 => if x13 < x12 then (if 0 ≤ x13 then (if x13 < (x0.length : Int) then (if x13 < (x1.length : Int) then ((laws_sameNum.f (rdOf (0 : Nat) x0 x13) (rdOf (0 : Nat) x1 x13)).bind fun t512 => (if t512 = true then (laws_sameNums.l0 k x0 x1 x12 (wrap64 (x13 + 1))) else (some false))) else (none)) else (none)) else (none)) else (some true)
def laws_sameNums.f (k : Nat) (l0 : List Nat) (l1 : List Nat) : Option (Bool) := if (l0.length : Int) = (l1.length : Int) then (laws_sameNums.l0 k l0 l1 (l0.length : Int) 0) else (some false)
set_option maxHeartbeats 8000000 in
set_option maxRecDepth 100000 in
theorem laws_sameNums.calls (k : Nat) (A0 : Option Addr) (c0 : Nat) (l0 : List Nat) (A1 : Option Addr) (c1 : Nat) (l1 : List Nat) (r : Bool) (w : World) (hr0 : Kd.C Kd.float w A0 l0.length l0) (hc0 : l0.length ≤ c0) (hr1 : Kd.C Kd.float w A1 l1.length l1) (hc1 : l1.length ≤ c1) (h : laws_sameNums.f k l0 l1 = some r) :
  Calls Try.prog 34 #[.slice A0 l0.length c0, .slice A1 l1.length c1] w fun e w' => e = .returned (.bool r) ∧ Drawn0 w w' := by
 have HR0 := a_ hr0
 have HC0 := a_ hc0
 clear hr0 hc0
 have HR1 := a_ hr1
 have HC1 := a_ hc1
 clear hr1 hc1
 have H : (if (l0.length : Int) = (l1.length : Int) then (laws_sameNums.l0 k l0 l1 (l0.length : Int) 0) else (some false)) = some r := h
 clear h
 by_cases c3 : (l0.length : Int) = (l1.length : Int)
 ·rw [if_pos c3] at H
  have c3b0 := beq_iff_eq.mpr c3
  have c3b1 := bne_eq_false_iff_eq.mpr c3
  have c3b2 : (l0.length == l1.length) = true := by first | simpa using c3 | (simp at c3 ⊢; omega)
  clear c3
  have H' := a_ H
  clear H
  go_enter Try.func34, Try.ntmps34
  go_wp2
  repeat (go_quiet (fail); try go_wp2)
  go_loopg [13] k (fun kq v13 w' => ∃ (x13_1 : Int), v13 = .int .i64 x13_1 ∧ Aside0 (laws_sameNums.l0 kq l0 l1 (l0.length : Int) x13_1 = some r) ∧ Aside0 (kq ≤ k) ∧ Drawn0 w w')
  case atStart => exact ⟨(0), (by first | rfl | (simp; done) | (simp [*]; done)), H', ⟨Nat.le_refl _⟩, by repeat (first | exact Drawn0.refl _ | apply Drawn0.step)⟩
  case round =>
   clear H'
   (try clear c1); (try clear p2); (try clear c3); (try clear c3b0); (try clear c3b1); (try clear c3b2)
   obtain ⟨x13_1, rfl, HA, HK1, ⟨m1, rfl⟩⟩ := hrel
   cases gk with
   | zero => exact absurd HA.out (by simp [laws_sameNums.l0])
   | succ k1 =>
    have H := HA.out; clear HA
    simp only [laws_sameNums.l0] at H
    by_cases c4 : x13_1 < (l0.length : Int)
    ·rw [if_pos c4] at H
     have c4b0 := decide_eq_true c4
     clear c4
     replace H := ig_ H
     obtain ⟨c5b0, H⟩ := H
     replace H := ig_ H
     obtain ⟨c6b0, H⟩ := H
     replace H := ig_ H
     obtain ⟨c7b0, H⟩ := H
     replace H := Option.bind_eq_some_iff.mp H
     obtain ⟨t512, A80, H⟩ := H
     try dsimp only at H
     have A8 := a_ A80; clear A80
     by_cases c9 : t512 = true
     ·subst c9
      rw [if_pos rfl] at H
      have H' := a_ H
      clear H
      have p510 : 0 ≤ (x13_1 : Int) := od_
      have q510 : x13_1 < (l0.length : Int) := od_
      obtain ⟨ad510, e510, hx510_0⟩ := Kd.at_float HR0.out x13_1 p510 q510
      cases e510
      replace p510 := eq_true p510; replace q510 := eq_true q510
      have p511 : 0 ≤ (x13_1 : Int) := od_
      have q511 : x13_1 < (l1.length : Int) := od_
      obtain ⟨ad511, e511, hx511_0⟩ := Kd.at_float HR1.out x13_1 p511 q511
      cases e511
      replace p511 := eq_true p511; replace q511 := eq_true q511
      go_wp2_with (first | (go_at_call 43; (with_reducible refine (laws_sameNum.calls (rdOf (0 : Nat) l0 x13_1) (rdOf (0 : Nat) l1 x13_1) true _ A8.out).mono ?_); rintro e w' ⟨rfl, ⟨nd, rfl⟩⟩; (try first | exact ⟨rfl, _, World.drewN_drewN _ _ _⟩ | exact ⟨rfl, _, Eq.trans (World.drewN_drewN _ _ _) (congrArg (World.drewN _) (Nat.add_assoc _ _ _))⟩)))
      repeat (go_quiet (first | (go_at_call 43; (with_reducible refine (laws_sameNum.calls (rdOf (0 : Nat) l0 x13_1) (rdOf (0 : Nat) l1 x13_1) true _ A8.out).mono ?_); rintro e w' ⟨rfl, ⟨nd, rfl⟩⟩; (try first | exact ⟨rfl, _, World.drewN_drewN _ _ _⟩ | exact ⟨rfl, _, Eq.trans (World.drewN_drewN _ _ _) (congrArg (World.drewN _) (Nat.add_assoc _ _ _))⟩))); try go_wp2_with (first | (go_at_call 43; (with_reducible refine (laws_sameNum.calls (rdOf (0 : Nat) l0 x13_1) (rdOf (0 : Nat) l1 x13_1) true _ A8.out).mono ?_); rintro e w' ⟨rfl, ⟨nd, rfl⟩⟩; (try first | exact ⟨rfl, _, World.drewN_drewN _ _ _⟩ | exact ⟨rfl, _, Eq.trans (World.drewN_drewN _ _ _) (congrArg (World.drewN _) (Nat.add_assoc _ _ _))⟩))))
      go_roundg k1
      case measure => have := HK1.out; omega
      case rel => exact ⟨(wrap64 (x13_1 + 1)), (by first | rfl | (simp; done) | (simp [*]; done)), H', ⟨by have := HK1.out; omega⟩, by repeat (first | exact Drawn0.refl _ | apply Drawn0.step)⟩
     ·replace c9 := Bool.eq_false_iff.mpr c9
      subst c9
      rw [if_neg (show ¬ (false = true) by decide)] at H
      obtain rfl := Option.some.inj H
      have p510 : 0 ≤ (x13_1 : Int) := od_
      have q510 : x13_1 < (l0.length : Int) := od_
      obtain ⟨ad510, e510, hx510_0⟩ := Kd.at_float HR0.out x13_1 p510 q510
      cases e510
      replace p510 := eq_true p510; replace q510 := eq_true q510
      have p511 : 0 ≤ (x13_1 : Int) := od_
      have q511 : x13_1 < (l1.length : Int) := od_
      obtain ⟨ad511, e511, hx511_0⟩ := Kd.at_float HR1.out x13_1 p511 q511
      cases e511
      replace p511 := eq_true p511; replace q511 := eq_true q511
      go_wp2_with (first | (go_at_call 43; (with_reducible refine (laws_sameNum.calls (rdOf (0 : Nat) l0 x13_1) (rdOf (0 : Nat) l1 x13_1) false _ A8.out).mono ?_); rintro e w' ⟨rfl, ⟨nd, rfl⟩⟩; (try first | exact ⟨rfl, _, World.drewN_drewN _ _ _⟩ | exact ⟨rfl, _, Eq.trans (World.drewN_drewN _ _ _) (congrArg (World.drewN _) (Nat.add_assoc _ _ _))⟩)))
      repeat (go_quiet (first | (go_at_call 43; (with_reducible refine (laws_sameNum.calls (rdOf (0 : Nat) l0 x13_1) (rdOf (0 : Nat) l1 x13_1) false _ A8.out).mono ?_); rintro e w' ⟨rfl, ⟨nd, rfl⟩⟩; (try first | exact ⟨rfl, _, World.drewN_drewN _ _ _⟩ | exact ⟨rfl, _, Eq.trans (World.drewN_drewN _ _ _) (congrArg (World.drewN _) (Nat.add_assoc _ _ _))⟩))); try go_wp2_with (first | (go_at_call 43; (with_reducible refine (laws_sameNum.calls (rdOf (0 : Nat) l0 x13_1) (rdOf (0 : Nat) l1 x13_1) false _ A8.out).mono ?_); rintro e w' ⟨rfl, ⟨nd, rfl⟩⟩; (try first | exact ⟨rfl, _, World.drewN_drewN _ _ _⟩ | exact ⟨rfl, _, Eq.trans (World.drewN_drewN _ _ _) (congrArg (World.drewN _) (Nat.add_assoc _ _ _))⟩))))
      go_ret
      exact ⟨by first | rfl | (simp; done) | (simp [*]; done), by repeat (first | exact Drawn0.refl _ | apply Drawn0.step)⟩
    ·rw [if_neg c4] at H
     have c4b0 := decide_eq_false c4
     clear c4
     obtain rfl := Option.some.inj H
     go_wp2
     repeat (go_quiet (fail); try go_wp2)
     go_ret
     exact ⟨by first | rfl | (simp; done) | (simp [*]; done), by repeat (first | exact Drawn0.refl _ | apply Drawn0.step)⟩
 ·rw [if_neg c3] at H
  have c3b0 := beq_eq_false_iff_ne.mpr c3
  have c3b1 := bne_iff_ne.mpr c3
  have c3b2 : (l0.length == l1.length) = false := by first | simpa using c3 | (simp at c3 ⊢; omega)
  obtain rfl := Option.some.inj H
  go_enter Try.func34, Try.ntmps34
  go_wp2
  repeat (go_quiet (fail); try go_wp2)
  go_ret
  exact ⟨by first | rfl | (simp; done) | (simp [*]; done), by repeat (first | exact Drawn0.refl _ | apply Drawn0.step)⟩

/-! ### impl_Call: function 80 -/
def impl_Call.f (l0 : List (S77)) (a1 : Int) : Option (Bool) := (impl_in.f a1 0 (wrap64 ((l0.length : Int) - 1))).bind fun t513 => (some t513)
set_option maxHeartbeats 8000000 in
set_option maxRecDepth 100000 in
theorem impl_Call.calls (A0 : Option Addr) (c0 : Nat) (l0 : List (S77)) (a1 : Int) (r : Bool) (w : World) (hr0 : Kd.C k77 w A0 l0.length l0) (hc0 : l0.length ≤ c0) (h : impl_Call.f l0 a1 = some r) :
  Calls Try.prog 80 #[.slice A0 l0.length c0, .int .i64 a1] w fun e w' => e = .returned (.bool r) ∧ Drawn0 w w' := by
 have HR0 := a_ hr0
 have HC0 := a_ hc0
 clear hr0 hc0
 have H : ((impl_in.f a1 0 (wrap64 ((l0.length : Int) - 1))).bind fun t513 => (some t513)) = some r := h
 clear h
 replace H := Option.bind_eq_some_iff.mp H
 obtain ⟨t513, A30, H⟩ := H
 try dsimp only at H
 have A3 := a_ A30
 clear A30
 obtain rfl := Option.some.inj H
 go_enter Try.func80, Try.ntmps80
 go_wp2_with (first | ((with_reducible refine gate_callee (f := 78) rfl ?_); refine goesL_ (some 9) rfl rfl Try.func78 (by kernel_rfl) rfl #[.int .i64 a1, .int .i64 0, .int .i64 (wrap64 ((l0.length : Int) - 1))] rfl la_ ?_; (with_reducible refine (impl_in.calls a1 0 (wrap64 ((l0.length : Int) - 1)) t513 _ A3.out).mono ?_); rintro e w' ⟨rfl, ⟨nd, rfl⟩⟩; refine ⟨_, rfl, ?_⟩))
 go_ret
 exact ⟨by first | rfl | (simp; done) | (simp [*]; done), by repeat (first | exact Drawn0.refl _ | apply Drawn0.step)⟩

/-! ### impl_CallAhead: function 35 -/
def impl_CallAhead.f (k : Nat) (l0 : List (S77)) (a1 : Int) (a2 : Int) : Option (Bool × Bool) := (impl_GoodHistory.f k l0).bind fun t514 => (if t514 = true then ((impl_Call.f l0 a1).bind fun t515 => (if t515 = true then ((impl_Call.f l0 a2).bind fun t516 => (if t516 = true then (if 0 ≤ a1 then (if a1 < (l0.length : Int) then (if 0 ≤ a2 then (if a2 < (l0.length : Int) then ((impl_Call_ahead.f ((rd_T77 l0 a1).f0) ((rd_T77 l0 a1).f1) ((rd_T77 l0 a1).f2) ((rd_T77 l0 a1).f3) ((rd_T77 l0 a1).f4) ((rd_T77 l0 a2).f0) ((rd_T77 l0 a2).f1) ((rd_T77 l0 a2).f2) ((rd_T77 l0 a2).f3) ((rd_T77 l0 a2).f4)).bind fun t519 => (some (t519, true))) else (none)) else (none)) else (none)) else (none)) else (some (false, false)))) else (some (false, false)))) else (some (false, false)))
def impl_CallAhead.T3 : Bool × List (List Nat × List Nat) := (true, [([], []), ([], []), ([0, 1], [0, 1]), ([2], [2]), ([], []), ([], []), ([4, 5], [4, 5]), ([6], [6]), ([3, 7], [3, 7]), ([8, 8, 0, 1, 2, 3, 4, 5, 6, 7, 8], [8]), ([9, 0, 1, 2, 3, 4, 5, 6, 7, 8, 9], [])])
def impl_CallAhead.B3 : List Nat := [0, 0, 3, 7, 0, 0, 48, 112, 255, 511, 1023]
theorem impl_CallAhead.tab3 : rtab .any (opsOf Try.f35 3) = impl_CallAhead.T3 := by kernel_rfl
theorem impl_CallAhead.bits3 : waitsOk impl_CallAhead.T3.2 impl_CallAhead.B3 = true := by kernel_rfl
set_option maxHeartbeats 8000000 in
set_option maxRecDepth 100000 in
theorem impl_CallAhead.calls (k : Nat) (A0 : Option Addr) (c0 : Nat) (l0 : List (S77)) (a1 : Int) (a2 : Int) (r1 : Bool) (r2 : Bool) (w : World) (hr0 : Kd.C k77 w A0 l0.length l0) (hc0 : l0.length ≤ c0) (h : impl_CallAhead.f k l0 a1 a2 = some (r1, r2)) :
  Calls Try.prog 35 #[.slice A0 l0.length c0, .int .i64 a1, .int .i64 a2] w fun e w' => e = .returned (.tuple #[.bool r1, .bool r2]) ∧ Below w.heap.size w w' := by
 have hu77 := Try.underlying77
 have HR0 := a_ hr0
 have HC0 := a_ hc0
 clear hr0 hc0
 have HB := a_ (Below.refl w.heap.size w)
 have H : ((impl_GoodHistory.f k l0).bind fun t514 => (if t514 = true then ((impl_Call.f l0 a1).bind fun t515 => (if t515 = true then ((impl_Call.f l0 a2).bind fun t516 => (if t516 = true then (if 0 ≤ a1 then (if a1 < (l0.length : Int) then (if 0 ≤ a2 then (if a2 < (l0.length : Int) then ((impl_Call_ahead.f ((rd_T77 l0 a1).f0) ((rd_T77 l0 a1).f1) ((rd_T77 l0 a1).f2) ((rd_T77 l0 a1).f3) ((rd_T77 l0 a1).f4) ((rd_T77 l0 a2).f0) ((rd_T77 l0 a2).f1) ((rd_T77 l0 a2).f2) ((rd_T77 l0 a2).f3) ((rd_T77 l0 a2).f4)).bind fun t519 => (some (t519, true))) else (none)) else (none)) else (none)) else (none)) else (some (false, false)))) else (some (false, false)))) else (some (false, false)))) = some (r1, r2) := h
 clear h
 replace H := Option.bind_eq_some_iff.mp H
 obtain ⟨t514, A40, H⟩ := H
 try dsimp only at H
 have A4 := a_ A40
 clear A40
 by_cases c5 : t514 = true
 ·subst c5
  rw [if_pos rfl] at H
  replace H := Option.bind_eq_some_iff.mp H
  obtain ⟨t515, A60, H⟩ := H
  try dsimp only at H
  have A6 := a_ A60; clear A60
  by_cases c7 : t515 = true
  ·subst c7
   rw [if_pos rfl] at H
   replace H := Option.bind_eq_some_iff.mp H
   obtain ⟨t516, A80, H⟩ := H
   try dsimp only at H
   have A8 := a_ A80; clear A80
   by_cases c9 : t516 = true
   ·subst c9
    rw [if_pos rfl] at H
    replace H := ig_ H
    obtain ⟨c10b0, H⟩ := H
    replace H := ig_ H
    obtain ⟨c11b0, H⟩ := H
    replace H := ig_ H
    obtain ⟨c12b0, H⟩ := H
    replace H := ig_ H
    obtain ⟨c13b0, H⟩ := H
    replace H := Option.bind_eq_some_iff.mp H
    obtain ⟨t519, A140, H⟩ := H
    try dsimp only at H
    have A14 := a_ A140; clear A140
    simp only [Option.some.injEq, Prod.mk.injEq] at H
    obtain ⟨rfl, rfl⟩ := H
    go_enter Try.func35, Try.ntmps35
    try go_wp2_with (first | ((with_reducible refine gate_callee (f := 31) rfl ?_); refine goesL_ (some 9) rfl rfl Try.func31 (by kernel_rfl) rfl #[.slice A0 l0.length c0] rfl la_ ?_; (with_reducible refine (impl_GoodHistory.calls k _ _ l0 true _ ?side1 ?side2 A4.out).mono ?_); (case side1 => repeat (first | exact HR0.out | (with_reducible refine Kd.C_alloc ?_ _) | (with_reducible refine Kd.C_drewN ?_ _) | (with_reducible refine Kd.C_drew ?_))); (case side2 => exact HC0.out); rintro e w15 ⟨rfl, hb⟩; refine ⟨_, rfl, ?_⟩; have n0_ := a_ (below_step b_ hb); clear HB; have HB := n0_; clear n0_; (try clear hb); (try clear hb2); (try clear hk); (try clear hi)) | (go_at_call 80; (with_reducible refine (impl_Call.calls _ _ l0 a1 true _ ?side1 ?side2 A6.out).mono ?_); (case side1 => repeat (first | exact (Kd.C_below HR0.out HB.out) | (with_reducible refine Kd.C_alloc ?_ _) | (with_reducible refine Kd.C_drewN ?_ _) | (with_reducible refine Kd.C_drew ?_))); (case side2 => exact HC0.out); rintro e w' ⟨rfl, ⟨nd, rfl⟩⟩) | (go_at_call 80; (with_reducible refine (impl_Call.calls _ _ l0 a2 true _ ?side1 ?side2 A8.out).mono ?_); (case side1 => repeat (first | exact (Kd.C_below HR0.out b_) | (with_reducible refine Kd.C_alloc ?_ _) | (with_reducible refine Kd.C_drewN ?_ _) | (with_reducible refine Kd.C_drew ?_))); (case side2 => exact HC0.out); rintro e w' ⟨rfl, ⟨nd, rfl⟩⟩))
    (try (rw [drewN_self w15]; generalize hq_ : World.drewN w15 _ = w15; have n0_ : Aside0 (Below w.heap.size w w15) := ⟨by rw [← hq_]; exact b_⟩; clear HB hq_; have HB := n0_; clear n0_))
    have n0_ := a_ (below_drew1 HB.out)
    clear HB; have HB := n0_; clear n0_
    have p517 : 0 ≤ (a1 : Int) := od_
    have q517 : a1 < (l0.length : Int) := od_
    obtain ⟨ad517, e517, hx517_0, hx517_1, hx517_2, hx517_3, hx517_4⟩ := at_T77 HR0.out a1 p517 q517
    have hw517_4 := hx517_4; have hw517_3 := hx517_3; have hw517_2 := hx517_2; have hw517_1 := hx517_1; have hw517_0 := hx517_0
    cases e517
    try replace hx517_0 := cl_ HB.out hx517_0
    try replace hx517_1 := cl_ HB.out hx517_1
    try replace hx517_2 := cl_ HB.out hx517_2
    try replace hx517_3 := cl_ HB.out hx517_3
    try replace hx517_4 := cl_ HB.out hx517_4
    replace p517 := eq_true p517; replace q517 := eq_true q517
    have p518 : 0 ≤ (a2 : Int) := od_
    have q518 : a2 < (l0.length : Int) := od_
    obtain ⟨ad518, e518, hx518_0, hx518_1, hx518_2, hx518_3, hx518_4⟩ := at_T77 HR0.out a2 p518 q518
    have hw518_4 := hx518_4; have hw518_3 := hx518_3; have hw518_2 := hx518_2; have hw518_1 := hx518_1; have hw518_0 := hx518_0
    obtain rfl : ad517 = ad518 := (by injection e518)
    try replace hx518_0 := cl_ HB.out hx518_0
    try replace hx518_1 := cl_ HB.out hx518_1
    try replace hx518_2 := cl_ HB.out hx518_2
    try replace hx518_3 := cl_ HB.out hx518_3
    try replace hx518_4 := cl_ HB.out hx518_4
    replace p518 := eq_true p518; replace q518 := eq_true q518
    refine start_ (n := 11) (S := fun w' => w'.cell? (ad517.add ((a1).toNat * 5)) = some (.int .i64 ((rd_T77 l0 a1).f0)) ∧ w'.cell? ⟨(ad517.add ((a1).toNat * 5)).block, (ad517.add ((a1).toNat * 5)).off + 1, none⟩ = some (.int .i64 ((rd_T77 l0 a1).f1)) ∧ w'.cell? ⟨(ad517.add ((a1).toNat * 5)).block, (ad517.add ((a1).toNat * 5)).off + 2, none⟩ = some (.int .i64 ((rd_T77 l0 a1).f2)) ∧ w'.cell? ⟨(ad517.add ((a1).toNat * 5)).block, (ad517.add ((a1).toNat * 5)).off + 3, none⟩ = some (.bool ((rd_T77 l0 a1).f3)) ∧ w'.cell? ⟨(ad517.add ((a1).toNat * 5)).block, (ad517.add ((a1).toNat * 5)).off + 4, none⟩ = some (.float .f64 ((rd_T77 l0 a1).f4)) ∧ w'.cell? (ad517.add ((a2).toNat * 5)) = some (.int .i64 ((rd_T77 l0 a2).f0)) ∧ w'.cell? ⟨(ad517.add ((a2).toNat * 5)).block, (ad517.add ((a2).toNat * 5)).off + 1, none⟩ = some (.int .i64 ((rd_T77 l0 a2).f1)) ∧ w'.cell? ⟨(ad517.add ((a2).toNat * 5)).block, (ad517.add ((a2).toNat * 5)).off + 2, none⟩ = some (.int .i64 ((rd_T77 l0 a2).f2)) ∧ w'.cell? ⟨(ad517.add ((a2).toNat * 5)).block, (ad517.add ((a2).toNat * 5)).off + 3, none⟩ = some (.bool ((rd_T77 l0 a2).f3)) ∧ w'.cell? ⟨(ad517.add ((a2).toNat * 5)).block, (ad517.add ((a2).toNat * 5)).off + 4, none⟩ = some (.float .f64 ((rd_T77 l0 a2).f4))) (ds := []) #[false, false, false, false, false, false, false, false, false, false, false] (by kernel_rfl) rfl rfl ⟨((HB.out.cell (World.block_lt_of_cell? w _ hw517_0)).trans hw517_0), ((HB.out.cell (World.block_lt_of_cell? w _ hw517_1)).trans hw517_1), ((HB.out.cell (World.block_lt_of_cell? w _ hw517_2)).trans hw517_2), ((HB.out.cell (World.block_lt_of_cell? w _ hw517_3)).trans hw517_3), ((HB.out.cell (World.block_lt_of_cell? w _ hw517_4)).trans hw517_4), ((HB.out.cell (World.block_lt_of_cell? w _ hw518_0)).trans hw518_0), ((HB.out.cell (World.block_lt_of_cell? w _ hw518_1)).trans hw518_1), ((HB.out.cell (World.block_lt_of_cell? w _ hw518_2)).trans hw518_2), ((HB.out.cell (World.block_lt_of_cell? w _ hw518_3)).trans hw518_3), ((HB.out.cell (World.block_lt_of_cell? w _ hw518_4)).trans hw518_4)⟩ (fun hHeld => ?_); refine with_tabW impl_CallAhead.tab3 impl_CallAhead.bits3 (fun HT_ HW_ => ?_)
    generalize w15.drew = w16 at HB hx517_0 hx517_1 hx517_2 hx517_3 hx517_4 hx518_0 hx518_1 hx518_2 hx518_3 hx518_4 hHeld ⊢
    refine pure_ (i := 0) (N := some 23) (v := ?_) (a' := ?_) #[true, false, false, false, false, false, false, false, false, false, false] rfl rfl (any_of HT_.out (by kernel_rfl)) (fun _ _ _ h => h) (Or.inl ⟨by rfl, ?_⟩) ?_ ?_
    rotate_left
    ·intro w'
     go_simp
     with_reducible rfl
    rotate_left
    ·simp only [Act.put, List.setIfInBounds_toArray, List.set_cons_zero, List.set_cons_succ, i64_w, i32_w]
     rfl
    refine pure_ (i := 1) (N := some 24) (v := ?_) (a' := ?_) #[true, true, false, false, false, false, false, false, false, false, false] rfl rfl (any_of HT_.out (by kernel_rfl)) (fun _ _ _ h => h) (Or.inl ⟨by rfl, ?_⟩) ?_ ?_
    rotate_left
    ·intro w'
     go_simp
     with_reducible rfl
    rotate_left
    ·simp only [Act.put, List.setIfInBounds_toArray, List.set_cons_zero, List.set_cons_succ, i64_w, i32_w]
     rfl
    refine pure_ (i := 2) (N := some 25) (v := ?_) (a' := ?_) #[true, true, true, false, false, false, false, false, false, false, false] rfl rfl (any_of HT_.out (by kernel_rfl)) (fun _ _ _ h => h) (Or.inl ⟨by rfl, ?_⟩) ?_ ?_
    rotate_left
    ·intro w'
     go_simp
     with_reducible rfl
    rotate_left
    ·simp only [Act.put, List.setIfInBounds_toArray, List.set_cons_zero, List.set_cons_succ, i64_w, i32_w]
     rfl
    refine pure_ (i := 4) (N := some 27) (v := ?_) (a' := ?_) #[true, true, true, false, true, false, false, false, false, false, false] rfl rfl (any_of HT_.out (by kernel_rfl)) (fun _ _ _ h => h) (Or.inl ⟨by rfl, ?_⟩) ?_ ?_
    rotate_left
    ·intro w'
     go_simp
     with_reducible rfl
    rotate_left
    ·simp only [Act.put, List.setIfInBounds_toArray, List.set_cons_zero, List.set_cons_succ, i64_w, i32_w]
     rfl
    refine pure_ (i := 5) (N := some 28) (v := ?_) (a' := ?_) #[true, true, true, false, true, true, false, false, false, false, false] rfl rfl (any_of HT_.out (by kernel_rfl)) (fun _ _ _ h => h) (Or.inl ⟨by rfl, ?_⟩) ?_ ?_
    rotate_left
    ·intro w'
     go_simp
     with_reducible rfl
    rotate_left
    ·simp only [Act.put, List.setIfInBounds_toArray, List.set_cons_zero, List.set_cons_succ, i64_w, i32_w]
     rfl
    refine pure_ (i := 6) (N := some 29) (v := ?_) (a' := ?_) #[true, true, true, false, true, true, true, false, false, false, false] rfl rfl (any_of HT_.out (by kernel_rfl)) (fun _ _ _ h => h) (Or.inl ⟨by rfl, ?_⟩) ?_ ?_
    rotate_left
    ·intro w'
     go_simp
     with_reducible rfl
    rotate_left
    ·simp only [Act.put, List.setIfInBounds_toArray, List.set_cons_zero, List.set_cons_succ, i64_w, i32_w]
     rfl
    refine take_ (i := 3) (N := some 26) (v := ?_) (a' := ?_) #[true, true, true, true, true, true, true, false, false, false, false] rfl rfl (take_ofW HT_.out HW_.out (by kernel_rfl)) (fun _ _ _ h => h) (Or.inl ⟨by rfl, ?_⟩) hHeld ?_ ?_
    rotate_left
    ·rintro w' ⟨s0, s1, s2, s3, s4, s5, s6, s7, s8, s9⟩
     go_simp
     with_reducible rfl
    rotate_left
    ·simp only [Act.put, List.setIfInBounds_toArray, List.set_cons_zero, List.set_cons_succ, i64_w, i32_w]
     rfl
    refine take_ (i := 7) (N := some 30) (v := ?_) (a' := ?_) #[true, true, true, true, true, true, true, true, false, false, false] rfl rfl (take_ofW HT_.out HW_.out (by kernel_rfl)) (fun _ _ _ h => h) (Or.inl ⟨by rfl, ?_⟩) hHeld ?_ ?_
    rotate_left
    ·rintro w' ⟨s0, s1, s2, s3, s4, s5, s6, s7, s8, s9⟩
     go_simp
     with_reducible rfl
    rotate_left
    ·simp only [Act.put, List.setIfInBounds_toArray, List.set_cons_zero, List.set_cons_succ, i64_w, i32_w]
     rfl
    refine one_ (i := 8) (N := some 31) #[true, true, true, true, true, true, true, true, true, false, false] rfl rfl (one_of HT_.out (by kernel_rfl)) (by decide) (fun K hK => ?_)
    first | refine goes_ Try.func69 (by kernel_rfl) rfl #[.agg #[.int .i64 ((rd_T77 l0 a1).f0), .int .i64 ((rd_T77 l0 a1).f1), .int .i64 ((rd_T77 l0 a1).f2), .bool ((rd_T77 l0 a1).f3), .float .f64 ((rd_T77 l0 a1).f4)], .agg #[.int .i64 ((rd_T77 l0 a2).f0), .int .i64 ((rd_T77 l0 a2).f1), .int .i64 ((rd_T77 l0 a2).f2), .bool ((rd_T77 l0 a2).f3), .float .f64 ((rd_T77 l0 a2).f4)]] (by rfl) rfl rfl la_ ?_ | refine goesV_ Try.func69 (by kernel_rfl) rfl #[.agg #[.int .i64 ((rd_T77 l0 a1).f0), .int .i64 ((rd_T77 l0 a1).f1), .int .i64 ((rd_T77 l0 a1).f2), .bool ((rd_T77 l0 a1).f3), .float .f64 ((rd_T77 l0 a1).f4)], .agg #[.int .i64 ((rd_T77 l0 a2).f0), .int .i64 ((rd_T77 l0 a2).f1), .int .i64 ((rd_T77 l0 a2).f2), .bool ((rd_T77 l0 a2).f3), .float .f64 ((rd_T77 l0 a2).f4)]] (by rfl) rfl rfl (by rfl) (by first | rfl | (simp only [List.map_toArray, List.map_cons, List.map_nil]; rfl)) ?_
    with_reducible refine (impl_Call_ahead.calls ((rd_T77 l0 a1).f0) ((rd_T77 l0 a1).f1) ((rd_T77 l0 a1).f2) ((rd_T77 l0 a1).f3) ((rd_T77 l0 a1).f4) ((rd_T77 l0 a2).f0) ((rd_T77 l0 a2).f1) ((rd_T77 l0 a2).f2) ((rd_T77 l0 a2).f3) ((rd_T77 l0 a2).f4) t519 _ A14.out).mono ?_
    rintro e w17 ⟨rfl, hb⟩
    refine ⟨_, rfl, ?_⟩
    have n0_ := a_ (below_step b_ hb)
    clear HB; have HB := n0_; clear n0_; (try clear hb); (try clear hb2); (try clear hk); (try clear hi)
    refine hK.out _ _ ⟨((HB.out.cell (World.block_lt_of_cell? w _ hw517_0)).trans hw517_0), ((HB.out.cell (World.block_lt_of_cell? w _ hw517_1)).trans hw517_1), ((HB.out.cell (World.block_lt_of_cell? w _ hw517_2)).trans hw517_2), ((HB.out.cell (World.block_lt_of_cell? w _ hw517_3)).trans hw517_3), ((HB.out.cell (World.block_lt_of_cell? w _ hw517_4)).trans hw517_4), ((HB.out.cell (World.block_lt_of_cell? w _ hw518_0)).trans hw518_0), ((HB.out.cell (World.block_lt_of_cell? w _ hw518_1)).trans hw518_1), ((HB.out.cell (World.block_lt_of_cell? w _ hw518_2)).trans hw518_2), ((HB.out.cell (World.block_lt_of_cell? w _ hw518_3)).trans hw518_3), ((HB.out.cell (World.block_lt_of_cell? w _ hw518_4)).trans hw518_4)⟩ (fun hHeld => ?_)
    clear hK K
    refine norm_ (a' := ?_) ?_ ?_
    rotate_left
    ·show Act.put _ (some 31) _ = _
     simp only [Act.put, List.setIfInBounds_toArray, List.set_cons_zero, List.set_cons_succ, i64_w, i32_w]
     rfl
    refine pure_ (i := 9) (N := some 6) (v := ?_) (a' := ?_) #[true, true, true, true, true, true, true, true, true, true, false] rfl rfl (any_of HT_.out (by kernel_rfl)) (fun _ _ _ h => h) (Or.inl ⟨by rfl, ?_⟩) ?_ ?_
    rotate_left
    ·intro w'
     go_simp
     with_reducible rfl
    rotate_left
    ·simp only [Act.put, List.setIfInBounds_toArray, List.set_cons_zero, List.set_cons_succ, i64_w, i32_w]
     rfl
    refine pure_ (i := 10) (N := some 7) (v := ?_) (a' := ?_) #[true, true, true, true, true, true, true, true, true, true, true] rfl rfl (any_of HT_.out (by kernel_rfl)) (fun _ _ _ h => h) (Or.inl ⟨by rfl, ?_⟩) ?_ ?_
    rotate_left
    ·intro w'
     go_simp
     with_reducible rfl
    rotate_left
    ·simp only [Act.put, List.setIfInBounds_toArray, List.set_cons_zero, List.set_cons_succ, i64_w, i32_w]
     rfl
    refine done_ (done_of HT_.out (by kernel_rfl)) ?_
    try go_wp2
    go_ret2
    exact ⟨by first | rfl | (simp [errW_none, errW_some] <;> rfl) | (simp [*, errW_none, errW_some] <;> rfl), b_⟩
   ·replace c9 := Bool.eq_false_iff.mpr c9
    subst c9
    rw [if_neg (show ¬ (false = true) by decide)] at H
    simp only [Option.some.injEq, Prod.mk.injEq] at H
    obtain ⟨rfl, rfl⟩ := H
    go_enter Try.func35, Try.ntmps35
    go_wp2_with (first | ((with_reducible refine gate_callee (f := 31) rfl ?_); refine goesL_ (some 9) rfl rfl Try.func31 (by kernel_rfl) rfl #[.slice A0 l0.length c0] rfl la_ ?_; (with_reducible refine (impl_GoodHistory.calls k _ _ l0 true _ ?side1 ?side2 A4.out).mono ?_); (case side1 => repeat (first | exact HR0.out | (with_reducible refine Kd.C_alloc ?_ _) | (with_reducible refine Kd.C_drewN ?_ _) | (with_reducible refine Kd.C_drew ?_))); (case side2 => exact HC0.out); rintro e w18 ⟨rfl, hb⟩; refine ⟨_, rfl, ?_⟩; have n0_ := a_ (below_step b_ hb); clear HB; have HB := n0_; clear n0_; (try clear hb); (try clear hb2); (try clear hk); (try clear hi)) | (go_at_call 80; (with_reducible refine (impl_Call.calls _ _ l0 a1 true _ ?side1 ?side2 A6.out).mono ?_); (case side1 => repeat (first | exact (Kd.C_below HR0.out HB.out) | (with_reducible refine Kd.C_alloc ?_ _) | (with_reducible refine Kd.C_drewN ?_ _) | (with_reducible refine Kd.C_drew ?_))); (case side2 => exact HC0.out); rintro e w' ⟨rfl, ⟨nd, rfl⟩⟩) | (go_at_call 80; (with_reducible refine (impl_Call.calls _ _ l0 a2 false _ ?side1 ?side2 A8.out).mono ?_); (case side1 => repeat (first | exact (Kd.C_below HR0.out b_) | (with_reducible refine Kd.C_alloc ?_ _) | (with_reducible refine Kd.C_drewN ?_ _) | (with_reducible refine Kd.C_drew ?_))); (case side2 => exact HC0.out); rintro e w' ⟨rfl, ⟨nd, rfl⟩⟩))
    go_ret2
    exact ⟨by first | rfl | (simp [errW_none, errW_some] <;> rfl) | (simp [*, errW_none, errW_some] <;> rfl), b_⟩
  ·replace c7 := Bool.eq_false_iff.mpr c7
   subst c7
   rw [if_neg (show ¬ (false = true) by decide)] at H
   simp only [Option.some.injEq, Prod.mk.injEq] at H
   obtain ⟨rfl, rfl⟩ := H
   go_enter Try.func35, Try.ntmps35
   go_wp2_with (first | ((with_reducible refine gate_callee (f := 31) rfl ?_); refine goesL_ (some 9) rfl rfl Try.func31 (by kernel_rfl) rfl #[.slice A0 l0.length c0] rfl la_ ?_; (with_reducible refine (impl_GoodHistory.calls k _ _ l0 true _ ?side1 ?side2 A4.out).mono ?_); (case side1 => repeat (first | exact HR0.out | (with_reducible refine Kd.C_alloc ?_ _) | (with_reducible refine Kd.C_drewN ?_ _) | (with_reducible refine Kd.C_drew ?_))); (case side2 => exact HC0.out); rintro e w19 ⟨rfl, hb⟩; refine ⟨_, rfl, ?_⟩; have n0_ := a_ (below_step b_ hb); clear HB; have HB := n0_; clear n0_; (try clear hb); (try clear hb2); (try clear hk); (try clear hi)) | (go_at_call 80; (with_reducible refine (impl_Call.calls _ _ l0 a1 false _ ?side1 ?side2 A6.out).mono ?_); (case side1 => repeat (first | exact (Kd.C_below HR0.out HB.out) | (with_reducible refine Kd.C_alloc ?_ _) | (with_reducible refine Kd.C_drewN ?_ _) | (with_reducible refine Kd.C_drew ?_))); (case side2 => exact HC0.out); rintro e w' ⟨rfl, ⟨nd, rfl⟩⟩))
   go_ret2
   exact ⟨by first | rfl | (simp [errW_none, errW_some] <;> rfl) | (simp [*, errW_none, errW_some] <;> rfl), b_⟩
 ·replace c5 := Bool.eq_false_iff.mpr c5
  subst c5
  rw [if_neg (show ¬ (false = true) by decide)] at H
  simp only [Option.some.injEq, Prod.mk.injEq] at H
  obtain ⟨rfl, rfl⟩ := H
  go_enter Try.func35, Try.ntmps35
  go_wp2_with (first | ((with_reducible refine gate_callee (f := 31) rfl ?_); refine goesL_ (some 9) rfl rfl Try.func31 (by kernel_rfl) rfl #[.slice A0 l0.length c0] rfl la_ ?_; (with_reducible refine (impl_GoodHistory.calls k _ _ l0 false _ ?side1 ?side2 A4.out).mono ?_); (case side1 => repeat (first | exact HR0.out | (with_reducible refine Kd.C_alloc ?_ _) | (with_reducible refine Kd.C_drewN ?_ _) | (with_reducible refine Kd.C_drew ?_))); (case side2 => exact HC0.out); rintro e w20 ⟨rfl, hb⟩; refine ⟨_, rfl, ?_⟩; have n0_ := a_ (below_step b_ hb); clear HB; have HB := n0_; clear n0_; (try clear hb); (try clear hb2); (try clear hk); (try clear hi)))
  go_ret2
  exact ⟨by first | rfl | (simp [errW_none, errW_some] <;> rfl) | (simp [*, errW_none, errW_some] <;> rfl), b_⟩

-- NOT PRINTED: function 36 (spec_DrawCallAhead)

end Go.Proofs.Ythdpiceiemkjlaa.GFnOneOrder

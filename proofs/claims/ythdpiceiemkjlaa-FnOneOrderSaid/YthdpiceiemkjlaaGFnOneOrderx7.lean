-- Printed by wip/tools/print2.py out of the translation: walks and plain functions; Lean checks them.
import Derived.Test.YthdpiceiemkjlaaGFnOneOrderx0
import Derived.Test.YthdpiceiemkjlaaGFnOneOrderx6
namespace Go.Proofs.Ythdpiceiemkjlaa.GFnOneOrder
open Go.RowKit Go.Proofs.YthdpiceiemkjlaaW.PrintWords Go.Proofs.YthdpiceiemkjlaaW.PrintLast Go.Proofs.YthdpiceiemkjlaaW.PrintMore
attribute [local go_sem] max2_int min2_int max_two min_two max_three min_three max_four min_four   -- for this text's walks alone
set_option linter.unusedVariables false
set_option linter.unusedSimpArgs false

/-! ### spec_l1SameNum: function 87 -/
def spec_l1SameNum.j0 : Nat → Nat → Nat → Bool → Option (Bool)
 | 0, _, _, _ => none
 | k + 1, x0, x1, x10 => if x10 = true then ((spec_l1Nan.f x0).bind fun t238 => (if t238 = true then ((spec_l1Nan.f x1).bind fun t239 => (some t239)) else (some false))) else (if feq x0 x1 = true then ((spec_IsMinus.f x0).bind fun t240 => ((spec_IsMinus.f x1).bind fun t241 => (some (t240 == t241)))) else (some false))
def spec_l1SameNum.f (k : Nat) (a0 : Nat) (a1 : Nat) : Option (Bool) := (spec_l1Nan.f a0).bind fun t236 => (if t236 = true then (spec_l1SameNum.j0 k a0 a1 true) else ((spec_l1Nan.f a1).bind fun t237 => (spec_l1SameNum.j0 k a0 a1 t237)))
set_option maxHeartbeats 8000000 in
set_option maxRecDepth 100000 in
theorem spec_l1SameNum.calls (k : Nat) (a0 : Nat) (a1 : Nat) (r : Bool) (w : World) (h : spec_l1SameNum.f k a0 a1 = some r) :
  Calls Try.prog 87 #[.float .f64 a0, .float .f64 a1] w fun e w' => e = .returned (.bool r) ∧ Drawn0 w w' := by
 have H : ((spec_l1Nan.f a0).bind fun t236 => (if t236 = true then (spec_l1SameNum.j0 k a0 a1 true) else ((spec_l1Nan.f a1).bind fun t237 => (spec_l1SameNum.j0 k a0 a1 t237)))) = some r := h
 clear h
 have HC3 := a_ H
 clear H
 go_enter Try.func87, Try.ntmps87
 go_upto_region 1 with (fail)
 go_cut [10] (fun v10 wc => ∃ (kq : Nat) (x10_2 : Bool), v10 = .bool x10_2 ∧ Aside0 (spec_l1SameNum.j0 kq a0 a1 x10_2 = some r) ∧ Aside0 (kq ≤ k) ∧ Drawn0 w wc)
 case first =>
  have H := HC3.out; clear HC3
  replace H := Option.bind_eq_some_iff.mp H
  obtain ⟨t236, A40, H⟩ := H
  try dsimp only at H
  have A4 := a_ A40; clear A40
  by_cases c5 : t236 = true
  ·subst c5
   rw [if_pos rfl] at H
   have H' := a_ H
   clear H
   go_wp2_with (first | ((with_reducible refine gate_callee (f := 88) rfl ?_); refine goesL_ (some 6) rfl rfl Try.func88 (by kernel_rfl) rfl #[.float .f64 a0] rfl la_ ?_; (with_reducible refine (spec_l1Nan.calls a0 true _ A4.out).mono ?_); rintro e w' ⟨rfl, ⟨nd, rfl⟩⟩; refine ⟨_, rfl, ?_⟩))
   go_meet
   case rel => exact ⟨_, (true), (by first | rfl | (simp; done) | (simp [*]; done)), H', ⟨by first | omega | exact Nat.le_refl _⟩, by repeat (first | exact Drawn0.refl _ | apply Drawn0.step)⟩
  ·replace c5 := Bool.eq_false_iff.mpr c5
   subst c5
   rw [if_neg (show ¬ (false = true) by decide)] at H
   replace H := Option.bind_eq_some_iff.mp H
   obtain ⟨t237, A60, H⟩ := H
   try dsimp only at H
   have A6 := a_ A60; clear A60
   have H' := a_ H
   clear H
   go_wp2_with (first | ((with_reducible refine gate_callee (f := 88) rfl ?_); refine goesL_ (some 6) rfl rfl Try.func88 (by kernel_rfl) rfl #[.float .f64 a0] rfl la_ ?_; (with_reducible refine (spec_l1Nan.calls a0 false _ A4.out).mono ?_); rintro e w' ⟨rfl, ⟨nd, rfl⟩⟩; refine ⟨_, rfl, ?_⟩) | (go_at_call 88; (with_reducible refine (spec_l1Nan.calls a1 t237 _ A6.out).mono ?_); rintro e w' ⟨rfl, ⟨nd, rfl⟩⟩))
   go_meet
   case rel => exact ⟨_, (t237), (by first | rfl | (simp; done) | (simp [*]; done)), H', ⟨by first | omega | exact Nat.le_refl _⟩, by repeat (first | exact Drawn0.refl _ | apply Drawn0.step)⟩
 case rest =>
  clear HC3; (try clear p2); (try clear c5)
  obtain ⟨kq, x10_2, rfl, HA, HJ2, ⟨mc2, rfl⟩⟩ := hcut
  cases kq with
  | zero => exact absurd HA.out (by simp [spec_l1SameNum.j0])
  | succ kj2 =>
   have H := HA.out; clear HA
   simp only [spec_l1SameNum.j0] at H
   by_cases c7 : x10_2 = true
   ·subst c7
    rw [if_pos rfl] at H
    replace H := Option.bind_eq_some_iff.mp H
    obtain ⟨t238, A80, H⟩ := H
    try dsimp only at H
    have A8 := a_ A80; clear A80
    by_cases c9 : t238 = true
    ·subst c9
     rw [if_pos rfl] at H
     replace H := Option.bind_eq_some_iff.mp H
     obtain ⟨t239, A100, H⟩ := H
     try dsimp only at H
     have A10 := a_ A100; clear A100
     obtain rfl := Option.some.inj H
     go_wp2_with (first | ((with_reducible refine gate_callee (f := 88) rfl ?_); refine goesL_ (some 12) rfl rfl Try.func88 (by kernel_rfl) rfl #[.float .f64 a0] rfl la_ ?_; (with_reducible refine (spec_l1Nan.calls a0 true _ A8.out).mono ?_); rintro e w' ⟨rfl, ⟨nd, rfl⟩⟩; refine ⟨_, rfl, ?_⟩) | (go_at_call 88; (with_reducible refine (spec_l1Nan.calls a1 t239 _ A10.out).mono ?_); rintro e w' ⟨rfl, ⟨nd, rfl⟩⟩))
     go_ret
     exact ⟨by first | rfl | (simp; done) | (simp [*]; done), by repeat (first | exact Drawn0.refl _ | apply Drawn0.step)⟩
    ·replace c9 := Bool.eq_false_iff.mpr c9
     subst c9
     rw [if_neg (show ¬ (false = true) by decide)] at H
     obtain rfl := Option.some.inj H
     go_wp2_with (first | ((with_reducible refine gate_callee (f := 88) rfl ?_); refine goesL_ (some 12) rfl rfl Try.func88 (by kernel_rfl) rfl #[.float .f64 a0] rfl la_ ?_; (with_reducible refine (spec_l1Nan.calls a0 false _ A8.out).mono ?_); rintro e w' ⟨rfl, ⟨nd, rfl⟩⟩; refine ⟨_, rfl, ?_⟩))
     go_ret
     exact ⟨by first | rfl | (simp; done) | (simp [*]; done), by repeat (first | exact Drawn0.refl _ | apply Drawn0.step)⟩
   ·replace c7 := Bool.eq_false_iff.mpr c7
    subst c7
    rw [if_neg (show ¬ (false = true) by decide)] at H
    by_cases c11 : feq a0 a1 = true
    ·rw [if_pos c11] at H
     have c11b0 : feq a0 a1 = true := c11
     clear c11
     replace H := Option.bind_eq_some_iff.mp H
     obtain ⟨t240, A120, H⟩ := H
     try dsimp only at H
     have A12 := a_ A120; clear A120
     replace H := Option.bind_eq_some_iff.mp H
     obtain ⟨t241, A130, H⟩ := H
     try dsimp only at H
     have A13 := a_ A130; clear A130
     obtain rfl := Option.some.inj H
     go_wp2_with (first | (go_at_call 51; (with_reducible refine (spec_IsMinus.calls a0 t240 _ A12.out).mono ?_); rintro e w' ⟨rfl, ⟨nd, rfl⟩⟩) | (go_at_call 51; (with_reducible refine (spec_IsMinus.calls a1 t241 _ A13.out).mono ?_); rintro e w' ⟨rfl, ⟨nd, rfl⟩⟩))
     go_ret
     exact ⟨by first | rfl | (simp; done) | (simp [*]; done), by repeat (first | exact Drawn0.refl _ | apply Drawn0.step)⟩
    ·rw [if_neg c11] at H
     have c11b0 : feq a0 a1 = false := by simpa using c11
     clear c11
     obtain rfl := Option.some.inj H
     go_wp2
     go_ret
     exact ⟨by first | rfl | (simp; done) | (simp [*]; done), by repeat (first | exact Drawn0.refl _ | apply Drawn0.step)⟩

end Go.Proofs.Ythdpiceiemkjlaa.GFnOneOrder

-- Printed by wip/tools/print2.py out of the translation: walks and plain functions; Lean checks them.
import Derived.Test.YtahnllomlgillaaGPartsOfx0
import Derived.Test.YtahnllomlgillaaGPartsOfx1
namespace Go.Proofs.Ytahnllomlgillaa.GPartsOf
open Go.RowKit Go.Proofs.YtahnllomlgillaaW.PrintWords Go.Proofs.YtahnllomlgillaaW.PrintLast Go.Proofs.YtahnllomlgillaaW.PrintMore
attribute [local go_sem] max2_int min2_int max_two min_two max_three min_three max_four min_four   -- for this text's walks alone
set_option linter.unusedVariables false
set_option linter.unusedSimpArgs false

/-! ### math_frexp: function 60 -/
def math_frexp.j0 : Nat → Nat → Bool → Option (Nat × Int)
  | 0, _, _ => none
  | k + 1, x0, x9 => if x9 = true then (some (x0, 0)) else ((math_normalize.f x0).bind fun bt117 => (some (((Go.bits .or .u64 (Go.bits .andNot .u64 (bt117.1 : Int) 9218868437227405312) 4602678819172646912) : Int).toNat, wrap64 (bt117.2 + (wrap64 ((wrap64 ((wrap64 (Go.bits .and .u64 ((bt117.1 : Int) / 4503599627370496) 2047)) - 1023)) + 1))))))
def math_frexp.f (k : Nat) (a0 : Nat) : Option (Nat × Int) := if feq a0 0 = true then (some (a0, 0)) else ((math_IsInf.f a0 0).bind fun t115 => (if t115 = true then (math_frexp.j0 k a0 true) else ((math_IsNaN.f a0).bind fun t116 => (math_frexp.j0 k a0 t116))))
theorem math_frexp.mono_l : ∀ k, (∀ y0 y1, LeO (math_frexp.j0 k y0 y1) (math_frexp.j0 (k + 1) y0 y1))
  | 0 => fun _ _ r h => by simp [math_frexp.j0] at h
  | k + 1 => by
    have ih0 := math_frexp.mono_l k
    · intro y0 y1
      unfold math_frexp.j0
      repeat' first
      | (with_reducible exact ih0 _ _)
      | (with_reducible exact LeO.refl _)
      | (with_reducible exact LeO.none _)
      | (with_reducible refine LeO.ite ?_ ?_)
      | (with_reducible refine LeO.bind ?_ (fun _ => ?_))
      | exact ih0 _ _
      | exact LeO.none _
      | refine LeO.ite ?_ ?_
      | refine LeO.bind ?_ (fun _ => ?_)
theorem math_frexp.mono : ∀ a0 k, LeO (math_frexp.f k a0) (math_frexp.f (k + 1) a0) := by
  intro a0 k
  have ih0 := math_frexp.mono_l k
  unfold math_frexp.f
  repeat' first
      | (with_reducible exact ih0 _ _)
      | (with_reducible exact LeO.refl _)
      | (with_reducible exact LeO.none _)
      | (with_reducible refine LeO.ite ?_ ?_)
      | (with_reducible refine LeO.bind ?_ (fun _ => ?_))
      | exact ih0 _ _
      | exact LeO.none _
      | refine LeO.ite ?_ ?_
      | refine LeO.bind ?_ (fun _ => ?_)
set_option maxHeartbeats 8000000 in
set_option maxRecDepth 100000 in
theorem math_frexp.calls (k : Nat) (a0 : Nat) (r1 : Nat) (r2 : Int) (w : World) (h : math_frexp.f k a0 = some (r1, r2)) :
    Calls Try.prog 60 #[.float .f64 a0] w fun e w' => e = .returned (.tuple #[.float .f64 r1, .int .i64 r2]) ∧ Drawn0 w w' := by
  have H : (if feq a0 0 = true then (some (a0, 0)) else ((math_IsInf.f a0 0).bind fun t115 => (if t115 = true then (math_frexp.j0 k a0 true) else ((math_IsNaN.f a0).bind fun t116 => (math_frexp.j0 k a0 t116))))) = some (r1, r2) := h
  clear h
  by_cases c2 : feq a0 0 = true
  · rw [if_pos c2] at H
    have c2b0 : feq a0 0 = true := c2
    clear c2
    simp only [Option.some.injEq, Prod.mk.injEq] at H
    obtain ⟨rfl, rfl⟩ := H
    go_enter Try.func60, Try.ntmps60
    go_wp2
    go_ret2
    exact ⟨by first | rfl | (simp; done) | (simp [*]; done), by repeat (first | exact Drawn0.refl _ | apply Drawn0.step)⟩
  · rw [if_neg c2] at H
    have c2b0 : feq a0 0 = false := by simpa using c2
    clear c2
    have HC3 := Aside0.mk H
    clear H
    go_enter Try.func60, Try.ntmps60
    go_upto_region 3 with (fail)
    go_cut [9] (fun v9 wc => ∃ (kq : Nat) (x9_2 : Bool), v9 = .bool x9_2 ∧ Aside0 (math_frexp.j0 kq a0 x9_2 = some (r1, r2)) ∧ Aside0 (kq ≤ k) ∧ Drawn0 w wc)
    case first =>
      have H := HC3.out
      clear HC3
      replace H := Option.bind_eq_some_iff.mp H
      obtain ⟨t115, A40, H⟩ := H
      replace H : (if t115 = true then (math_frexp.j0 k a0 true) else ((math_IsNaN.f a0).bind fun t116 => (math_frexp.j0 k a0 t116))) = some (r1, r2) := H
      have A4 := Aside0.mk A40
      clear A40
      by_cases c5 : t115 = true
      · subst c5
        have H1 : (math_frexp.j0 k a0 true) = some (r1, r2) := by rw [if_pos rfl] at H; exact H
        clear H
        have H := H1
        clear H1
        have H' := Aside0.mk H
        clear H
        go_wp2_with (first | ((with_reducible refine gate_callee (f := 44) rfl ?_); refine goesL_ (some 11) rfl rfl Try.func44 (by kernel_rfl) rfl #[.float .f64 a0, .int .i64 0] rfl (by (try simp only [List.map_toArray, List.map_cons, List.map_nil]); first | done | rfl | (simp only [List.length_drop, List.length_take]; rfl)) ?_; (with_reducible refine (math_IsInf.calls a0 0 true _ A4.out).mono ?_); rintro e w' ⟨rfl, ⟨nd, rfl⟩⟩; refine ⟨_, rfl, ?_⟩))
        go_meet
        case rel => exact ⟨_, (true), (by first | rfl | (simp; done) | (simp [*]; done)), H', ⟨by first | omega | exact Nat.le_refl _⟩, by repeat (first | exact Drawn0.refl _ | apply Drawn0.step)⟩
      · replace c5 := Bool.eq_false_iff.mpr c5
        subst c5
        have H1 : ((math_IsNaN.f a0).bind fun t116 => (math_frexp.j0 k a0 t116)) = some (r1, r2) := by rw [if_neg (show ¬ (false = true) by decide)] at H; exact H
        clear H
        have H := H1
        clear H1
        replace H := Option.bind_eq_some_iff.mp H
        obtain ⟨t116, A60, H⟩ := H
        replace H : (math_frexp.j0 k a0 t116) = some (r1, r2) := H
        have A6 := Aside0.mk A60
        clear A60
        have H' := Aside0.mk H
        clear H
        go_wp2_with (first | ((with_reducible refine gate_callee (f := 44) rfl ?_); refine goesL_ (some 11) rfl rfl Try.func44 (by kernel_rfl) rfl #[.float .f64 a0, .int .i64 0] rfl (by (try simp only [List.map_toArray, List.map_cons, List.map_nil]); first | done | rfl | (simp only [List.length_drop, List.length_take]; rfl)) ?_; (with_reducible refine (math_IsInf.calls a0 0 false _ A4.out).mono ?_); rintro e w' ⟨rfl, ⟨nd, rfl⟩⟩; refine ⟨_, rfl, ?_⟩) | (go_at_call 37; (with_reducible refine (math_IsNaN.calls a0 t116 _ A6.out).mono ?_); rintro e w' ⟨rfl, ⟨nd, rfl⟩⟩))
        go_meet
        case rel => exact ⟨_, (t116), (by first | rfl | (simp; done) | (simp [*]; done)), H', ⟨by first | omega | exact Nat.le_refl _⟩, by repeat (first | exact Drawn0.refl _ | apply Drawn0.step)⟩
    case rest =>
      clear HC3
      try clear c2
      try clear c2b0
      try clear p2
      try clear c4
      try clear c5
      try clear c6
      obtain ⟨kq, x9_2, rfl, HA, HJ2, ⟨mc2, rfl⟩⟩ := hcut
      cases kq with
      | zero => exact absurd HA.out (by simp [math_frexp.j0])
      | succ kj2 =>
        have H := HA.out
        clear HA
        simp only [math_frexp.j0] at H
        by_cases c7 : x9_2 = true
        · subst c7
          have H1 : (some (a0, 0)) = some (r1, r2) := by rw [if_pos rfl] at H; exact H
          clear H
          have H := H1
          clear H1
          simp only [Option.some.injEq, Prod.mk.injEq] at H
          obtain ⟨rfl, rfl⟩ := H
          go_wp2
          go_ret2
          exact ⟨by first | rfl | (simp; done) | (simp [*]; done), by repeat (first | exact Drawn0.refl _ | apply Drawn0.step)⟩
        · replace c7 := Bool.eq_false_iff.mpr c7
          subst c7
          have H1 : ((math_normalize.f a0).bind fun bt117 => (some (((Go.bits .or .u64 (Go.bits .andNot .u64 (bt117.1 : Int) 9218868437227405312) 4602678819172646912) : Int).toNat, wrap64 (bt117.2 + (wrap64 ((wrap64 ((wrap64 (Go.bits .and .u64 ((bt117.1 : Int) / 4503599627370496) 2047)) - 1023)) + 1)))))) = some (r1, r2) := by rw [if_neg (show ¬ (false = true) by decide)] at H; exact H
          clear H
          have H := H1
          clear H1
          replace H := Option.bind_eq_some_iff.mp H
          obtain ⟨⟨t117, t118⟩, A80, H⟩ := H
          replace H : (some (((Go.bits .or .u64 (Go.bits .andNot .u64 (t117 : Int) 9218868437227405312) 4602678819172646912) : Int).toNat, wrap64 (t118 + (wrap64 ((wrap64 ((wrap64 (Go.bits .and .u64 ((t117 : Int) / 4503599627370496) 2047)) - 1023)) + 1))))) = some (r1, r2) := H
          have A8 := Aside0.mk A80
          clear A80
          simp only [Option.some.injEq, Prod.mk.injEq] at H
          obtain ⟨rfl, rfl⟩ := H
          go_wp2_with (first | ((with_reducible refine gate_callee (f := 68) rfl ?_); refine goesL_ (some 19) rfl rfl Try.func68 (by kernel_rfl) rfl #[.float .f64 a0] rfl (by (try simp only [List.map_toArray, List.map_cons, List.map_nil]); first | done | rfl | (simp only [List.length_drop, List.length_take]; rfl)) ?_; (with_reducible refine (math_normalize.calls a0 t117 t118 _ A8.out).mono ?_); rintro e w' ⟨rfl, ⟨nd, rfl⟩⟩; refine ⟨_, rfl, ?_⟩))
          go_ret2
          exact ⟨by first | rfl | (simp; done) | (simp [*]; done), by repeat (first | exact Drawn0.refl _ | apply Drawn0.step)⟩

/-! ### math_Frexp: function 48 -/
def math_Frexp.f (k : Nat) (a0 : Nat) : Option (Nat × Int) := (math_frexp.f k a0).bind fun bt119 => (some (bt119.1, bt119.2))
theorem math_Frexp.mono : ∀ a0 k, LeO (math_Frexp.f k a0) (math_Frexp.f (k + 1) a0) := by
  intro a0 k
  unfold math_Frexp.f
  repeat' first
      | (with_reducible exact math_frexp.mono _ _)
      | (with_reducible exact LeO.refl _)
      | (with_reducible exact LeO.none _)
      | (with_reducible refine LeO.ite ?_ ?_)
      | (with_reducible refine LeO.bind ?_ (fun _ => ?_))
      | exact math_frexp.mono _ _
      | exact LeO.none _
      | refine LeO.ite ?_ ?_
      | refine LeO.bind ?_ (fun _ => ?_)
set_option maxHeartbeats 8000000 in
set_option maxRecDepth 100000 in
theorem math_Frexp.calls (k : Nat) (a0 : Nat) (r1 : Nat) (r2 : Int) (w : World) (h : math_Frexp.f k a0 = some (r1, r2)) :
    Calls Try.prog 48 #[.float .f64 a0] w fun e w' => e = .returned (.tuple #[.float .f64 r1, .int .i64 r2]) ∧ Drawn0 w w' := by
  have H : ((math_frexp.f k a0).bind fun bt119 => (some (bt119.1, bt119.2))) = some (r1, r2) := h
  clear h
  replace H := Option.bind_eq_some_iff.mp H
  obtain ⟨⟨t119, t120⟩, A20, H⟩ := H
  replace H : (some (t119, t120)) = some (r1, r2) := H
  have A2 := Aside0.mk A20
  clear A20
  simp only [Option.some.injEq, Prod.mk.injEq] at H
  obtain ⟨rfl, rfl⟩ := H
  go_enter Try.func48, Try.ntmps48
  go_wp2_with (first | ((with_reducible refine gate_callee (f := 60) rfl ?_); refine goesL_ (some 9) rfl rfl Try.func60 (by kernel_rfl) rfl #[.float .f64 a0] rfl (by (try simp only [List.map_toArray, List.map_cons, List.map_nil]); first | done | rfl | (simp only [List.length_drop, List.length_take]; rfl)) ?_; (with_reducible refine (math_frexp.calls k a0 t119 t120 _ A2.out).mono ?_); rintro e w' ⟨rfl, ⟨nd, rfl⟩⟩; refine ⟨_, rfl, ?_⟩))
  go_ret2
  exact ⟨by first | rfl | (simp; done) | (simp [*]; done), by repeat (first | exact Drawn0.refl _ | apply Drawn0.step)⟩

-- NOT PRINTED: function 61 (math_archLdexp)

/-! ### math_Inf: function 69 -/
def math_Inf.f (a0 : Int) : Option (Nat) := if a0 ≥ 0 then (some ((9218868437227405312 : Int).toNat)) else (some ((18442240474082181120 : Int).toNat))
set_option maxHeartbeats 8000000 in
set_option maxRecDepth 100000 in
theorem math_Inf.calls (a0 : Int) (r : Nat) (w : World) (h : math_Inf.f a0 = some r) :
    Calls Try.prog 69 #[.int .i64 a0] w fun e w' => e = .returned (.float .f64 r) ∧ Drawn0 w w' := by
  have H : (if a0 ≥ 0 then (some ((9218868437227405312 : Int).toNat)) else (some ((18442240474082181120 : Int).toNat))) = some r := h
  clear h
  by_cases c2 : a0 ≥ 0
  · rw [if_pos c2] at H
    have c2b0 : decide (0 ≤ a0) = true := decide_eq_true c2
    clear c2
    obtain rfl := Option.some.inj H
    go_enter Try.func69, Try.ntmps69
    go_wp2
    go_ret
    exact ⟨by first | rfl | (simp; done) | (simp [*]; done), by repeat (first | exact Drawn0.refl _ | apply Drawn0.step)⟩
  · rw [if_neg c2] at H
    have c2b0 : decide (0 ≤ a0) = false := decide_eq_false c2
    clear c2
    obtain rfl := Option.some.inj H
    go_enter Try.func69, Try.ntmps69
    go_wp2
    go_ret
    exact ⟨by first | rfl | (simp; done) | (simp [*]; done), by repeat (first | exact Drawn0.refl _ | apply Drawn0.step)⟩

/-! ### math_ldexp: function 62 -/
def math_ldexp.f (a0 : Nat) (a1 : Int) : Option (Nat) := if feq a0 0 = true then (some a0) else ((math_IsInf.f a0 0).bind fun t121 => (if t121 = true then (some a0) else ((math_IsNaN.f a0).bind fun t122 => (if t122 = true then (some a0) else ((math_normalize.f a0).bind fun bt123 => (if (wrap64 ((wrap64 (a1 + bt123.2)) + (wrap64 ((Go.bits .and .i64 (wrap64 ((bt123.1 : Int) / 4503599627370496)) 2047) - 1023)))) < (-1075) then ((math_Copysign.f 0 bt123.1).bind fun t125 => (some t125)) else (if (wrap64 ((wrap64 (a1 + bt123.2)) + (wrap64 ((Go.bits .and .i64 (wrap64 ((bt123.1 : Int) / 4503599627370496)) 2047) - 1023)))) > 1023 then (if flt bt123.1 0 = true then ((math_Inf.f (-1)).bind fun t126 => (some t126)) else ((math_Inf.f 1).bind fun t127 => (some t127))) else (if (wrap64 ((wrap64 (a1 + bt123.2)) + (wrap64 ((Go.bits .and .i64 (wrap64 ((bt123.1 : Int) / 4503599627370496)) 2047) - 1023)))) < (-1022) then (if fmulOk 4368491638549381120 (((Go.bits .or .u64 (Go.bits .andNot .u64 (bt123.1 : Int) 9218868437227405312) (IntKind.u64.wrap ((IntKind.u64.wrap (wrap64 ((wrap64 ((wrap64 ((wrap64 (a1 + bt123.2)) + (wrap64 ((Go.bits .and .i64 (wrap64 ((bt123.1 : Int) / 4503599627370496)) 2047) - 1023)))) + 53)) + 1023))) * 4503599627370496))) : Int).toNat) = true then (some (fmul 4368491638549381120 (((Go.bits .or .u64 (Go.bits .andNot .u64 (bt123.1 : Int) 9218868437227405312) (IntKind.u64.wrap ((IntKind.u64.wrap (wrap64 ((wrap64 ((wrap64 ((wrap64 (a1 + bt123.2)) + (wrap64 ((Go.bits .and .i64 (wrap64 ((bt123.1 : Int) / 4503599627370496)) 2047) - 1023)))) + 53)) + 1023))) * 4503599627370496))) : Int).toNat))) else (none)) else (if fmulOk 4607182418800017408 (((Go.bits .or .u64 (Go.bits .andNot .u64 (bt123.1 : Int) 9218868437227405312) (IntKind.u64.wrap ((IntKind.u64.wrap (wrap64 ((wrap64 ((wrap64 (a1 + bt123.2)) + (wrap64 ((Go.bits .and .i64 (wrap64 ((bt123.1 : Int) / 4503599627370496)) 2047) - 1023)))) + 1023))) * 4503599627370496))) : Int).toNat) = true then (some (fmul 4607182418800017408 (((Go.bits .or .u64 (Go.bits .andNot .u64 (bt123.1 : Int) 9218868437227405312) (IntKind.u64.wrap ((IntKind.u64.wrap (wrap64 ((wrap64 ((wrap64 (a1 + bt123.2)) + (wrap64 ((Go.bits .and .i64 (wrap64 ((bt123.1 : Int) / 4503599627370496)) 2047) - 1023)))) + 1023))) * 4503599627370496))) : Int).toNat))) else (none))))))))))
set_option maxHeartbeats 8000000 in
set_option maxRecDepth 100000 in
theorem math_ldexp.calls (a0 : Nat) (a1 : Int) (r : Nat) (w : World) (h : math_ldexp.f a0 a1 = some r) :
    Calls Try.prog 62 #[.float .f64 a0, .int .i64 a1] w fun e w' => e = .returned (.float .f64 r) ∧ Drawn0 w w' := by
  have H : (if feq a0 0 = true then (some a0) else ((math_IsInf.f a0 0).bind fun t121 => (if t121 = true then (some a0) else ((math_IsNaN.f a0).bind fun t122 => (if t122 = true then (some a0) else ((math_normalize.f a0).bind fun bt123 => (if (wrap64 ((wrap64 (a1 + bt123.2)) + (wrap64 ((Go.bits .and .i64 (wrap64 ((bt123.1 : Int) / 4503599627370496)) 2047) - 1023)))) < (-1075) then ((math_Copysign.f 0 bt123.1).bind fun t125 => (some t125)) else (if (wrap64 ((wrap64 (a1 + bt123.2)) + (wrap64 ((Go.bits .and .i64 (wrap64 ((bt123.1 : Int) / 4503599627370496)) 2047) - 1023)))) > 1023 then (if flt bt123.1 0 = true then ((math_Inf.f (-1)).bind fun t126 => (some t126)) else ((math_Inf.f 1).bind fun t127 => (some t127))) else (if (wrap64 ((wrap64 (a1 + bt123.2)) + (wrap64 ((Go.bits .and .i64 (wrap64 ((bt123.1 : Int) / 4503599627370496)) 2047) - 1023)))) < (-1022) then (if fmulOk 4368491638549381120 (((Go.bits .or .u64 (Go.bits .andNot .u64 (bt123.1 : Int) 9218868437227405312) (IntKind.u64.wrap ((IntKind.u64.wrap (wrap64 ((wrap64 ((wrap64 ((wrap64 (a1 + bt123.2)) + (wrap64 ((Go.bits .and .i64 (wrap64 ((bt123.1 : Int) / 4503599627370496)) 2047) - 1023)))) + 53)) + 1023))) * 4503599627370496))) : Int).toNat) = true then (some (fmul 4368491638549381120 (((Go.bits .or .u64 (Go.bits .andNot .u64 (bt123.1 : Int) 9218868437227405312) (IntKind.u64.wrap ((IntKind.u64.wrap (wrap64 ((wrap64 ((wrap64 ((wrap64 (a1 + bt123.2)) + (wrap64 ((Go.bits .and .i64 (wrap64 ((bt123.1 : Int) / 4503599627370496)) 2047) - 1023)))) + 53)) + 1023))) * 4503599627370496))) : Int).toNat))) else (none)) else (if fmulOk 4607182418800017408 (((Go.bits .or .u64 (Go.bits .andNot .u64 (bt123.1 : Int) 9218868437227405312) (IntKind.u64.wrap ((IntKind.u64.wrap (wrap64 ((wrap64 ((wrap64 (a1 + bt123.2)) + (wrap64 ((Go.bits .and .i64 (wrap64 ((bt123.1 : Int) / 4503599627370496)) 2047) - 1023)))) + 1023))) * 4503599627370496))) : Int).toNat) = true then (some (fmul 4607182418800017408 (((Go.bits .or .u64 (Go.bits .andNot .u64 (bt123.1 : Int) 9218868437227405312) (IntKind.u64.wrap ((IntKind.u64.wrap (wrap64 ((wrap64 ((wrap64 (a1 + bt123.2)) + (wrap64 ((Go.bits .and .i64 (wrap64 ((bt123.1 : Int) / 4503599627370496)) 2047) - 1023)))) + 1023))) * 4503599627370496))) : Int).toNat))) else (none))))))))))) = some r := h
  clear h
  by_cases c3 : feq a0 0 = true
  · rw [if_pos c3] at H
    have c3b0 : feq a0 0 = true := c3
    clear c3
    obtain rfl := Option.some.inj H
    go_enter Try.func62, Try.ntmps62
    go_wp2
    go_ret
    exact ⟨by first | rfl | (simp; done) | (simp [*]; done), by repeat (first | exact Drawn0.refl _ | apply Drawn0.step)⟩
  · rw [if_neg c3] at H
    have c3b0 : feq a0 0 = false := by simpa using c3
    clear c3
    replace H := Option.bind_eq_some_iff.mp H
    obtain ⟨t121, A40, H⟩ := H
    replace H : (if t121 = true then (some a0) else ((math_IsNaN.f a0).bind fun t122 => (if t122 = true then (some a0) else ((math_normalize.f a0).bind fun bt123 => (if (wrap64 ((wrap64 (a1 + bt123.2)) + (wrap64 ((Go.bits .and .i64 (wrap64 ((bt123.1 : Int) / 4503599627370496)) 2047) - 1023)))) < (-1075) then ((math_Copysign.f 0 bt123.1).bind fun t125 => (some t125)) else (if (wrap64 ((wrap64 (a1 + bt123.2)) + (wrap64 ((Go.bits .and .i64 (wrap64 ((bt123.1 : Int) / 4503599627370496)) 2047) - 1023)))) > 1023 then (if flt bt123.1 0 = true then ((math_Inf.f (-1)).bind fun t126 => (some t126)) else ((math_Inf.f 1).bind fun t127 => (some t127))) else (if (wrap64 ((wrap64 (a1 + bt123.2)) + (wrap64 ((Go.bits .and .i64 (wrap64 ((bt123.1 : Int) / 4503599627370496)) 2047) - 1023)))) < (-1022) then (if fmulOk 4368491638549381120 (((Go.bits .or .u64 (Go.bits .andNot .u64 (bt123.1 : Int) 9218868437227405312) (IntKind.u64.wrap ((IntKind.u64.wrap (wrap64 ((wrap64 ((wrap64 ((wrap64 (a1 + bt123.2)) + (wrap64 ((Go.bits .and .i64 (wrap64 ((bt123.1 : Int) / 4503599627370496)) 2047) - 1023)))) + 53)) + 1023))) * 4503599627370496))) : Int).toNat) = true then (some (fmul 4368491638549381120 (((Go.bits .or .u64 (Go.bits .andNot .u64 (bt123.1 : Int) 9218868437227405312) (IntKind.u64.wrap ((IntKind.u64.wrap (wrap64 ((wrap64 ((wrap64 ((wrap64 (a1 + bt123.2)) + (wrap64 ((Go.bits .and .i64 (wrap64 ((bt123.1 : Int) / 4503599627370496)) 2047) - 1023)))) + 53)) + 1023))) * 4503599627370496))) : Int).toNat))) else (none)) else (if fmulOk 4607182418800017408 (((Go.bits .or .u64 (Go.bits .andNot .u64 (bt123.1 : Int) 9218868437227405312) (IntKind.u64.wrap ((IntKind.u64.wrap (wrap64 ((wrap64 ((wrap64 (a1 + bt123.2)) + (wrap64 ((Go.bits .and .i64 (wrap64 ((bt123.1 : Int) / 4503599627370496)) 2047) - 1023)))) + 1023))) * 4503599627370496))) : Int).toNat) = true then (some (fmul 4607182418800017408 (((Go.bits .or .u64 (Go.bits .andNot .u64 (bt123.1 : Int) 9218868437227405312) (IntKind.u64.wrap ((IntKind.u64.wrap (wrap64 ((wrap64 ((wrap64 (a1 + bt123.2)) + (wrap64 ((Go.bits .and .i64 (wrap64 ((bt123.1 : Int) / 4503599627370496)) 2047) - 1023)))) + 1023))) * 4503599627370496))) : Int).toNat))) else (none))))))))) = some r := H
    have A4 := Aside0.mk A40
    clear A40
    by_cases c5 : t121 = true
    · subst c5
      have H1 : (some a0) = some r := by rw [if_pos rfl] at H; exact H
      clear H
      have H := H1
      clear H1
      obtain rfl := Option.some.inj H
      go_enter Try.func62, Try.ntmps62
      go_wp2_with (first | ((with_reducible refine gate_callee (f := 44) rfl ?_); refine goesL_ (some 14) rfl rfl Try.func44 (by kernel_rfl) rfl #[.float .f64 a0, .int .i64 0] rfl (by (try simp only [List.map_toArray, List.map_cons, List.map_nil]); first | done | rfl | (simp only [List.length_drop, List.length_take]; rfl)) ?_; (with_reducible refine (math_IsInf.calls a0 0 true _ A4.out).mono ?_); rintro e w' ⟨rfl, ⟨nd, rfl⟩⟩; refine ⟨_, rfl, ?_⟩))
      go_ret
      exact ⟨by first | rfl | (simp; done) | (simp [*]; done), by repeat (first | exact Drawn0.refl _ | apply Drawn0.step)⟩
    · replace c5 := Bool.eq_false_iff.mpr c5
      subst c5
      have H1 : ((math_IsNaN.f a0).bind fun t122 => (if t122 = true then (some a0) else ((math_normalize.f a0).bind fun bt123 => (if (wrap64 ((wrap64 (a1 + bt123.2)) + (wrap64 ((Go.bits .and .i64 (wrap64 ((bt123.1 : Int) / 4503599627370496)) 2047) - 1023)))) < (-1075) then ((math_Copysign.f 0 bt123.1).bind fun t125 => (some t125)) else (if (wrap64 ((wrap64 (a1 + bt123.2)) + (wrap64 ((Go.bits .and .i64 (wrap64 ((bt123.1 : Int) / 4503599627370496)) 2047) - 1023)))) > 1023 then (if flt bt123.1 0 = true then ((math_Inf.f (-1)).bind fun t126 => (some t126)) else ((math_Inf.f 1).bind fun t127 => (some t127))) else (if (wrap64 ((wrap64 (a1 + bt123.2)) + (wrap64 ((Go.bits .and .i64 (wrap64 ((bt123.1 : Int) / 4503599627370496)) 2047) - 1023)))) < (-1022) then (if fmulOk 4368491638549381120 (((Go.bits .or .u64 (Go.bits .andNot .u64 (bt123.1 : Int) 9218868437227405312) (IntKind.u64.wrap ((IntKind.u64.wrap (wrap64 ((wrap64 ((wrap64 ((wrap64 (a1 + bt123.2)) + (wrap64 ((Go.bits .and .i64 (wrap64 ((bt123.1 : Int) / 4503599627370496)) 2047) - 1023)))) + 53)) + 1023))) * 4503599627370496))) : Int).toNat) = true then (some (fmul 4368491638549381120 (((Go.bits .or .u64 (Go.bits .andNot .u64 (bt123.1 : Int) 9218868437227405312) (IntKind.u64.wrap ((IntKind.u64.wrap (wrap64 ((wrap64 ((wrap64 ((wrap64 (a1 + bt123.2)) + (wrap64 ((Go.bits .and .i64 (wrap64 ((bt123.1 : Int) / 4503599627370496)) 2047) - 1023)))) + 53)) + 1023))) * 4503599627370496))) : Int).toNat))) else (none)) else (if fmulOk 4607182418800017408 (((Go.bits .or .u64 (Go.bits .andNot .u64 (bt123.1 : Int) 9218868437227405312) (IntKind.u64.wrap ((IntKind.u64.wrap (wrap64 ((wrap64 ((wrap64 (a1 + bt123.2)) + (wrap64 ((Go.bits .and .i64 (wrap64 ((bt123.1 : Int) / 4503599627370496)) 2047) - 1023)))) + 1023))) * 4503599627370496))) : Int).toNat) = true then (some (fmul 4607182418800017408 (((Go.bits .or .u64 (Go.bits .andNot .u64 (bt123.1 : Int) 9218868437227405312) (IntKind.u64.wrap ((IntKind.u64.wrap (wrap64 ((wrap64 ((wrap64 (a1 + bt123.2)) + (wrap64 ((Go.bits .and .i64 (wrap64 ((bt123.1 : Int) / 4503599627370496)) 2047) - 1023)))) + 1023))) * 4503599627370496))) : Int).toNat))) else (none)))))))) = some r := by rw [if_neg (show ¬ (false = true) by decide)] at H; exact H
      clear H
      have H := H1
      clear H1
      replace H := Option.bind_eq_some_iff.mp H
      obtain ⟨t122, A60, H⟩ := H
      replace H : (if t122 = true then (some a0) else ((math_normalize.f a0).bind fun bt123 => (if (wrap64 ((wrap64 (a1 + bt123.2)) + (wrap64 ((Go.bits .and .i64 (wrap64 ((bt123.1 : Int) / 4503599627370496)) 2047) - 1023)))) < (-1075) then ((math_Copysign.f 0 bt123.1).bind fun t125 => (some t125)) else (if (wrap64 ((wrap64 (a1 + bt123.2)) + (wrap64 ((Go.bits .and .i64 (wrap64 ((bt123.1 : Int) / 4503599627370496)) 2047) - 1023)))) > 1023 then (if flt bt123.1 0 = true then ((math_Inf.f (-1)).bind fun t126 => (some t126)) else ((math_Inf.f 1).bind fun t127 => (some t127))) else (if (wrap64 ((wrap64 (a1 + bt123.2)) + (wrap64 ((Go.bits .and .i64 (wrap64 ((bt123.1 : Int) / 4503599627370496)) 2047) - 1023)))) < (-1022) then (if fmulOk 4368491638549381120 (((Go.bits .or .u64 (Go.bits .andNot .u64 (bt123.1 : Int) 9218868437227405312) (IntKind.u64.wrap ((IntKind.u64.wrap (wrap64 ((wrap64 ((wrap64 ((wrap64 (a1 + bt123.2)) + (wrap64 ((Go.bits .and .i64 (wrap64 ((bt123.1 : Int) / 4503599627370496)) 2047) - 1023)))) + 53)) + 1023))) * 4503599627370496))) : Int).toNat) = true then (some (fmul 4368491638549381120 (((Go.bits .or .u64 (Go.bits .andNot .u64 (bt123.1 : Int) 9218868437227405312) (IntKind.u64.wrap ((IntKind.u64.wrap (wrap64 ((wrap64 ((wrap64 ((wrap64 (a1 + bt123.2)) + (wrap64 ((Go.bits .and .i64 (wrap64 ((bt123.1 : Int) / 4503599627370496)) 2047) - 1023)))) + 53)) + 1023))) * 4503599627370496))) : Int).toNat))) else (none)) else (if fmulOk 4607182418800017408 (((Go.bits .or .u64 (Go.bits .andNot .u64 (bt123.1 : Int) 9218868437227405312) (IntKind.u64.wrap ((IntKind.u64.wrap (wrap64 ((wrap64 ((wrap64 (a1 + bt123.2)) + (wrap64 ((Go.bits .and .i64 (wrap64 ((bt123.1 : Int) / 4503599627370496)) 2047) - 1023)))) + 1023))) * 4503599627370496))) : Int).toNat) = true then (some (fmul 4607182418800017408 (((Go.bits .or .u64 (Go.bits .andNot .u64 (bt123.1 : Int) 9218868437227405312) (IntKind.u64.wrap ((IntKind.u64.wrap (wrap64 ((wrap64 ((wrap64 (a1 + bt123.2)) + (wrap64 ((Go.bits .and .i64 (wrap64 ((bt123.1 : Int) / 4503599627370496)) 2047) - 1023)))) + 1023))) * 4503599627370496))) : Int).toNat))) else (none))))))) = some r := H
      have A6 := Aside0.mk A60
      clear A60
      by_cases c7 : t122 = true
      · subst c7
        have H1 : (some a0) = some r := by rw [if_pos rfl] at H; exact H
        clear H
        have H := H1
        clear H1
        obtain rfl := Option.some.inj H
        go_enter Try.func62, Try.ntmps62
        go_wp2_with (first | ((with_reducible refine gate_callee (f := 44) rfl ?_); refine goesL_ (some 14) rfl rfl Try.func44 (by kernel_rfl) rfl #[.float .f64 a0, .int .i64 0] rfl (by (try simp only [List.map_toArray, List.map_cons, List.map_nil]); first | done | rfl | (simp only [List.length_drop, List.length_take]; rfl)) ?_; (with_reducible refine (math_IsInf.calls a0 0 false _ A4.out).mono ?_); rintro e w' ⟨rfl, ⟨nd, rfl⟩⟩; refine ⟨_, rfl, ?_⟩) | (go_at_call 37; (with_reducible refine (math_IsNaN.calls a0 true _ A6.out).mono ?_); rintro e w' ⟨rfl, ⟨nd, rfl⟩⟩))
        go_ret
        exact ⟨by first | rfl | (simp; done) | (simp [*]; done), by repeat (first | exact Drawn0.refl _ | apply Drawn0.step)⟩
      · replace c7 := Bool.eq_false_iff.mpr c7
        subst c7
        have H1 : ((math_normalize.f a0).bind fun bt123 => (if (wrap64 ((wrap64 (a1 + bt123.2)) + (wrap64 ((Go.bits .and .i64 (wrap64 ((bt123.1 : Int) / 4503599627370496)) 2047) - 1023)))) < (-1075) then ((math_Copysign.f 0 bt123.1).bind fun t125 => (some t125)) else (if (wrap64 ((wrap64 (a1 + bt123.2)) + (wrap64 ((Go.bits .and .i64 (wrap64 ((bt123.1 : Int) / 4503599627370496)) 2047) - 1023)))) > 1023 then (if flt bt123.1 0 = true then ((math_Inf.f (-1)).bind fun t126 => (some t126)) else ((math_Inf.f 1).bind fun t127 => (some t127))) else (if (wrap64 ((wrap64 (a1 + bt123.2)) + (wrap64 ((Go.bits .and .i64 (wrap64 ((bt123.1 : Int) / 4503599627370496)) 2047) - 1023)))) < (-1022) then (if fmulOk 4368491638549381120 (((Go.bits .or .u64 (Go.bits .andNot .u64 (bt123.1 : Int) 9218868437227405312) (IntKind.u64.wrap ((IntKind.u64.wrap (wrap64 ((wrap64 ((wrap64 ((wrap64 (a1 + bt123.2)) + (wrap64 ((Go.bits .and .i64 (wrap64 ((bt123.1 : Int) / 4503599627370496)) 2047) - 1023)))) + 53)) + 1023))) * 4503599627370496))) : Int).toNat) = true then (some (fmul 4368491638549381120 (((Go.bits .or .u64 (Go.bits .andNot .u64 (bt123.1 : Int) 9218868437227405312) (IntKind.u64.wrap ((IntKind.u64.wrap (wrap64 ((wrap64 ((wrap64 ((wrap64 (a1 + bt123.2)) + (wrap64 ((Go.bits .and .i64 (wrap64 ((bt123.1 : Int) / 4503599627370496)) 2047) - 1023)))) + 53)) + 1023))) * 4503599627370496))) : Int).toNat))) else (none)) else (if fmulOk 4607182418800017408 (((Go.bits .or .u64 (Go.bits .andNot .u64 (bt123.1 : Int) 9218868437227405312) (IntKind.u64.wrap ((IntKind.u64.wrap (wrap64 ((wrap64 ((wrap64 (a1 + bt123.2)) + (wrap64 ((Go.bits .and .i64 (wrap64 ((bt123.1 : Int) / 4503599627370496)) 2047) - 1023)))) + 1023))) * 4503599627370496))) : Int).toNat) = true then (some (fmul 4607182418800017408 (((Go.bits .or .u64 (Go.bits .andNot .u64 (bt123.1 : Int) 9218868437227405312) (IntKind.u64.wrap ((IntKind.u64.wrap (wrap64 ((wrap64 ((wrap64 (a1 + bt123.2)) + (wrap64 ((Go.bits .and .i64 (wrap64 ((bt123.1 : Int) / 4503599627370496)) 2047) - 1023)))) + 1023))) * 4503599627370496))) : Int).toNat))) else (none)))))) = some r := by rw [if_neg (show ¬ (false = true) by decide)] at H; exact H
        clear H
        have H := H1
        clear H1
        replace H := Option.bind_eq_some_iff.mp H
        obtain ⟨⟨t123, t124⟩, A80, H⟩ := H
        replace H : (if (wrap64 ((wrap64 (a1 + t124)) + (wrap64 ((Go.bits .and .i64 (wrap64 ((t123 : Int) / 4503599627370496)) 2047) - 1023)))) < (-1075) then ((math_Copysign.f 0 t123).bind fun t125 => (some t125)) else (if (wrap64 ((wrap64 (a1 + t124)) + (wrap64 ((Go.bits .and .i64 (wrap64 ((t123 : Int) / 4503599627370496)) 2047) - 1023)))) > 1023 then (if flt t123 0 = true then ((math_Inf.f (-1)).bind fun t126 => (some t126)) else ((math_Inf.f 1).bind fun t127 => (some t127))) else (if (wrap64 ((wrap64 (a1 + t124)) + (wrap64 ((Go.bits .and .i64 (wrap64 ((t123 : Int) / 4503599627370496)) 2047) - 1023)))) < (-1022) then (if fmulOk 4368491638549381120 (((Go.bits .or .u64 (Go.bits .andNot .u64 (t123 : Int) 9218868437227405312) (IntKind.u64.wrap ((IntKind.u64.wrap (wrap64 ((wrap64 ((wrap64 ((wrap64 (a1 + t124)) + (wrap64 ((Go.bits .and .i64 (wrap64 ((t123 : Int) / 4503599627370496)) 2047) - 1023)))) + 53)) + 1023))) * 4503599627370496))) : Int).toNat) = true then (some (fmul 4368491638549381120 (((Go.bits .or .u64 (Go.bits .andNot .u64 (t123 : Int) 9218868437227405312) (IntKind.u64.wrap ((IntKind.u64.wrap (wrap64 ((wrap64 ((wrap64 ((wrap64 (a1 + t124)) + (wrap64 ((Go.bits .and .i64 (wrap64 ((t123 : Int) / 4503599627370496)) 2047) - 1023)))) + 53)) + 1023))) * 4503599627370496))) : Int).toNat))) else (none)) else (if fmulOk 4607182418800017408 (((Go.bits .or .u64 (Go.bits .andNot .u64 (t123 : Int) 9218868437227405312) (IntKind.u64.wrap ((IntKind.u64.wrap (wrap64 ((wrap64 ((wrap64 (a1 + t124)) + (wrap64 ((Go.bits .and .i64 (wrap64 ((t123 : Int) / 4503599627370496)) 2047) - 1023)))) + 1023))) * 4503599627370496))) : Int).toNat) = true then (some (fmul 4607182418800017408 (((Go.bits .or .u64 (Go.bits .andNot .u64 (t123 : Int) 9218868437227405312) (IntKind.u64.wrap ((IntKind.u64.wrap (wrap64 ((wrap64 ((wrap64 (a1 + t124)) + (wrap64 ((Go.bits .and .i64 (wrap64 ((t123 : Int) / 4503599627370496)) 2047) - 1023)))) + 1023))) * 4503599627370496))) : Int).toNat))) else (none))))) = some r := H
        have A8 := Aside0.mk A80
        clear A80
        by_cases c9 : (wrap64 ((wrap64 (a1 + t124)) + (wrap64 ((Go.bits .and .i64 (wrap64 ((t123 : Int) / 4503599627370496)) 2047) - 1023)))) < (-1075)
        · rw [if_pos c9] at H
          have c9b0 : decide ((wrap64 ((wrap64 (a1 + t124)) + (wrap64 ((Go.bits .and .i64 (wrap64 ((t123 : Int) / 4503599627370496)) 2047) - 1023)))) < (-1075)) = true := decide_eq_true c9
          clear c9
          replace H := Option.bind_eq_some_iff.mp H
          obtain ⟨t125, A100, H⟩ := H
          replace H : (some t125) = some r := H
          have A10 := Aside0.mk A100
          clear A100
          obtain rfl := Option.some.inj H
          go_enter Try.func62, Try.ntmps62
          go_wp2_with (first | ((with_reducible refine gate_callee (f := 44) rfl ?_); refine goesL_ (some 14) rfl rfl Try.func44 (by kernel_rfl) rfl #[.float .f64 a0, .int .i64 0] rfl (by (try simp only [List.map_toArray, List.map_cons, List.map_nil]); first | done | rfl | (simp only [List.length_drop, List.length_take]; rfl)) ?_; (with_reducible refine (math_IsInf.calls a0 0 false _ A4.out).mono ?_); rintro e w' ⟨rfl, ⟨nd, rfl⟩⟩; refine ⟨_, rfl, ?_⟩) | (go_at_call 37; (with_reducible refine (math_IsNaN.calls a0 false _ A6.out).mono ?_); rintro e w' ⟨rfl, ⟨nd, rfl⟩⟩) | ((with_reducible refine gate_callee (f := 68) rfl ?_); refine goesL_ (some 22) rfl rfl Try.func68 (by kernel_rfl) rfl #[.float .f64 a0] rfl (by (try simp only [List.map_toArray, List.map_cons, List.map_nil]); first | done | rfl | (simp only [List.length_drop, List.length_take]; rfl)) ?_; (with_reducible refine (math_normalize.calls a0 t123 t124 _ A8.out).mono ?_); rintro e w' ⟨rfl, ⟨nd, rfl⟩⟩; refine ⟨_, rfl, ?_⟩) | ((with_reducible refine gate_callee (f := 67) rfl ?_); refine goesL_ (some 40) rfl rfl Try.func67 (by kernel_rfl) rfl #[.float .f64 0, .float .f64 t123] rfl (by (try simp only [List.map_toArray, List.map_cons, List.map_nil]); first | done | rfl | (simp only [List.length_drop, List.length_take]; rfl)) ?_; (with_reducible refine (math_Copysign.calls 0 t123 t125 _ A10.out).mono ?_); rintro e w' ⟨rfl, ⟨nd, rfl⟩⟩; refine ⟨_, rfl, ?_⟩))
          go_ret
          exact ⟨by first | rfl | (simp; done) | (simp [*]; done), by repeat (first | exact Drawn0.refl _ | apply Drawn0.step)⟩
        · rw [if_neg c9] at H
          have c9b0 : decide ((wrap64 ((wrap64 (a1 + t124)) + (wrap64 ((Go.bits .and .i64 (wrap64 ((t123 : Int) / 4503599627370496)) 2047) - 1023)))) < (-1075)) = false := decide_eq_false c9
          clear c9
          by_cases c11 : (wrap64 ((wrap64 (a1 + t124)) + (wrap64 ((Go.bits .and .i64 (wrap64 ((t123 : Int) / 4503599627370496)) 2047) - 1023)))) > 1023
          · rw [if_pos c11] at H
            have c11b0 : decide (1023 < (wrap64 ((wrap64 (a1 + t124)) + (wrap64 ((Go.bits .and .i64 (wrap64 ((t123 : Int) / 4503599627370496)) 2047) - 1023))))) = true := decide_eq_true c11
            clear c11
            by_cases c12 : flt t123 0 = true
            · rw [if_pos c12] at H
              have c12b0 : flt t123 0 = true := c12
              clear c12
              replace H := Option.bind_eq_some_iff.mp H
              obtain ⟨t126, A130, H⟩ := H
              replace H : (some t126) = some r := H
              have A13 := Aside0.mk A130
              clear A130
              obtain rfl := Option.some.inj H
              go_enter Try.func62, Try.ntmps62
              go_wp2_with (first | ((with_reducible refine gate_callee (f := 44) rfl ?_); refine goesL_ (some 14) rfl rfl Try.func44 (by kernel_rfl) rfl #[.float .f64 a0, .int .i64 0] rfl (by (try simp only [List.map_toArray, List.map_cons, List.map_nil]); first | done | rfl | (simp only [List.length_drop, List.length_take]; rfl)) ?_; (with_reducible refine (math_IsInf.calls a0 0 false _ A4.out).mono ?_); rintro e w' ⟨rfl, ⟨nd, rfl⟩⟩; refine ⟨_, rfl, ?_⟩) | (go_at_call 37; (with_reducible refine (math_IsNaN.calls a0 false _ A6.out).mono ?_); rintro e w' ⟨rfl, ⟨nd, rfl⟩⟩) | ((with_reducible refine gate_callee (f := 68) rfl ?_); refine goesL_ (some 22) rfl rfl Try.func68 (by kernel_rfl) rfl #[.float .f64 a0] rfl (by (try simp only [List.map_toArray, List.map_cons, List.map_nil]); first | done | rfl | (simp only [List.length_drop, List.length_take]; rfl)) ?_; (with_reducible refine (math_normalize.calls a0 t123 t124 _ A8.out).mono ?_); rintro e w' ⟨rfl, ⟨nd, rfl⟩⟩; refine ⟨_, rfl, ?_⟩) | ((with_reducible refine gate_callee (f := 69) rfl ?_); refine goesL_ (some 45) rfl rfl Try.func69 (by kernel_rfl) rfl #[.int .i64 (-1)] rfl (by (try simp only [List.map_toArray, List.map_cons, List.map_nil]); first | done | rfl | (simp only [List.length_drop, List.length_take]; rfl)) ?_; (with_reducible refine (math_Inf.calls (-1) t126 _ A13.out).mono ?_); rintro e w' ⟨rfl, ⟨nd, rfl⟩⟩; refine ⟨_, rfl, ?_⟩))
              go_ret
              exact ⟨by first | rfl | (simp; done) | (simp [*]; done), by repeat (first | exact Drawn0.refl _ | apply Drawn0.step)⟩
            · rw [if_neg c12] at H
              have c12b0 : flt t123 0 = false := by simpa using c12
              clear c12
              replace H := Option.bind_eq_some_iff.mp H
              obtain ⟨t127, A140, H⟩ := H
              replace H : (some t127) = some r := H
              have A14 := Aside0.mk A140
              clear A140
              obtain rfl := Option.some.inj H
              go_enter Try.func62, Try.ntmps62
              go_wp2_with (first | ((with_reducible refine gate_callee (f := 44) rfl ?_); refine goesL_ (some 14) rfl rfl Try.func44 (by kernel_rfl) rfl #[.float .f64 a0, .int .i64 0] rfl (by (try simp only [List.map_toArray, List.map_cons, List.map_nil]); first | done | rfl | (simp only [List.length_drop, List.length_take]; rfl)) ?_; (with_reducible refine (math_IsInf.calls a0 0 false _ A4.out).mono ?_); rintro e w' ⟨rfl, ⟨nd, rfl⟩⟩; refine ⟨_, rfl, ?_⟩) | (go_at_call 37; (with_reducible refine (math_IsNaN.calls a0 false _ A6.out).mono ?_); rintro e w' ⟨rfl, ⟨nd, rfl⟩⟩) | ((with_reducible refine gate_callee (f := 68) rfl ?_); refine goesL_ (some 22) rfl rfl Try.func68 (by kernel_rfl) rfl #[.float .f64 a0] rfl (by (try simp only [List.map_toArray, List.map_cons, List.map_nil]); first | done | rfl | (simp only [List.length_drop, List.length_take]; rfl)) ?_; (with_reducible refine (math_normalize.calls a0 t123 t124 _ A8.out).mono ?_); rintro e w' ⟨rfl, ⟨nd, rfl⟩⟩; refine ⟨_, rfl, ?_⟩) | ((with_reducible refine gate_callee (f := 69) rfl ?_); refine goesL_ (some 46) rfl rfl Try.func69 (by kernel_rfl) rfl #[.int .i64 1] rfl (by (try simp only [List.map_toArray, List.map_cons, List.map_nil]); first | done | rfl | (simp only [List.length_drop, List.length_take]; rfl)) ?_; (with_reducible refine (math_Inf.calls 1 t127 _ A14.out).mono ?_); rintro e w' ⟨rfl, ⟨nd, rfl⟩⟩; refine ⟨_, rfl, ?_⟩))
              go_ret
              exact ⟨by first | rfl | (simp; done) | (simp [*]; done), by repeat (first | exact Drawn0.refl _ | apply Drawn0.step)⟩
          · rw [if_neg c11] at H
            have c11b0 : decide (1023 < (wrap64 ((wrap64 (a1 + t124)) + (wrap64 ((Go.bits .and .i64 (wrap64 ((t123 : Int) / 4503599627370496)) 2047) - 1023))))) = false := decide_eq_false c11
            clear c11
            by_cases c15 : (wrap64 ((wrap64 (a1 + t124)) + (wrap64 ((Go.bits .and .i64 (wrap64 ((t123 : Int) / 4503599627370496)) 2047) - 1023)))) < (-1022)
            · rw [if_pos c15] at H
              have c15b0 : decide ((wrap64 ((wrap64 (a1 + t124)) + (wrap64 ((Go.bits .and .i64 (wrap64 ((t123 : Int) / 4503599627370496)) 2047) - 1023)))) < (-1022)) = true := decide_eq_true c15
              clear c15
              by_cases c16 : fmulOk 4368491638549381120 (((Go.bits .or .u64 (Go.bits .andNot .u64 (t123 : Int) 9218868437227405312) (IntKind.u64.wrap ((IntKind.u64.wrap (wrap64 ((wrap64 ((wrap64 ((wrap64 (a1 + t124)) + (wrap64 ((Go.bits .and .i64 (wrap64 ((t123 : Int) / 4503599627370496)) 2047) - 1023)))) + 53)) + 1023))) * 4503599627370496))) : Int).toNat) = true
              · rw [if_pos c16] at H
                have c16b0 := eq_true c16
                have c16b1 : decide (fmulOk 4368491638549381120 (((Go.bits .or .u64 (Go.bits .andNot .u64 (t123 : Int) 9218868437227405312) (IntKind.u64.wrap ((IntKind.u64.wrap (wrap64 ((wrap64 ((wrap64 ((wrap64 (a1 + t124)) + (wrap64 ((Go.bits .and .i64 (wrap64 ((t123 : Int) / 4503599627370496)) 2047) - 1023)))) + 53)) + 1023))) * 4503599627370496))) : Int).toNat) = true) = true := decide_eq_true c16
                obtain rfl := Option.some.inj H
                go_enter Try.func62, Try.ntmps62
                go_wp2_with (first | ((with_reducible refine gate_callee (f := 44) rfl ?_); refine goesL_ (some 14) rfl rfl Try.func44 (by kernel_rfl) rfl #[.float .f64 a0, .int .i64 0] rfl (by (try simp only [List.map_toArray, List.map_cons, List.map_nil]); first | done | rfl | (simp only [List.length_drop, List.length_take]; rfl)) ?_; (with_reducible refine (math_IsInf.calls a0 0 false _ A4.out).mono ?_); rintro e w' ⟨rfl, ⟨nd, rfl⟩⟩; refine ⟨_, rfl, ?_⟩) | (go_at_call 37; (with_reducible refine (math_IsNaN.calls a0 false _ A6.out).mono ?_); rintro e w' ⟨rfl, ⟨nd, rfl⟩⟩) | ((with_reducible refine gate_callee (f := 68) rfl ?_); refine goesL_ (some 22) rfl rfl Try.func68 (by kernel_rfl) rfl #[.float .f64 a0] rfl (by (try simp only [List.map_toArray, List.map_cons, List.map_nil]); first | done | rfl | (simp only [List.length_drop, List.length_take]; rfl)) ?_; (with_reducible refine (math_normalize.calls a0 t123 t124 _ A8.out).mono ?_); rintro e w' ⟨rfl, ⟨nd, rfl⟩⟩; refine ⟨_, rfl, ?_⟩))
                go_ret
                exact ⟨by first | rfl | (simp; done) | (simp [*]; done), by repeat (first | exact Drawn0.refl _ | apply Drawn0.step)⟩
              · rw [if_neg c16] at H
                exact absurd H (by simp)
            · rw [if_neg c15] at H
              have c15b0 : decide ((wrap64 ((wrap64 (a1 + t124)) + (wrap64 ((Go.bits .and .i64 (wrap64 ((t123 : Int) / 4503599627370496)) 2047) - 1023)))) < (-1022)) = false := decide_eq_false c15
              clear c15
              by_cases c17 : fmulOk 4607182418800017408 (((Go.bits .or .u64 (Go.bits .andNot .u64 (t123 : Int) 9218868437227405312) (IntKind.u64.wrap ((IntKind.u64.wrap (wrap64 ((wrap64 ((wrap64 (a1 + t124)) + (wrap64 ((Go.bits .and .i64 (wrap64 ((t123 : Int) / 4503599627370496)) 2047) - 1023)))) + 1023))) * 4503599627370496))) : Int).toNat) = true
              · rw [if_pos c17] at H
                have c17b0 := eq_true c17
                have c17b1 : decide (fmulOk 4607182418800017408 (((Go.bits .or .u64 (Go.bits .andNot .u64 (t123 : Int) 9218868437227405312) (IntKind.u64.wrap ((IntKind.u64.wrap (wrap64 ((wrap64 ((wrap64 (a1 + t124)) + (wrap64 ((Go.bits .and .i64 (wrap64 ((t123 : Int) / 4503599627370496)) 2047) - 1023)))) + 1023))) * 4503599627370496))) : Int).toNat) = true) = true := decide_eq_true c17
                obtain rfl := Option.some.inj H
                go_enter Try.func62, Try.ntmps62
                go_wp2_with (first | ((with_reducible refine gate_callee (f := 44) rfl ?_); refine goesL_ (some 14) rfl rfl Try.func44 (by kernel_rfl) rfl #[.float .f64 a0, .int .i64 0] rfl (by (try simp only [List.map_toArray, List.map_cons, List.map_nil]); first | done | rfl | (simp only [List.length_drop, List.length_take]; rfl)) ?_; (with_reducible refine (math_IsInf.calls a0 0 false _ A4.out).mono ?_); rintro e w' ⟨rfl, ⟨nd, rfl⟩⟩; refine ⟨_, rfl, ?_⟩) | (go_at_call 37; (with_reducible refine (math_IsNaN.calls a0 false _ A6.out).mono ?_); rintro e w' ⟨rfl, ⟨nd, rfl⟩⟩) | ((with_reducible refine gate_callee (f := 68) rfl ?_); refine goesL_ (some 22) rfl rfl Try.func68 (by kernel_rfl) rfl #[.float .f64 a0] rfl (by (try simp only [List.map_toArray, List.map_cons, List.map_nil]); first | done | rfl | (simp only [List.length_drop, List.length_take]; rfl)) ?_; (with_reducible refine (math_normalize.calls a0 t123 t124 _ A8.out).mono ?_); rintro e w' ⟨rfl, ⟨nd, rfl⟩⟩; refine ⟨_, rfl, ?_⟩))
                go_ret
                exact ⟨by first | rfl | (simp; done) | (simp [*]; done), by repeat (first | exact Drawn0.refl _ | apply Drawn0.step)⟩
              · rw [if_neg c17] at H
                exact absurd H (by simp)

/-! ### math_Ldexp: function 49 -/
def math_Ldexp.f (a0 : Nat) (a1 : Int) : Option (Nat) := (math_ldexp.f a0 a1).bind fun t128 => (some t128)
set_option maxHeartbeats 8000000 in
set_option maxRecDepth 100000 in
theorem math_Ldexp.calls (a0 : Nat) (a1 : Int) (r : Nat) (w : World) (h : math_Ldexp.f a0 a1 = some r) :
    Calls Try.prog 49 #[.float .f64 a0, .int .i64 a1] w fun e w' => e = .returned (.float .f64 r) ∧ Drawn0 w w' := by
  have H : ((math_ldexp.f a0 a1).bind fun t128 => (some t128)) = some r := h
  clear h
  replace H := Option.bind_eq_some_iff.mp H
  obtain ⟨t128, A30, H⟩ := H
  replace H : (some t128) = some r := H
  have A3 := Aside0.mk A30
  clear A30
  obtain rfl := Option.some.inj H
  go_enter Try.func49, Try.ntmps49
  go_wp2_with (first | ((with_reducible refine gate_callee (f := 62) rfl ?_); refine goesL_ (some 10) rfl rfl Try.func62 (by kernel_rfl) rfl #[.float .f64 a0, .int .i64 a1] rfl (by (try simp only [List.map_toArray, List.map_cons, List.map_nil]); first | done | rfl | (simp only [List.length_drop, List.length_take]; rfl)) ?_; (with_reducible refine (math_ldexp.calls a0 a1 t128 _ A3.out).mono ?_); rintro e w' ⟨rfl, ⟨nd, rfl⟩⟩; refine ⟨_, rfl, ?_⟩))
  go_ret
  exact ⟨by first | rfl | (simp; done) | (simp [*]; done), by repeat (first | exact Drawn0.refl _ | apply Drawn0.step)⟩

/-! ### impl_PartsOf: function 26 -/
mutual
def impl_PartsOf.j0 : Nat → Nat → Bool → Option (Int × Int × Bool)
  | 0, _, _ => none
  | k + 1, x0, x16 => if x16 = true then (some (0, 0, false)) else ((math_Frexp.f k x0).bind fun bt130 => ((math_Ldexp.f bt130.1 53).bind fun t132 => (if fintOk t132 = true then (impl_PartsOf.l0 k (wrap64 (bt130.2 - 53)) (fint t132)) else (none))))
def impl_PartsOf.l0 : Nat → Int → Int → Option (Int × Int × Bool)
  | 0, _, _ => none
  | k + 1, x7, x8 => if (Int.tmod x8 2) = 0 then (impl_PartsOf.l0 k (wrap64 (x7 + 1)) (wrap64 (Int.tdiv x8 2))) else (some (x8, x7, true))
end
def impl_PartsOf.f (k : Nat) (a0 : Nat) : Option (Int × Int × Bool) := (impl_KindOf.f a0).bind fun t129 => (if t129 = 3 then (impl_PartsOf.j0 k a0 false) else (impl_PartsOf.j0 k a0 (t129 != 4)))
theorem impl_PartsOf.mono_l : ∀ k, (∀ y0 y1, LeO (impl_PartsOf.j0 k y0 y1) (impl_PartsOf.j0 (k + 1) y0 y1)) ∧ (∀ y0 y1, LeO (impl_PartsOf.l0 k y0 y1) (impl_PartsOf.l0 (k + 1) y0 y1))
  | 0 => ⟨fun _ _ r h => by simp [impl_PartsOf.j0] at h, fun _ _ r h => by simp [impl_PartsOf.l0] at h⟩
  | k + 1 => by
    obtain ⟨ih0, ih1⟩ := impl_PartsOf.mono_l k
    refine ⟨?_, ?_⟩
    · intro y0 y1
      unfold impl_PartsOf.j0
      repeat' first
      | (with_reducible exact ih0 _ _)
      | (with_reducible exact ih1 _ _)
      | (with_reducible exact math_Frexp.mono _ _)
      | (with_reducible exact LeO.refl _)
      | (with_reducible exact LeO.none _)
      | (with_reducible refine LeO.ite ?_ ?_)
      | (with_reducible refine LeO.bind ?_ (fun _ => ?_))
      | exact ih0 _ _
      | exact ih1 _ _
      | exact math_Frexp.mono _ _
      | exact LeO.none _
      | refine LeO.ite ?_ ?_
      | refine LeO.bind ?_ (fun _ => ?_)
    · intro y0 y1
      unfold impl_PartsOf.l0
      repeat' first
      | (with_reducible exact ih0 _ _)
      | (with_reducible exact ih1 _ _)
      | (with_reducible exact math_Frexp.mono _ _)
      | (with_reducible exact LeO.refl _)
      | (with_reducible exact LeO.none _)
      | (with_reducible refine LeO.ite ?_ ?_)
      | (with_reducible refine LeO.bind ?_ (fun _ => ?_))
      | exact ih0 _ _
      | exact ih1 _ _
      | exact math_Frexp.mono _ _
      | exact LeO.none _
      | refine LeO.ite ?_ ?_
      | refine LeO.bind ?_ (fun _ => ?_)
theorem impl_PartsOf.mono : ∀ a0 k, LeO (impl_PartsOf.f k a0) (impl_PartsOf.f (k + 1) a0) := by
  intro a0 k
  obtain ⟨ih0, ih1⟩ := impl_PartsOf.mono_l k
  unfold impl_PartsOf.f
  repeat' first
      | (with_reducible exact ih0 _ _)
      | (with_reducible exact ih1 _ _)
      | (with_reducible exact math_Frexp.mono _ _)
      | (with_reducible exact LeO.refl _)
      | (with_reducible exact LeO.none _)
      | (with_reducible refine LeO.ite ?_ ?_)
      | (with_reducible refine LeO.bind ?_ (fun _ => ?_))
      | exact ih0 _ _
      | exact ih1 _ _
      | exact math_Frexp.mono _ _
      | exact LeO.none _
      | refine LeO.ite ?_ ?_
      | refine LeO.bind ?_ (fun _ => ?_)
set_option maxHeartbeats 8000000 in
set_option maxRecDepth 100000 in
theorem impl_PartsOf.calls (k : Nat) (a0 : Nat) (r1 : Int) (r2 : Int) (r3 : Bool) (w : World) (h : impl_PartsOf.f k a0 = some (r1, r2, r3)) :
    Calls Try.prog 26 #[.float .f64 a0] w fun e w' => e = .returned (.tuple #[.int .i64 r1, .int .i64 r2, .bool r3]) ∧ Drawn0 w w' := by
  have H : ((impl_KindOf.f a0).bind fun t129 => (if t129 = 3 then (impl_PartsOf.j0 k a0 false) else (impl_PartsOf.j0 k a0 (t129 != 4)))) = some (r1, r2, r3) := h
  clear h
  replace H := Option.bind_eq_some_iff.mp H
  obtain ⟨t129, A20, H⟩ := H
  replace H : (if t129 = 3 then (impl_PartsOf.j0 k a0 false) else (impl_PartsOf.j0 k a0 (t129 != 4))) = some (r1, r2, r3) := H
  have A2 := Aside0.mk A20
  clear A20
  have HC3 := Aside0.mk H
  clear H
  go_enter Try.func26, Try.ntmps26
  go_upto_region 2 with (first | ((with_reducible refine gate_callee (f := 19) rfl ?_); refine goesL_ (some 10) rfl rfl Try.func19 (by kernel_rfl) rfl #[.float .f64 a0] rfl (by (try simp only [List.map_toArray, List.map_cons, List.map_nil]); first | done | rfl | (simp only [List.length_drop, List.length_take]; rfl)) ?_; (with_reducible refine (impl_KindOf.calls a0 t129 _ A2.out).mono ?_); rintro e w' ⟨rfl, ⟨nd, rfl⟩⟩; refine ⟨_, rfl, ?_⟩))
  (try simp only [Act.put, List.setIfInBounds_toArray, List.set_cons_zero, List.set_cons_succ])
  go_cut [16] (fun v16 wc => ∃ (kq : Nat) (x16_2 : Bool), v16 = .bool x16_2 ∧ Aside0 (impl_PartsOf.j0 kq a0 x16_2 = some (r1, r2, r3)) ∧ Aside0 (kq ≤ k) ∧ Drawn0 w wc)
  case first =>
    have H := HC3.out
    clear HC3
    by_cases c4 : t129 = 3
    · rw [if_pos c4] at H
      have c4b0 : (t129 == 3) = true := beq_iff_eq.mpr c4
      have c4b1 : (t129 != 3) = false := bne_eq_false_iff_eq.mpr c4
      clear c4
      (first | rw [c4b0] | (simp only [i64_w, i32_w]; rw [c4b0]) | skip)
      have H' := Aside0.mk H
      clear H
      go_wp2
      go_meet
      case rel => exact ⟨_, (false), (by first | rfl | (simp; done) | (simp [*]; done)), H', ⟨by first | omega | exact Nat.le_refl _⟩, by repeat (first | exact Drawn0.refl _ | apply Drawn0.step)⟩
    · rw [if_neg c4] at H
      have c4b0 : (t129 == 3) = false := beq_eq_false_iff_ne.mpr c4
      have c4b1 : (t129 != 3) = true := bne_iff_ne.mpr c4
      (first | rw [c4b0] | (simp only [i64_w, i32_w]; rw [c4b0]) | skip)
      have H' := Aside0.mk H
      clear H
      go_wp2
      go_meet
      case rel => exact ⟨_, ((t129 != 4)), (by first | rfl | (simp; done) | (simp [*]; done)), H', ⟨by first | omega | exact Nat.le_refl _⟩, by repeat (first | exact Drawn0.refl _ | apply Drawn0.step)⟩
  case rest =>
    clear HC3
    try clear c1
    try clear c2
    try clear p2
    try clear c4
    try clear c4b0
    try clear c4b1
    obtain ⟨kq, x16_2, rfl, HA, HJ2, ⟨mc2, rfl⟩⟩ := hcut
    cases kq with
    | zero => exact absurd HA.out (by simp [impl_PartsOf.j0])
    | succ kj2 =>
      have H := HA.out
      clear HA
      simp only [impl_PartsOf.j0] at H
      by_cases c5 : x16_2 = true
      · subst c5
        have H1 : (some (0, 0, false)) = some (r1, r2, r3) := by rw [if_pos rfl] at H; exact H
        clear H
        have H := H1
        clear H1
        simp only [Option.some.injEq, Prod.mk.injEq] at H
        obtain ⟨rfl, rfl, rfl⟩ := H
        go_wp2
        go_ret3
        exact ⟨by first | rfl | (simp; done) | (simp [*]; done), by repeat (first | exact Drawn0.refl _ | apply Drawn0.step)⟩
      · replace c5 := Bool.eq_false_iff.mpr c5
        subst c5
        have H1 : ((math_Frexp.f kj2 a0).bind fun bt130 => ((math_Ldexp.f bt130.1 53).bind fun t132 => (if fintOk t132 = true then (impl_PartsOf.l0 kj2 (wrap64 (bt130.2 - 53)) (fint t132)) else (none)))) = some (r1, r2, r3) := by rw [if_neg (show ¬ (false = true) by decide)] at H; exact H
        clear H
        have H := H1
        clear H1
        replace H := Option.bind_eq_some_iff.mp H
        obtain ⟨⟨t130, t131⟩, A60, H⟩ := H
        replace H : ((math_Ldexp.f t130 53).bind fun t132 => (if fintOk t132 = true then (impl_PartsOf.l0 kj2 (wrap64 (t131 - 53)) (fint t132)) else (none))) = some (r1, r2, r3) := H
        have A6 := Aside0.mk A60
        clear A60
        replace H := Option.bind_eq_some_iff.mp H
        obtain ⟨t132, A70, H⟩ := H
        replace H : (if fintOk t132 = true then (impl_PartsOf.l0 kj2 (wrap64 (t131 - 53)) (fint t132)) else (none)) = some (r1, r2, r3) := H
        have A7 := Aside0.mk A70
        clear A70
        by_cases c8 : fintOk t132 = true
        · rw [if_pos c8] at H
          have c8b0 := eq_true c8
          have c8b1 : decide (fintOk t132 = true) = true := decide_eq_true c8
          clear c8
          have H' := Aside0.mk H
          clear H
          go_wp2_with (first | ((with_reducible refine gate_callee (f := 48) rfl ?_); refine goesL_ (some 19) rfl rfl Try.func48 (by kernel_rfl) rfl #[.float .f64 a0] rfl (by (try simp only [List.map_toArray, List.map_cons, List.map_nil]); first | done | rfl | (simp only [List.length_drop, List.length_take]; rfl)) ?_; (with_reducible refine (math_Frexp.calls kj2 a0 t130 t131 _ A6.out).mono ?_); rintro e w' ⟨rfl, ⟨nd, rfl⟩⟩; refine ⟨_, rfl, ?_⟩) | ((with_reducible refine gate_callee (f := 49) rfl ?_); refine goesL_ (some 23) rfl rfl Try.func49 (by kernel_rfl) rfl #[.float .f64 t130, .int .i64 53] rfl (by (try simp only [List.map_toArray, List.map_cons, List.map_nil]); first | done | rfl | (simp only [List.length_drop, List.length_take]; rfl)) ?_; (with_reducible refine (math_Ldexp.calls t130 53 t132 _ A7.out).mono ?_); rintro e w' ⟨rfl, ⟨nd, rfl⟩⟩; refine ⟨_, rfl, ?_⟩))
          go_loopg [7, 8] kj2 (fun kq v7 v8 w' => ∃ (x7_2 : Int) (x8_2 : Int), v7 = .int .i64 x7_2 ∧ v8 = .int .i64 x8_2 ∧ Aside0 (impl_PartsOf.l0 kq x7_2 x8_2 = some (r1, r2, r3)) ∧ Aside0 (kq ≤ kj2) ∧ Drawn0 w w')
          case atStart => exact ⟨(wrap64 (t131 - 53)), (fint t132), (by first | rfl | (simp; done) | (simp [*]; done)), (by first | rfl | (simp; done) | (simp [*]; done)), H', ⟨Nat.le_refl _⟩, by repeat (first | exact Drawn0.refl _ | apply Drawn0.step)⟩
          case round =>
            clear H'
            try clear c1
            try clear c2
            try clear p2
            try clear c4
            try clear c4b0
            try clear c4b1
            try clear c5
            try clear p6
            try clear c8
            try clear c8b0
            try clear c8b1
            try clear p2
            obtain ⟨x7_2, x8_2, rfl, rfl, HA, HK2, ⟨m2, rfl⟩⟩ := hrel
            cases gk with
            | zero => exact absurd HA.out (by simp [impl_PartsOf.l0])
            | succ k2 =>
              have H := HA.out
              clear HA
              simp only [impl_PartsOf.l0] at H
              by_cases c9 : (Int.tmod x8_2 2) = 0
              · rw [if_pos c9] at H
                have c9b0 : ((Int.tmod x8_2 2) == 0) = true := beq_iff_eq.mpr c9
                have c9b1 : ((Int.tmod x8_2 2) != 0) = false := bne_eq_false_iff_eq.mpr c9
                clear c9
                have H' := Aside0.mk H
                clear H
                go_wp2
                go_roundg k2
                case measure => have := HJ2.out; have := HK2.out; omega
                case rel => exact ⟨(wrap64 (x7_2 + 1)), (wrap64 (Int.tdiv x8_2 2)), (by first | rfl | (simp; done) | (simp [*]; done)), (by first | rfl | (simp; done) | (simp [*]; done)), H', ⟨by have := HJ2.out; have := HK2.out; omega⟩, by repeat (first | exact Drawn0.refl _ | apply Drawn0.step)⟩
              · rw [if_neg c9] at H
                have c9b0 : ((Int.tmod x8_2 2) == 0) = false := beq_eq_false_iff_ne.mpr c9
                have c9b1 : ((Int.tmod x8_2 2) != 0) = true := bne_iff_ne.mpr c9
                simp only [Option.some.injEq, Prod.mk.injEq] at H
                obtain ⟨rfl, rfl, rfl⟩ := H
                go_wp2
                go_ret3
                exact ⟨by first | rfl | (simp; done) | (simp [*]; done), by repeat (first | exact Drawn0.refl _ | apply Drawn0.step)⟩
        · rw [if_neg c8] at H
          exact absurd H (by simp)

/-! ### laws_FnExactPartsOf: function 9 -/
def laws_FnExactPartsOf.f (k : Nat) (a0 : Nat) : Option (Bool) := (spec_PartsOf.f k a0).bind fun bt133 => ((impl_PartsOf.f k a0).bind fun bt136 => (if bt136.1 = bt133.1 then (if bt136.2.1 = bt133.2.1 then (if (bt136.2.2 != bt133.2.2) = true then (some false) else (some true)) else (some false)) else (some false)))
theorem laws_FnExactPartsOf.mono : ∀ a0 k, LeO (laws_FnExactPartsOf.f k a0) (laws_FnExactPartsOf.f (k + 1) a0) := by
  intro a0 k
  unfold laws_FnExactPartsOf.f
  repeat' first
      | (with_reducible exact impl_PartsOf.mono _ _)
      | (with_reducible exact spec_PartsOf.mono _ _)
      | (with_reducible exact LeO.refl _)
      | (with_reducible exact LeO.none _)
      | (with_reducible refine LeO.ite ?_ ?_)
      | (with_reducible refine LeO.bind ?_ (fun _ => ?_))
      | exact impl_PartsOf.mono _ _
      | exact spec_PartsOf.mono _ _
      | exact LeO.none _
      | refine LeO.ite ?_ ?_
      | refine LeO.bind ?_ (fun _ => ?_)
set_option maxHeartbeats 8000000 in
set_option maxRecDepth 100000 in
theorem laws_FnExactPartsOf.calls (k : Nat) (a0 : Nat) (r : Bool) (w : World) (h : laws_FnExactPartsOf.f k a0 = some r) :
    Calls Try.prog 9 #[.float .f64 a0] w fun e w' => e = .returned (.bool r) ∧ Drawn0 w w' := by
  have H : ((spec_PartsOf.f k a0).bind fun bt133 => ((impl_PartsOf.f k a0).bind fun bt136 => (if bt136.1 = bt133.1 then (if bt136.2.1 = bt133.2.1 then (if (bt136.2.2 != bt133.2.2) = true then (some false) else (some true)) else (some false)) else (some false)))) = some r := h
  clear h
  replace H := Option.bind_eq_some_iff.mp H
  obtain ⟨⟨t133, t134, t135⟩, A20, H⟩ := H
  replace H : ((impl_PartsOf.f k a0).bind fun bt136 => (if bt136.1 = t133 then (if bt136.2.1 = t134 then (if (bt136.2.2 != t135) = true then (some false) else (some true)) else (some false)) else (some false))) = some r := H
  have A2 := Aside0.mk A20
  clear A20
  replace H := Option.bind_eq_some_iff.mp H
  obtain ⟨⟨t136, t137, t138⟩, A30, H⟩ := H
  replace H : (if t136 = t133 then (if t137 = t134 then (if (t138 != t135) = true then (some false) else (some true)) else (some false)) else (some false)) = some r := H
  have A3 := Aside0.mk A30
  clear A30
  by_cases c4 : t136 = t133
  · rw [if_pos c4] at H
    have c4b0 : (t136 == t133) = true := beq_iff_eq.mpr c4
    have c4b1 : (t136 != t133) = false := bne_eq_false_iff_eq.mpr c4
    clear c4
    by_cases c5 : t137 = t134
    · rw [if_pos c5] at H
      have c5b0 : (t137 == t134) = true := beq_iff_eq.mpr c5
      have c5b1 : (t137 != t134) = false := bne_eq_false_iff_eq.mpr c5
      clear c5
      by_cases c6 : (t138 != t135) = true
      · rw [if_pos c6] at H
        have c6b0 : (t138 != t135) = true := c6
        (try (have c6b1 : decide (t138 = t135) = false := by simpa using c6))
        (try (have c6b2 : (t138 == t135) = false := by simpa using c6))
        (try (have c6b3 : ¬ (t138 = t135) := by simpa using c6))
        clear c6
        obtain rfl := Option.some.inj H
        go_enter Try.func9, Try.ntmps9
        go_wp2_with (first | ((with_reducible refine gate_callee (f := 25) rfl ?_); refine goesL_ (some 11) rfl rfl Try.func25 (by kernel_rfl) rfl #[.float .f64 a0] rfl (by (try simp only [List.map_toArray, List.map_cons, List.map_nil]); first | done | rfl | (simp only [List.length_drop, List.length_take]; rfl)) ?_; (with_reducible refine (spec_PartsOf.calls k a0 t133 t134 t135 _ A2.out).mono ?_); rintro e w' ⟨rfl, ⟨nd, rfl⟩⟩; refine ⟨_, rfl, ?_⟩) | ((with_reducible refine gate_callee (f := 26) rfl ?_); refine goesL_ (some 17) rfl rfl Try.func26 (by kernel_rfl) rfl #[.float .f64 a0] rfl (by (try simp only [List.map_toArray, List.map_cons, List.map_nil]); first | done | rfl | (simp only [List.length_drop, List.length_take]; rfl)) ?_; (with_reducible refine (impl_PartsOf.calls k a0 t136 t137 t138 _ A3.out).mono ?_); rintro e w' ⟨rfl, ⟨nd, rfl⟩⟩; refine ⟨_, rfl, ?_⟩))
        go_ret
        exact ⟨by first | rfl | (simp; done) | (simp [*]; done), by repeat (first | exact Drawn0.refl _ | apply Drawn0.step)⟩
      · rw [if_neg c6] at H
        have c6b0 : (t138 != t135) = false := by simpa using c6
        (try (have c6b1 : decide (t138 = t135) = true := by simpa using c6))
        (try (have c6b2 : (t138 == t135) = true := by simpa using c6))
        clear c6
        obtain rfl := Option.some.inj H
        go_enter Try.func9, Try.ntmps9
        go_wp2_with (first | ((with_reducible refine gate_callee (f := 25) rfl ?_); refine goesL_ (some 11) rfl rfl Try.func25 (by kernel_rfl) rfl #[.float .f64 a0] rfl (by (try simp only [List.map_toArray, List.map_cons, List.map_nil]); first | done | rfl | (simp only [List.length_drop, List.length_take]; rfl)) ?_; (with_reducible refine (spec_PartsOf.calls k a0 t133 t134 t135 _ A2.out).mono ?_); rintro e w' ⟨rfl, ⟨nd, rfl⟩⟩; refine ⟨_, rfl, ?_⟩) | ((with_reducible refine gate_callee (f := 26) rfl ?_); refine goesL_ (some 17) rfl rfl Try.func26 (by kernel_rfl) rfl #[.float .f64 a0] rfl (by (try simp only [List.map_toArray, List.map_cons, List.map_nil]); first | done | rfl | (simp only [List.length_drop, List.length_take]; rfl)) ?_; (with_reducible refine (impl_PartsOf.calls k a0 t136 t137 t138 _ A3.out).mono ?_); rintro e w' ⟨rfl, ⟨nd, rfl⟩⟩; refine ⟨_, rfl, ?_⟩))
        go_ret
        exact ⟨by first | rfl | (simp; done) | (simp [*]; done), by repeat (first | exact Drawn0.refl _ | apply Drawn0.step)⟩
    · rw [if_neg c5] at H
      have c5b0 : (t137 == t134) = false := beq_eq_false_iff_ne.mpr c5
      have c5b1 : (t137 != t134) = true := bne_iff_ne.mpr c5
      obtain rfl := Option.some.inj H
      go_enter Try.func9, Try.ntmps9
      go_wp2_with (first | ((with_reducible refine gate_callee (f := 25) rfl ?_); refine goesL_ (some 11) rfl rfl Try.func25 (by kernel_rfl) rfl #[.float .f64 a0] rfl (by (try simp only [List.map_toArray, List.map_cons, List.map_nil]); first | done | rfl | (simp only [List.length_drop, List.length_take]; rfl)) ?_; (with_reducible refine (spec_PartsOf.calls k a0 t133 t134 t135 _ A2.out).mono ?_); rintro e w' ⟨rfl, ⟨nd, rfl⟩⟩; refine ⟨_, rfl, ?_⟩) | ((with_reducible refine gate_callee (f := 26) rfl ?_); refine goesL_ (some 17) rfl rfl Try.func26 (by kernel_rfl) rfl #[.float .f64 a0] rfl (by (try simp only [List.map_toArray, List.map_cons, List.map_nil]); first | done | rfl | (simp only [List.length_drop, List.length_take]; rfl)) ?_; (with_reducible refine (impl_PartsOf.calls k a0 t136 t137 t138 _ A3.out).mono ?_); rintro e w' ⟨rfl, ⟨nd, rfl⟩⟩; refine ⟨_, rfl, ?_⟩))
      go_ret
      exact ⟨by first | rfl | (simp; done) | (simp [*]; done), by repeat (first | exact Drawn0.refl _ | apply Drawn0.step)⟩
  · rw [if_neg c4] at H
    have c4b0 : (t136 == t133) = false := beq_eq_false_iff_ne.mpr c4
    have c4b1 : (t136 != t133) = true := bne_iff_ne.mpr c4
    obtain rfl := Option.some.inj H
    go_enter Try.func9, Try.ntmps9
    go_wp2_with (first | ((with_reducible refine gate_callee (f := 25) rfl ?_); refine goesL_ (some 11) rfl rfl Try.func25 (by kernel_rfl) rfl #[.float .f64 a0] rfl (by (try simp only [List.map_toArray, List.map_cons, List.map_nil]); first | done | rfl | (simp only [List.length_drop, List.length_take]; rfl)) ?_; (with_reducible refine (spec_PartsOf.calls k a0 t133 t134 t135 _ A2.out).mono ?_); rintro e w' ⟨rfl, ⟨nd, rfl⟩⟩; refine ⟨_, rfl, ?_⟩) | ((with_reducible refine gate_callee (f := 26) rfl ?_); refine goesL_ (some 17) rfl rfl Try.func26 (by kernel_rfl) rfl #[.float .f64 a0] rfl (by (try simp only [List.map_toArray, List.map_cons, List.map_nil]); first | done | rfl | (simp only [List.length_drop, List.length_take]; rfl)) ?_; (with_reducible refine (impl_PartsOf.calls k a0 t136 t137 t138 _ A3.out).mono ?_); rintro e w' ⟨rfl, ⟨nd, rfl⟩⟩; refine ⟨_, rfl, ?_⟩))
    go_ret
    exact ⟨by first | rfl | (simp; done) | (simp [*]; done), by repeat (first | exact Drawn0.refl _ | apply Drawn0.step)⟩

end Go.Proofs.Ytahnllomlgillaa.GPartsOf

-- Printed by wip/tools/print2.py out of the translation: walks and plain functions; Lean checks them.
import Derived.Test.YtahnllomlgillaaGNumOfx0
import Derived.Test.YtahnllomlgillaaGNumOfx1
import Derived.Test.YtahnllomlgillaaGNumOfx2
namespace Go.Proofs.Ytahnllomlgillaa.GNumOf
open Go.RowKit Go.Proofs.YtahnllomlgillaaW.PrintWords Go.Proofs.YtahnllomlgillaaW.PrintLast Go.Proofs.YtahnllomlgillaaW.PrintMore
attribute [local go_sem] max2_int min2_int max_two min_two max_three min_three max_four min_four   -- for this text's walks alone
set_option linter.unusedVariables false
set_option linter.unusedSimpArgs false

/-! ### math_ldexp: function 62 -/
def math_ldexp.f (a0 : Nat) (a1 : Int) : Option (Nat) := if feq a0 0 = true then (some a0) else ((math_IsInf.f a0 0).bind fun t120 => (if t120 = true then (some a0) else ((math_IsNaN.f a0).bind fun t121 => (if t121 = true then (some a0) else ((math_normalize.f a0).bind fun bt122 => (if (wrap64 ((wrap64 (a1 + bt122.2)) + (wrap64 ((Go.bits .and .i64 (wrap64 ((bt122.1 : Int) / 4503599627370496)) 2047) - 1023)))) < (-1075) then ((math_Copysign.f 0 bt122.1).bind fun t124 => (some t124)) else (if (wrap64 ((wrap64 (a1 + bt122.2)) + (wrap64 ((Go.bits .and .i64 (wrap64 ((bt122.1 : Int) / 4503599627370496)) 2047) - 1023)))) > 1023 then (if flt bt122.1 0 = true then ((math_Inf.f (-1)).bind fun t125 => (some t125)) else ((math_Inf.f 1).bind fun t126 => (some t126))) else (if (wrap64 ((wrap64 (a1 + bt122.2)) + (wrap64 ((Go.bits .and .i64 (wrap64 ((bt122.1 : Int) / 4503599627370496)) 2047) - 1023)))) < (-1022) then (if fmulOk 4368491638549381120 (((Go.bits .or .u64 (Go.bits .andNot .u64 (bt122.1 : Int) 9218868437227405312) (IntKind.u64.wrap ((IntKind.u64.wrap (wrap64 ((wrap64 ((wrap64 ((wrap64 (a1 + bt122.2)) + (wrap64 ((Go.bits .and .i64 (wrap64 ((bt122.1 : Int) / 4503599627370496)) 2047) - 1023)))) + 53)) + 1023))) * 4503599627370496))) : Int).toNat) = true then (some (fmul 4368491638549381120 (((Go.bits .or .u64 (Go.bits .andNot .u64 (bt122.1 : Int) 9218868437227405312) (IntKind.u64.wrap ((IntKind.u64.wrap (wrap64 ((wrap64 ((wrap64 ((wrap64 (a1 + bt122.2)) + (wrap64 ((Go.bits .and .i64 (wrap64 ((bt122.1 : Int) / 4503599627370496)) 2047) - 1023)))) + 53)) + 1023))) * 4503599627370496))) : Int).toNat))) else (none)) else (if fmulOk 4607182418800017408 (((Go.bits .or .u64 (Go.bits .andNot .u64 (bt122.1 : Int) 9218868437227405312) (IntKind.u64.wrap ((IntKind.u64.wrap (wrap64 ((wrap64 ((wrap64 (a1 + bt122.2)) + (wrap64 ((Go.bits .and .i64 (wrap64 ((bt122.1 : Int) / 4503599627370496)) 2047) - 1023)))) + 1023))) * 4503599627370496))) : Int).toNat) = true then (some (fmul 4607182418800017408 (((Go.bits .or .u64 (Go.bits .andNot .u64 (bt122.1 : Int) 9218868437227405312) (IntKind.u64.wrap ((IntKind.u64.wrap (wrap64 ((wrap64 ((wrap64 (a1 + bt122.2)) + (wrap64 ((Go.bits .and .i64 (wrap64 ((bt122.1 : Int) / 4503599627370496)) 2047) - 1023)))) + 1023))) * 4503599627370496))) : Int).toNat))) else (none))))))))))
set_option maxHeartbeats 8000000 in
set_option maxRecDepth 100000 in
theorem math_ldexp.calls (a0 : Nat) (a1 : Int) (r : Nat) (w : World) (h : math_ldexp.f a0 a1 = some r) :
    Calls Try.prog 62 #[.float .f64 a0, .int .i64 a1] w fun e w' => e = .returned (.float .f64 r) ∧ Drawn0 w w' := by
  have H : (if feq a0 0 = true then (some a0) else ((math_IsInf.f a0 0).bind fun t120 => (if t120 = true then (some a0) else ((math_IsNaN.f a0).bind fun t121 => (if t121 = true then (some a0) else ((math_normalize.f a0).bind fun bt122 => (if (wrap64 ((wrap64 (a1 + bt122.2)) + (wrap64 ((Go.bits .and .i64 (wrap64 ((bt122.1 : Int) / 4503599627370496)) 2047) - 1023)))) < (-1075) then ((math_Copysign.f 0 bt122.1).bind fun t124 => (some t124)) else (if (wrap64 ((wrap64 (a1 + bt122.2)) + (wrap64 ((Go.bits .and .i64 (wrap64 ((bt122.1 : Int) / 4503599627370496)) 2047) - 1023)))) > 1023 then (if flt bt122.1 0 = true then ((math_Inf.f (-1)).bind fun t125 => (some t125)) else ((math_Inf.f 1).bind fun t126 => (some t126))) else (if (wrap64 ((wrap64 (a1 + bt122.2)) + (wrap64 ((Go.bits .and .i64 (wrap64 ((bt122.1 : Int) / 4503599627370496)) 2047) - 1023)))) < (-1022) then (if fmulOk 4368491638549381120 (((Go.bits .or .u64 (Go.bits .andNot .u64 (bt122.1 : Int) 9218868437227405312) (IntKind.u64.wrap ((IntKind.u64.wrap (wrap64 ((wrap64 ((wrap64 ((wrap64 (a1 + bt122.2)) + (wrap64 ((Go.bits .and .i64 (wrap64 ((bt122.1 : Int) / 4503599627370496)) 2047) - 1023)))) + 53)) + 1023))) * 4503599627370496))) : Int).toNat) = true then (some (fmul 4368491638549381120 (((Go.bits .or .u64 (Go.bits .andNot .u64 (bt122.1 : Int) 9218868437227405312) (IntKind.u64.wrap ((IntKind.u64.wrap (wrap64 ((wrap64 ((wrap64 ((wrap64 (a1 + bt122.2)) + (wrap64 ((Go.bits .and .i64 (wrap64 ((bt122.1 : Int) / 4503599627370496)) 2047) - 1023)))) + 53)) + 1023))) * 4503599627370496))) : Int).toNat))) else (none)) else (if fmulOk 4607182418800017408 (((Go.bits .or .u64 (Go.bits .andNot .u64 (bt122.1 : Int) 9218868437227405312) (IntKind.u64.wrap ((IntKind.u64.wrap (wrap64 ((wrap64 ((wrap64 (a1 + bt122.2)) + (wrap64 ((Go.bits .and .i64 (wrap64 ((bt122.1 : Int) / 4503599627370496)) 2047) - 1023)))) + 1023))) * 4503599627370496))) : Int).toNat) = true then (some (fmul 4607182418800017408 (((Go.bits .or .u64 (Go.bits .andNot .u64 (bt122.1 : Int) 9218868437227405312) (IntKind.u64.wrap ((IntKind.u64.wrap (wrap64 ((wrap64 ((wrap64 (a1 + bt122.2)) + (wrap64 ((Go.bits .and .i64 (wrap64 ((bt122.1 : Int) / 4503599627370496)) 2047) - 1023)))) + 1023))) * 4503599627370496))) : Int).toNat))) else (none))))))))))) = some r := h
  clear h
  by_cases c3 : feq a0 0 = true
  · rw [if_pos c3] at H
    have c3b0 : feq a0 0 = true := c3
    clear c3
    obtain rfl := Option.some.inj H
    go_enter Try.func62, Try.ntmps62
    go_wp2
    go_ret
    exact ⟨by first | rfl | (simp; done) | (simp [*]; done), by repeat (first | exact Drawn0.refl _ | apply Drawn0.step)⟩
  · rw [if_neg c3] at H
    have c3b0 : feq a0 0 = false := by simpa using c3
    clear c3
    replace H := Option.bind_eq_some_iff.mp H
    obtain ⟨t120, A40, H⟩ := H
    replace H : (if t120 = true then (some a0) else ((math_IsNaN.f a0).bind fun t121 => (if t121 = true then (some a0) else ((math_normalize.f a0).bind fun bt122 => (if (wrap64 ((wrap64 (a1 + bt122.2)) + (wrap64 ((Go.bits .and .i64 (wrap64 ((bt122.1 : Int) / 4503599627370496)) 2047) - 1023)))) < (-1075) then ((math_Copysign.f 0 bt122.1).bind fun t124 => (some t124)) else (if (wrap64 ((wrap64 (a1 + bt122.2)) + (wrap64 ((Go.bits .and .i64 (wrap64 ((bt122.1 : Int) / 4503599627370496)) 2047) - 1023)))) > 1023 then (if flt bt122.1 0 = true then ((math_Inf.f (-1)).bind fun t125 => (some t125)) else ((math_Inf.f 1).bind fun t126 => (some t126))) else (if (wrap64 ((wrap64 (a1 + bt122.2)) + (wrap64 ((Go.bits .and .i64 (wrap64 ((bt122.1 : Int) / 4503599627370496)) 2047) - 1023)))) < (-1022) then (if fmulOk 4368491638549381120 (((Go.bits .or .u64 (Go.bits .andNot .u64 (bt122.1 : Int) 9218868437227405312) (IntKind.u64.wrap ((IntKind.u64.wrap (wrap64 ((wrap64 ((wrap64 ((wrap64 (a1 + bt122.2)) + (wrap64 ((Go.bits .and .i64 (wrap64 ((bt122.1 : Int) / 4503599627370496)) 2047) - 1023)))) + 53)) + 1023))) * 4503599627370496))) : Int).toNat) = true then (some (fmul 4368491638549381120 (((Go.bits .or .u64 (Go.bits .andNot .u64 (bt122.1 : Int) 9218868437227405312) (IntKind.u64.wrap ((IntKind.u64.wrap (wrap64 ((wrap64 ((wrap64 ((wrap64 (a1 + bt122.2)) + (wrap64 ((Go.bits .and .i64 (wrap64 ((bt122.1 : Int) / 4503599627370496)) 2047) - 1023)))) + 53)) + 1023))) * 4503599627370496))) : Int).toNat))) else (none)) else (if fmulOk 4607182418800017408 (((Go.bits .or .u64 (Go.bits .andNot .u64 (bt122.1 : Int) 9218868437227405312) (IntKind.u64.wrap ((IntKind.u64.wrap (wrap64 ((wrap64 ((wrap64 (a1 + bt122.2)) + (wrap64 ((Go.bits .and .i64 (wrap64 ((bt122.1 : Int) / 4503599627370496)) 2047) - 1023)))) + 1023))) * 4503599627370496))) : Int).toNat) = true then (some (fmul 4607182418800017408 (((Go.bits .or .u64 (Go.bits .andNot .u64 (bt122.1 : Int) 9218868437227405312) (IntKind.u64.wrap ((IntKind.u64.wrap (wrap64 ((wrap64 ((wrap64 (a1 + bt122.2)) + (wrap64 ((Go.bits .and .i64 (wrap64 ((bt122.1 : Int) / 4503599627370496)) 2047) - 1023)))) + 1023))) * 4503599627370496))) : Int).toNat))) else (none))))))))) = some r := H
    have A4 := Aside0.mk A40
    clear A40
    by_cases c5 : t120 = true
    · subst c5
      have H1 : (some a0) = some r := by rw [if_pos rfl] at H; exact H
      clear H
      have H := H1
      clear H1
      obtain rfl := Option.some.inj H
      go_enter Try.func62, Try.ntmps62
      go_wp2_with (first | ((with_reducible refine gate_callee (f := 44) rfl ?_); refine goesL_ (some 14) rfl rfl Try.func44 (by kernel_rfl) rfl #[.float .f64 a0, .int .i64 0] rfl (by (try simp only [List.map_toArray, List.map_cons, List.map_nil]); first | done | rfl | (simp only [List.length_drop, List.length_take]; rfl)) ?_; (with_reducible refine (math_IsInf.calls a0 0 true _ A4.out).mono ?_); rintro e w' ⟨rfl, ⟨nd, rfl⟩⟩; refine ⟨_, rfl, ?_⟩))
      go_ret
      exact ⟨by first | rfl | (simp; done) | (simp [*]; done), by repeat (first | exact Drawn0.refl _ | apply Drawn0.step)⟩
    · replace c5 := Bool.eq_false_iff.mpr c5
      subst c5
      have H1 : ((math_IsNaN.f a0).bind fun t121 => (if t121 = true then (some a0) else ((math_normalize.f a0).bind fun bt122 => (if (wrap64 ((wrap64 (a1 + bt122.2)) + (wrap64 ((Go.bits .and .i64 (wrap64 ((bt122.1 : Int) / 4503599627370496)) 2047) - 1023)))) < (-1075) then ((math_Copysign.f 0 bt122.1).bind fun t124 => (some t124)) else (if (wrap64 ((wrap64 (a1 + bt122.2)) + (wrap64 ((Go.bits .and .i64 (wrap64 ((bt122.1 : Int) / 4503599627370496)) 2047) - 1023)))) > 1023 then (if flt bt122.1 0 = true then ((math_Inf.f (-1)).bind fun t125 => (some t125)) else ((math_Inf.f 1).bind fun t126 => (some t126))) else (if (wrap64 ((wrap64 (a1 + bt122.2)) + (wrap64 ((Go.bits .and .i64 (wrap64 ((bt122.1 : Int) / 4503599627370496)) 2047) - 1023)))) < (-1022) then (if fmulOk 4368491638549381120 (((Go.bits .or .u64 (Go.bits .andNot .u64 (bt122.1 : Int) 9218868437227405312) (IntKind.u64.wrap ((IntKind.u64.wrap (wrap64 ((wrap64 ((wrap64 ((wrap64 (a1 + bt122.2)) + (wrap64 ((Go.bits .and .i64 (wrap64 ((bt122.1 : Int) / 4503599627370496)) 2047) - 1023)))) + 53)) + 1023))) * 4503599627370496))) : Int).toNat) = true then (some (fmul 4368491638549381120 (((Go.bits .or .u64 (Go.bits .andNot .u64 (bt122.1 : Int) 9218868437227405312) (IntKind.u64.wrap ((IntKind.u64.wrap (wrap64 ((wrap64 ((wrap64 ((wrap64 (a1 + bt122.2)) + (wrap64 ((Go.bits .and .i64 (wrap64 ((bt122.1 : Int) / 4503599627370496)) 2047) - 1023)))) + 53)) + 1023))) * 4503599627370496))) : Int).toNat))) else (none)) else (if fmulOk 4607182418800017408 (((Go.bits .or .u64 (Go.bits .andNot .u64 (bt122.1 : Int) 9218868437227405312) (IntKind.u64.wrap ((IntKind.u64.wrap (wrap64 ((wrap64 ((wrap64 (a1 + bt122.2)) + (wrap64 ((Go.bits .and .i64 (wrap64 ((bt122.1 : Int) / 4503599627370496)) 2047) - 1023)))) + 1023))) * 4503599627370496))) : Int).toNat) = true then (some (fmul 4607182418800017408 (((Go.bits .or .u64 (Go.bits .andNot .u64 (bt122.1 : Int) 9218868437227405312) (IntKind.u64.wrap ((IntKind.u64.wrap (wrap64 ((wrap64 ((wrap64 (a1 + bt122.2)) + (wrap64 ((Go.bits .and .i64 (wrap64 ((bt122.1 : Int) / 4503599627370496)) 2047) - 1023)))) + 1023))) * 4503599627370496))) : Int).toNat))) else (none)))))))) = some r := by rw [if_neg (show ¬ (false = true) by decide)] at H; exact H
      clear H
      have H := H1
      clear H1
      replace H := Option.bind_eq_some_iff.mp H
      obtain ⟨t121, A60, H⟩ := H
      replace H : (if t121 = true then (some a0) else ((math_normalize.f a0).bind fun bt122 => (if (wrap64 ((wrap64 (a1 + bt122.2)) + (wrap64 ((Go.bits .and .i64 (wrap64 ((bt122.1 : Int) / 4503599627370496)) 2047) - 1023)))) < (-1075) then ((math_Copysign.f 0 bt122.1).bind fun t124 => (some t124)) else (if (wrap64 ((wrap64 (a1 + bt122.2)) + (wrap64 ((Go.bits .and .i64 (wrap64 ((bt122.1 : Int) / 4503599627370496)) 2047) - 1023)))) > 1023 then (if flt bt122.1 0 = true then ((math_Inf.f (-1)).bind fun t125 => (some t125)) else ((math_Inf.f 1).bind fun t126 => (some t126))) else (if (wrap64 ((wrap64 (a1 + bt122.2)) + (wrap64 ((Go.bits .and .i64 (wrap64 ((bt122.1 : Int) / 4503599627370496)) 2047) - 1023)))) < (-1022) then (if fmulOk 4368491638549381120 (((Go.bits .or .u64 (Go.bits .andNot .u64 (bt122.1 : Int) 9218868437227405312) (IntKind.u64.wrap ((IntKind.u64.wrap (wrap64 ((wrap64 ((wrap64 ((wrap64 (a1 + bt122.2)) + (wrap64 ((Go.bits .and .i64 (wrap64 ((bt122.1 : Int) / 4503599627370496)) 2047) - 1023)))) + 53)) + 1023))) * 4503599627370496))) : Int).toNat) = true then (some (fmul 4368491638549381120 (((Go.bits .or .u64 (Go.bits .andNot .u64 (bt122.1 : Int) 9218868437227405312) (IntKind.u64.wrap ((IntKind.u64.wrap (wrap64 ((wrap64 ((wrap64 ((wrap64 (a1 + bt122.2)) + (wrap64 ((Go.bits .and .i64 (wrap64 ((bt122.1 : Int) / 4503599627370496)) 2047) - 1023)))) + 53)) + 1023))) * 4503599627370496))) : Int).toNat))) else (none)) else (if fmulOk 4607182418800017408 (((Go.bits .or .u64 (Go.bits .andNot .u64 (bt122.1 : Int) 9218868437227405312) (IntKind.u64.wrap ((IntKind.u64.wrap (wrap64 ((wrap64 ((wrap64 (a1 + bt122.2)) + (wrap64 ((Go.bits .and .i64 (wrap64 ((bt122.1 : Int) / 4503599627370496)) 2047) - 1023)))) + 1023))) * 4503599627370496))) : Int).toNat) = true then (some (fmul 4607182418800017408 (((Go.bits .or .u64 (Go.bits .andNot .u64 (bt122.1 : Int) 9218868437227405312) (IntKind.u64.wrap ((IntKind.u64.wrap (wrap64 ((wrap64 ((wrap64 (a1 + bt122.2)) + (wrap64 ((Go.bits .and .i64 (wrap64 ((bt122.1 : Int) / 4503599627370496)) 2047) - 1023)))) + 1023))) * 4503599627370496))) : Int).toNat))) else (none))))))) = some r := H
      have A6 := Aside0.mk A60
      clear A60
      by_cases c7 : t121 = true
      · subst c7
        have H1 : (some a0) = some r := by rw [if_pos rfl] at H; exact H
        clear H
        have H := H1
        clear H1
        obtain rfl := Option.some.inj H
        go_enter Try.func62, Try.ntmps62
        go_wp2_with (first | ((with_reducible refine gate_callee (f := 44) rfl ?_); refine goesL_ (some 14) rfl rfl Try.func44 (by kernel_rfl) rfl #[.float .f64 a0, .int .i64 0] rfl (by (try simp only [List.map_toArray, List.map_cons, List.map_nil]); first | done | rfl | (simp only [List.length_drop, List.length_take]; rfl)) ?_; (with_reducible refine (math_IsInf.calls a0 0 false _ A4.out).mono ?_); rintro e w' ⟨rfl, ⟨nd, rfl⟩⟩; refine ⟨_, rfl, ?_⟩) | (go_at_call 37; (with_reducible refine (math_IsNaN.calls a0 true _ A6.out).mono ?_); rintro e w' ⟨rfl, ⟨nd, rfl⟩⟩))
        go_ret
        exact ⟨by first | rfl | (simp; done) | (simp [*]; done), by repeat (first | exact Drawn0.refl _ | apply Drawn0.step)⟩
      · replace c7 := Bool.eq_false_iff.mpr c7
        subst c7
        have H1 : ((math_normalize.f a0).bind fun bt122 => (if (wrap64 ((wrap64 (a1 + bt122.2)) + (wrap64 ((Go.bits .and .i64 (wrap64 ((bt122.1 : Int) / 4503599627370496)) 2047) - 1023)))) < (-1075) then ((math_Copysign.f 0 bt122.1).bind fun t124 => (some t124)) else (if (wrap64 ((wrap64 (a1 + bt122.2)) + (wrap64 ((Go.bits .and .i64 (wrap64 ((bt122.1 : Int) / 4503599627370496)) 2047) - 1023)))) > 1023 then (if flt bt122.1 0 = true then ((math_Inf.f (-1)).bind fun t125 => (some t125)) else ((math_Inf.f 1).bind fun t126 => (some t126))) else (if (wrap64 ((wrap64 (a1 + bt122.2)) + (wrap64 ((Go.bits .and .i64 (wrap64 ((bt122.1 : Int) / 4503599627370496)) 2047) - 1023)))) < (-1022) then (if fmulOk 4368491638549381120 (((Go.bits .or .u64 (Go.bits .andNot .u64 (bt122.1 : Int) 9218868437227405312) (IntKind.u64.wrap ((IntKind.u64.wrap (wrap64 ((wrap64 ((wrap64 ((wrap64 (a1 + bt122.2)) + (wrap64 ((Go.bits .and .i64 (wrap64 ((bt122.1 : Int) / 4503599627370496)) 2047) - 1023)))) + 53)) + 1023))) * 4503599627370496))) : Int).toNat) = true then (some (fmul 4368491638549381120 (((Go.bits .or .u64 (Go.bits .andNot .u64 (bt122.1 : Int) 9218868437227405312) (IntKind.u64.wrap ((IntKind.u64.wrap (wrap64 ((wrap64 ((wrap64 ((wrap64 (a1 + bt122.2)) + (wrap64 ((Go.bits .and .i64 (wrap64 ((bt122.1 : Int) / 4503599627370496)) 2047) - 1023)))) + 53)) + 1023))) * 4503599627370496))) : Int).toNat))) else (none)) else (if fmulOk 4607182418800017408 (((Go.bits .or .u64 (Go.bits .andNot .u64 (bt122.1 : Int) 9218868437227405312) (IntKind.u64.wrap ((IntKind.u64.wrap (wrap64 ((wrap64 ((wrap64 (a1 + bt122.2)) + (wrap64 ((Go.bits .and .i64 (wrap64 ((bt122.1 : Int) / 4503599627370496)) 2047) - 1023)))) + 1023))) * 4503599627370496))) : Int).toNat) = true then (some (fmul 4607182418800017408 (((Go.bits .or .u64 (Go.bits .andNot .u64 (bt122.1 : Int) 9218868437227405312) (IntKind.u64.wrap ((IntKind.u64.wrap (wrap64 ((wrap64 ((wrap64 (a1 + bt122.2)) + (wrap64 ((Go.bits .and .i64 (wrap64 ((bt122.1 : Int) / 4503599627370496)) 2047) - 1023)))) + 1023))) * 4503599627370496))) : Int).toNat))) else (none)))))) = some r := by rw [if_neg (show ¬ (false = true) by decide)] at H; exact H
        clear H
        have H := H1
        clear H1
        replace H := Option.bind_eq_some_iff.mp H
        obtain ⟨⟨t122, t123⟩, A80, H⟩ := H
        replace H : (if (wrap64 ((wrap64 (a1 + t123)) + (wrap64 ((Go.bits .and .i64 (wrap64 ((t122 : Int) / 4503599627370496)) 2047) - 1023)))) < (-1075) then ((math_Copysign.f 0 t122).bind fun t124 => (some t124)) else (if (wrap64 ((wrap64 (a1 + t123)) + (wrap64 ((Go.bits .and .i64 (wrap64 ((t122 : Int) / 4503599627370496)) 2047) - 1023)))) > 1023 then (if flt t122 0 = true then ((math_Inf.f (-1)).bind fun t125 => (some t125)) else ((math_Inf.f 1).bind fun t126 => (some t126))) else (if (wrap64 ((wrap64 (a1 + t123)) + (wrap64 ((Go.bits .and .i64 (wrap64 ((t122 : Int) / 4503599627370496)) 2047) - 1023)))) < (-1022) then (if fmulOk 4368491638549381120 (((Go.bits .or .u64 (Go.bits .andNot .u64 (t122 : Int) 9218868437227405312) (IntKind.u64.wrap ((IntKind.u64.wrap (wrap64 ((wrap64 ((wrap64 ((wrap64 (a1 + t123)) + (wrap64 ((Go.bits .and .i64 (wrap64 ((t122 : Int) / 4503599627370496)) 2047) - 1023)))) + 53)) + 1023))) * 4503599627370496))) : Int).toNat) = true then (some (fmul 4368491638549381120 (((Go.bits .or .u64 (Go.bits .andNot .u64 (t122 : Int) 9218868437227405312) (IntKind.u64.wrap ((IntKind.u64.wrap (wrap64 ((wrap64 ((wrap64 ((wrap64 (a1 + t123)) + (wrap64 ((Go.bits .and .i64 (wrap64 ((t122 : Int) / 4503599627370496)) 2047) - 1023)))) + 53)) + 1023))) * 4503599627370496))) : Int).toNat))) else (none)) else (if fmulOk 4607182418800017408 (((Go.bits .or .u64 (Go.bits .andNot .u64 (t122 : Int) 9218868437227405312) (IntKind.u64.wrap ((IntKind.u64.wrap (wrap64 ((wrap64 ((wrap64 (a1 + t123)) + (wrap64 ((Go.bits .and .i64 (wrap64 ((t122 : Int) / 4503599627370496)) 2047) - 1023)))) + 1023))) * 4503599627370496))) : Int).toNat) = true then (some (fmul 4607182418800017408 (((Go.bits .or .u64 (Go.bits .andNot .u64 (t122 : Int) 9218868437227405312) (IntKind.u64.wrap ((IntKind.u64.wrap (wrap64 ((wrap64 ((wrap64 (a1 + t123)) + (wrap64 ((Go.bits .and .i64 (wrap64 ((t122 : Int) / 4503599627370496)) 2047) - 1023)))) + 1023))) * 4503599627370496))) : Int).toNat))) else (none))))) = some r := H
        have A8 := Aside0.mk A80
        clear A80
        by_cases c9 : (wrap64 ((wrap64 (a1 + t123)) + (wrap64 ((Go.bits .and .i64 (wrap64 ((t122 : Int) / 4503599627370496)) 2047) - 1023)))) < (-1075)
        · rw [if_pos c9] at H
          have c9b0 : decide ((wrap64 ((wrap64 (a1 + t123)) + (wrap64 ((Go.bits .and .i64 (wrap64 ((t122 : Int) / 4503599627370496)) 2047) - 1023)))) < (-1075)) = true := decide_eq_true c9
          clear c9
          replace H := Option.bind_eq_some_iff.mp H
          obtain ⟨t124, A100, H⟩ := H
          replace H : (some t124) = some r := H
          have A10 := Aside0.mk A100
          clear A100
          obtain rfl := Option.some.inj H
          go_enter Try.func62, Try.ntmps62
          go_wp2_with (first | ((with_reducible refine gate_callee (f := 44) rfl ?_); refine goesL_ (some 14) rfl rfl Try.func44 (by kernel_rfl) rfl #[.float .f64 a0, .int .i64 0] rfl (by (try simp only [List.map_toArray, List.map_cons, List.map_nil]); first | done | rfl | (simp only [List.length_drop, List.length_take]; rfl)) ?_; (with_reducible refine (math_IsInf.calls a0 0 false _ A4.out).mono ?_); rintro e w' ⟨rfl, ⟨nd, rfl⟩⟩; refine ⟨_, rfl, ?_⟩) | (go_at_call 37; (with_reducible refine (math_IsNaN.calls a0 false _ A6.out).mono ?_); rintro e w' ⟨rfl, ⟨nd, rfl⟩⟩) | ((with_reducible refine gate_callee (f := 68) rfl ?_); refine goesL_ (some 22) rfl rfl Try.func68 (by kernel_rfl) rfl #[.float .f64 a0] rfl (by (try simp only [List.map_toArray, List.map_cons, List.map_nil]); first | done | rfl | (simp only [List.length_drop, List.length_take]; rfl)) ?_; (with_reducible refine (math_normalize.calls a0 t122 t123 _ A8.out).mono ?_); rintro e w' ⟨rfl, ⟨nd, rfl⟩⟩; refine ⟨_, rfl, ?_⟩) | ((with_reducible refine gate_callee (f := 67) rfl ?_); refine goesL_ (some 40) rfl rfl Try.func67 (by kernel_rfl) rfl #[.float .f64 0, .float .f64 t122] rfl (by (try simp only [List.map_toArray, List.map_cons, List.map_nil]); first | done | rfl | (simp only [List.length_drop, List.length_take]; rfl)) ?_; (with_reducible refine (math_Copysign.calls 0 t122 t124 _ A10.out).mono ?_); rintro e w' ⟨rfl, ⟨nd, rfl⟩⟩; refine ⟨_, rfl, ?_⟩))
          go_ret
          exact ⟨by first | rfl | (simp; done) | (simp [*]; done), by repeat (first | exact Drawn0.refl _ | apply Drawn0.step)⟩
        · rw [if_neg c9] at H
          have c9b0 : decide ((wrap64 ((wrap64 (a1 + t123)) + (wrap64 ((Go.bits .and .i64 (wrap64 ((t122 : Int) / 4503599627370496)) 2047) - 1023)))) < (-1075)) = false := decide_eq_false c9
          clear c9
          by_cases c11 : (wrap64 ((wrap64 (a1 + t123)) + (wrap64 ((Go.bits .and .i64 (wrap64 ((t122 : Int) / 4503599627370496)) 2047) - 1023)))) > 1023
          · rw [if_pos c11] at H
            have c11b0 : decide (1023 < (wrap64 ((wrap64 (a1 + t123)) + (wrap64 ((Go.bits .and .i64 (wrap64 ((t122 : Int) / 4503599627370496)) 2047) - 1023))))) = true := decide_eq_true c11
            clear c11
            by_cases c12 : flt t122 0 = true
            · rw [if_pos c12] at H
              have c12b0 : flt t122 0 = true := c12
              clear c12
              replace H := Option.bind_eq_some_iff.mp H
              obtain ⟨t125, A130, H⟩ := H
              replace H : (some t125) = some r := H
              have A13 := Aside0.mk A130
              clear A130
              obtain rfl := Option.some.inj H
              go_enter Try.func62, Try.ntmps62
              go_wp2_with (first | ((with_reducible refine gate_callee (f := 44) rfl ?_); refine goesL_ (some 14) rfl rfl Try.func44 (by kernel_rfl) rfl #[.float .f64 a0, .int .i64 0] rfl (by (try simp only [List.map_toArray, List.map_cons, List.map_nil]); first | done | rfl | (simp only [List.length_drop, List.length_take]; rfl)) ?_; (with_reducible refine (math_IsInf.calls a0 0 false _ A4.out).mono ?_); rintro e w' ⟨rfl, ⟨nd, rfl⟩⟩; refine ⟨_, rfl, ?_⟩) | (go_at_call 37; (with_reducible refine (math_IsNaN.calls a0 false _ A6.out).mono ?_); rintro e w' ⟨rfl, ⟨nd, rfl⟩⟩) | ((with_reducible refine gate_callee (f := 68) rfl ?_); refine goesL_ (some 22) rfl rfl Try.func68 (by kernel_rfl) rfl #[.float .f64 a0] rfl (by (try simp only [List.map_toArray, List.map_cons, List.map_nil]); first | done | rfl | (simp only [List.length_drop, List.length_take]; rfl)) ?_; (with_reducible refine (math_normalize.calls a0 t122 t123 _ A8.out).mono ?_); rintro e w' ⟨rfl, ⟨nd, rfl⟩⟩; refine ⟨_, rfl, ?_⟩) | ((with_reducible refine gate_callee (f := 69) rfl ?_); refine goesL_ (some 45) rfl rfl Try.func69 (by kernel_rfl) rfl #[.int .i64 (-1)] rfl (by (try simp only [List.map_toArray, List.map_cons, List.map_nil]); first | done | rfl | (simp only [List.length_drop, List.length_take]; rfl)) ?_; (with_reducible refine (math_Inf.calls (-1) t125 _ A13.out).mono ?_); rintro e w' ⟨rfl, ⟨nd, rfl⟩⟩; refine ⟨_, rfl, ?_⟩))
              go_ret
              exact ⟨by first | rfl | (simp; done) | (simp [*]; done), by repeat (first | exact Drawn0.refl _ | apply Drawn0.step)⟩
            · rw [if_neg c12] at H
              have c12b0 : flt t122 0 = false := by simpa using c12
              clear c12
              replace H := Option.bind_eq_some_iff.mp H
              obtain ⟨t126, A140, H⟩ := H
              replace H : (some t126) = some r := H
              have A14 := Aside0.mk A140
              clear A140
              obtain rfl := Option.some.inj H
              go_enter Try.func62, Try.ntmps62
              go_wp2_with (first | ((with_reducible refine gate_callee (f := 44) rfl ?_); refine goesL_ (some 14) rfl rfl Try.func44 (by kernel_rfl) rfl #[.float .f64 a0, .int .i64 0] rfl (by (try simp only [List.map_toArray, List.map_cons, List.map_nil]); first | done | rfl | (simp only [List.length_drop, List.length_take]; rfl)) ?_; (with_reducible refine (math_IsInf.calls a0 0 false _ A4.out).mono ?_); rintro e w' ⟨rfl, ⟨nd, rfl⟩⟩; refine ⟨_, rfl, ?_⟩) | (go_at_call 37; (with_reducible refine (math_IsNaN.calls a0 false _ A6.out).mono ?_); rintro e w' ⟨rfl, ⟨nd, rfl⟩⟩) | ((with_reducible refine gate_callee (f := 68) rfl ?_); refine goesL_ (some 22) rfl rfl Try.func68 (by kernel_rfl) rfl #[.float .f64 a0] rfl (by (try simp only [List.map_toArray, List.map_cons, List.map_nil]); first | done | rfl | (simp only [List.length_drop, List.length_take]; rfl)) ?_; (with_reducible refine (math_normalize.calls a0 t122 t123 _ A8.out).mono ?_); rintro e w' ⟨rfl, ⟨nd, rfl⟩⟩; refine ⟨_, rfl, ?_⟩) | ((with_reducible refine gate_callee (f := 69) rfl ?_); refine goesL_ (some 46) rfl rfl Try.func69 (by kernel_rfl) rfl #[.int .i64 1] rfl (by (try simp only [List.map_toArray, List.map_cons, List.map_nil]); first | done | rfl | (simp only [List.length_drop, List.length_take]; rfl)) ?_; (with_reducible refine (math_Inf.calls 1 t126 _ A14.out).mono ?_); rintro e w' ⟨rfl, ⟨nd, rfl⟩⟩; refine ⟨_, rfl, ?_⟩))
              go_ret
              exact ⟨by first | rfl | (simp; done) | (simp [*]; done), by repeat (first | exact Drawn0.refl _ | apply Drawn0.step)⟩
          · rw [if_neg c11] at H
            have c11b0 : decide (1023 < (wrap64 ((wrap64 (a1 + t123)) + (wrap64 ((Go.bits .and .i64 (wrap64 ((t122 : Int) / 4503599627370496)) 2047) - 1023))))) = false := decide_eq_false c11
            clear c11
            by_cases c15 : (wrap64 ((wrap64 (a1 + t123)) + (wrap64 ((Go.bits .and .i64 (wrap64 ((t122 : Int) / 4503599627370496)) 2047) - 1023)))) < (-1022)
            · rw [if_pos c15] at H
              have c15b0 : decide ((wrap64 ((wrap64 (a1 + t123)) + (wrap64 ((Go.bits .and .i64 (wrap64 ((t122 : Int) / 4503599627370496)) 2047) - 1023)))) < (-1022)) = true := decide_eq_true c15
              clear c15
              by_cases c16 : fmulOk 4368491638549381120 (((Go.bits .or .u64 (Go.bits .andNot .u64 (t122 : Int) 9218868437227405312) (IntKind.u64.wrap ((IntKind.u64.wrap (wrap64 ((wrap64 ((wrap64 ((wrap64 (a1 + t123)) + (wrap64 ((Go.bits .and .i64 (wrap64 ((t122 : Int) / 4503599627370496)) 2047) - 1023)))) + 53)) + 1023))) * 4503599627370496))) : Int).toNat) = true
              · rw [if_pos c16] at H
                have c16b0 := eq_true c16
                have c16b1 : decide (fmulOk 4368491638549381120 (((Go.bits .or .u64 (Go.bits .andNot .u64 (t122 : Int) 9218868437227405312) (IntKind.u64.wrap ((IntKind.u64.wrap (wrap64 ((wrap64 ((wrap64 ((wrap64 (a1 + t123)) + (wrap64 ((Go.bits .and .i64 (wrap64 ((t122 : Int) / 4503599627370496)) 2047) - 1023)))) + 53)) + 1023))) * 4503599627370496))) : Int).toNat) = true) = true := decide_eq_true c16
                obtain rfl := Option.some.inj H
                go_enter Try.func62, Try.ntmps62
                go_wp2_with (first | ((with_reducible refine gate_callee (f := 44) rfl ?_); refine goesL_ (some 14) rfl rfl Try.func44 (by kernel_rfl) rfl #[.float .f64 a0, .int .i64 0] rfl (by (try simp only [List.map_toArray, List.map_cons, List.map_nil]); first | done | rfl | (simp only [List.length_drop, List.length_take]; rfl)) ?_; (with_reducible refine (math_IsInf.calls a0 0 false _ A4.out).mono ?_); rintro e w' ⟨rfl, ⟨nd, rfl⟩⟩; refine ⟨_, rfl, ?_⟩) | (go_at_call 37; (with_reducible refine (math_IsNaN.calls a0 false _ A6.out).mono ?_); rintro e w' ⟨rfl, ⟨nd, rfl⟩⟩) | ((with_reducible refine gate_callee (f := 68) rfl ?_); refine goesL_ (some 22) rfl rfl Try.func68 (by kernel_rfl) rfl #[.float .f64 a0] rfl (by (try simp only [List.map_toArray, List.map_cons, List.map_nil]); first | done | rfl | (simp only [List.length_drop, List.length_take]; rfl)) ?_; (with_reducible refine (math_normalize.calls a0 t122 t123 _ A8.out).mono ?_); rintro e w' ⟨rfl, ⟨nd, rfl⟩⟩; refine ⟨_, rfl, ?_⟩))
                go_ret
                exact ⟨by first | rfl | (simp; done) | (simp [*]; done), by repeat (first | exact Drawn0.refl _ | apply Drawn0.step)⟩
              · rw [if_neg c16] at H
                exact absurd H (by simp)
            · rw [if_neg c15] at H
              have c15b0 : decide ((wrap64 ((wrap64 (a1 + t123)) + (wrap64 ((Go.bits .and .i64 (wrap64 ((t122 : Int) / 4503599627370496)) 2047) - 1023)))) < (-1022)) = false := decide_eq_false c15
              clear c15
              by_cases c17 : fmulOk 4607182418800017408 (((Go.bits .or .u64 (Go.bits .andNot .u64 (t122 : Int) 9218868437227405312) (IntKind.u64.wrap ((IntKind.u64.wrap (wrap64 ((wrap64 ((wrap64 (a1 + t123)) + (wrap64 ((Go.bits .and .i64 (wrap64 ((t122 : Int) / 4503599627370496)) 2047) - 1023)))) + 1023))) * 4503599627370496))) : Int).toNat) = true
              · rw [if_pos c17] at H
                have c17b0 := eq_true c17
                have c17b1 : decide (fmulOk 4607182418800017408 (((Go.bits .or .u64 (Go.bits .andNot .u64 (t122 : Int) 9218868437227405312) (IntKind.u64.wrap ((IntKind.u64.wrap (wrap64 ((wrap64 ((wrap64 (a1 + t123)) + (wrap64 ((Go.bits .and .i64 (wrap64 ((t122 : Int) / 4503599627370496)) 2047) - 1023)))) + 1023))) * 4503599627370496))) : Int).toNat) = true) = true := decide_eq_true c17
                obtain rfl := Option.some.inj H
                go_enter Try.func62, Try.ntmps62
                go_wp2_with (first | ((with_reducible refine gate_callee (f := 44) rfl ?_); refine goesL_ (some 14) rfl rfl Try.func44 (by kernel_rfl) rfl #[.float .f64 a0, .int .i64 0] rfl (by (try simp only [List.map_toArray, List.map_cons, List.map_nil]); first | done | rfl | (simp only [List.length_drop, List.length_take]; rfl)) ?_; (with_reducible refine (math_IsInf.calls a0 0 false _ A4.out).mono ?_); rintro e w' ⟨rfl, ⟨nd, rfl⟩⟩; refine ⟨_, rfl, ?_⟩) | (go_at_call 37; (with_reducible refine (math_IsNaN.calls a0 false _ A6.out).mono ?_); rintro e w' ⟨rfl, ⟨nd, rfl⟩⟩) | ((with_reducible refine gate_callee (f := 68) rfl ?_); refine goesL_ (some 22) rfl rfl Try.func68 (by kernel_rfl) rfl #[.float .f64 a0] rfl (by (try simp only [List.map_toArray, List.map_cons, List.map_nil]); first | done | rfl | (simp only [List.length_drop, List.length_take]; rfl)) ?_; (with_reducible refine (math_normalize.calls a0 t122 t123 _ A8.out).mono ?_); rintro e w' ⟨rfl, ⟨nd, rfl⟩⟩; refine ⟨_, rfl, ?_⟩))
                go_ret
                exact ⟨by first | rfl | (simp; done) | (simp [*]; done), by repeat (first | exact Drawn0.refl _ | apply Drawn0.step)⟩
              · rw [if_neg c17] at H
                exact absurd H (by simp)

/-! ### math_Ldexp: function 49 -/
def math_Ldexp.f (a0 : Nat) (a1 : Int) : Option (Nat) := (math_ldexp.f a0 a1).bind fun t127 => (some t127)
set_option maxHeartbeats 8000000 in
set_option maxRecDepth 100000 in
theorem math_Ldexp.calls (a0 : Nat) (a1 : Int) (r : Nat) (w : World) (h : math_Ldexp.f a0 a1 = some r) :
    Calls Try.prog 49 #[.float .f64 a0, .int .i64 a1] w fun e w' => e = .returned (.float .f64 r) ∧ Drawn0 w w' := by
  have H : ((math_ldexp.f a0 a1).bind fun t127 => (some t127)) = some r := h
  clear h
  replace H := Option.bind_eq_some_iff.mp H
  obtain ⟨t127, A30, H⟩ := H
  replace H : (some t127) = some r := H
  have A3 := Aside0.mk A30
  clear A30
  obtain rfl := Option.some.inj H
  go_enter Try.func49, Try.ntmps49
  go_wp2_with (first | ((with_reducible refine gate_callee (f := 62) rfl ?_); refine goesL_ (some 10) rfl rfl Try.func62 (by kernel_rfl) rfl #[.float .f64 a0, .int .i64 a1] rfl (by (try simp only [List.map_toArray, List.map_cons, List.map_nil]); first | done | rfl | (simp only [List.length_drop, List.length_take]; rfl)) ?_; (with_reducible refine (math_ldexp.calls a0 a1 t127 _ A3.out).mono ?_); rintro e w' ⟨rfl, ⟨nd, rfl⟩⟩; refine ⟨_, rfl, ?_⟩))
  go_ret
  exact ⟨by first | rfl | (simp; done) | (simp [*]; done), by repeat (first | exact Drawn0.refl _ | apply Drawn0.step)⟩

/-! ### impl_PartsOf: function 26 -/
mutual
def impl_PartsOf.j0 : Nat → Nat → Bool → Option (Int × Int × Bool)
  | 0, _, _ => none
  | k + 1, x0, x16 => if x16 = true then (some (0, 0, false)) else ((math_Frexp.f k x0).bind fun bt129 => ((math_Ldexp.f bt129.1 53).bind fun t131 => (if fintOk t131 = true then (impl_PartsOf.l0 k (wrap64 (bt129.2 - 53)) (fint t131)) else (none))))
def impl_PartsOf.l0 : Nat → Int → Int → Option (Int × Int × Bool)
  | 0, _, _ => none
  | k + 1, x7, x8 => if (Int.tmod x8 2) = 0 then (impl_PartsOf.l0 k (wrap64 (x7 + 1)) (wrap64 (Int.tdiv x8 2))) else (some (x8, x7, true))
end
def impl_PartsOf.f (k : Nat) (a0 : Nat) : Option (Int × Int × Bool) := (impl_KindOf.f a0).bind fun t128 => (if t128 = 3 then (impl_PartsOf.j0 k a0 false) else (impl_PartsOf.j0 k a0 (t128 != 4)))
theorem impl_PartsOf.mono_l : ∀ k, (∀ y0 y1, LeO (impl_PartsOf.j0 k y0 y1) (impl_PartsOf.j0 (k + 1) y0 y1)) ∧ (∀ y0 y1, LeO (impl_PartsOf.l0 k y0 y1) (impl_PartsOf.l0 (k + 1) y0 y1))
  | 0 => ⟨fun _ _ r h => by simp [impl_PartsOf.j0] at h, fun _ _ r h => by simp [impl_PartsOf.l0] at h⟩
  | k + 1 => by
    obtain ⟨ih0, ih1⟩ := impl_PartsOf.mono_l k
    refine ⟨?_, ?_⟩
    · intro y0 y1
      unfold impl_PartsOf.j0
      repeat' first
      | (with_reducible exact ih0 _ _)
      | (with_reducible exact ih1 _ _)
      | (with_reducible exact math_Frexp.mono _ _)
      | (with_reducible exact LeO.refl _)
      | (with_reducible exact LeO.none _)
      | (with_reducible refine LeO.ite ?_ ?_)
      | (with_reducible refine LeO.bind ?_ (fun _ => ?_))
      | exact ih0 _ _
      | exact ih1 _ _
      | exact math_Frexp.mono _ _
      | exact LeO.none _
      | refine LeO.ite ?_ ?_
      | refine LeO.bind ?_ (fun _ => ?_)
    · intro y0 y1
      unfold impl_PartsOf.l0
      repeat' first
      | (with_reducible exact ih0 _ _)
      | (with_reducible exact ih1 _ _)
      | (with_reducible exact math_Frexp.mono _ _)
      | (with_reducible exact LeO.refl _)
      | (with_reducible exact LeO.none _)
      | (with_reducible refine LeO.ite ?_ ?_)
      | (with_reducible refine LeO.bind ?_ (fun _ => ?_))
      | exact ih0 _ _
      | exact ih1 _ _
      | exact math_Frexp.mono _ _
      | exact LeO.none _
      | refine LeO.ite ?_ ?_
      | refine LeO.bind ?_ (fun _ => ?_)
theorem impl_PartsOf.mono : ∀ a0 k, LeO (impl_PartsOf.f k a0) (impl_PartsOf.f (k + 1) a0) := by
  intro a0 k
  obtain ⟨ih0, ih1⟩ := impl_PartsOf.mono_l k
  unfold impl_PartsOf.f
  repeat' first
      | (with_reducible exact ih0 _ _)
      | (with_reducible exact ih1 _ _)
      | (with_reducible exact math_Frexp.mono _ _)
      | (with_reducible exact LeO.refl _)
      | (with_reducible exact LeO.none _)
      | (with_reducible refine LeO.ite ?_ ?_)
      | (with_reducible refine LeO.bind ?_ (fun _ => ?_))
      | exact ih0 _ _
      | exact ih1 _ _
      | exact math_Frexp.mono _ _
      | exact LeO.none _
      | refine LeO.ite ?_ ?_
      | refine LeO.bind ?_ (fun _ => ?_)
set_option maxHeartbeats 8000000 in
set_option maxRecDepth 100000 in
theorem impl_PartsOf.calls (k : Nat) (a0 : Nat) (r1 : Int) (r2 : Int) (r3 : Bool) (w : World) (h : impl_PartsOf.f k a0 = some (r1, r2, r3)) :
    Calls Try.prog 26 #[.float .f64 a0] w fun e w' => e = .returned (.tuple #[.int .i64 r1, .int .i64 r2, .bool r3]) ∧ Drawn0 w w' := by
  have H : ((impl_KindOf.f a0).bind fun t128 => (if t128 = 3 then (impl_PartsOf.j0 k a0 false) else (impl_PartsOf.j0 k a0 (t128 != 4)))) = some (r1, r2, r3) := h
  clear h
  replace H := Option.bind_eq_some_iff.mp H
  obtain ⟨t128, A20, H⟩ := H
  replace H : (if t128 = 3 then (impl_PartsOf.j0 k a0 false) else (impl_PartsOf.j0 k a0 (t128 != 4))) = some (r1, r2, r3) := H
  have A2 := Aside0.mk A20
  clear A20
  have HC3 := Aside0.mk H
  clear H
  go_enter Try.func26, Try.ntmps26
  go_upto_region 2 with (first | ((with_reducible refine gate_callee (f := 19) rfl ?_); refine goesL_ (some 10) rfl rfl Try.func19 (by kernel_rfl) rfl #[.float .f64 a0] rfl (by (try simp only [List.map_toArray, List.map_cons, List.map_nil]); first | done | rfl | (simp only [List.length_drop, List.length_take]; rfl)) ?_; (with_reducible refine (impl_KindOf.calls a0 t128 _ A2.out).mono ?_); rintro e w' ⟨rfl, ⟨nd, rfl⟩⟩; refine ⟨_, rfl, ?_⟩))
  (try simp only [Act.put, List.setIfInBounds_toArray, List.set_cons_zero, List.set_cons_succ])
  go_cut [16] (fun v16 wc => ∃ (kq : Nat) (x16_2 : Bool), v16 = .bool x16_2 ∧ Aside0 (impl_PartsOf.j0 kq a0 x16_2 = some (r1, r2, r3)) ∧ Aside0 (kq ≤ k) ∧ Drawn0 w wc)
  case first =>
    have H := HC3.out
    clear HC3
    by_cases c4 : t128 = 3
    · rw [if_pos c4] at H
      have c4b0 : (t128 == 3) = true := beq_iff_eq.mpr c4
      have c4b1 : (t128 != 3) = false := bne_eq_false_iff_eq.mpr c4
      clear c4
      (first | rw [c4b0] | (simp only [i64_w, i32_w]; rw [c4b0]) | skip)
      have H' := Aside0.mk H
      clear H
      go_wp2
      go_meet
      case rel => exact ⟨_, (false), (by first | rfl | (simp; done) | (simp [*]; done)), H', ⟨by first | omega | exact Nat.le_refl _⟩, by repeat (first | exact Drawn0.refl _ | apply Drawn0.step)⟩
    · rw [if_neg c4] at H
      have c4b0 : (t128 == 3) = false := beq_eq_false_iff_ne.mpr c4
      have c4b1 : (t128 != 3) = true := bne_iff_ne.mpr c4
      (first | rw [c4b0] | (simp only [i64_w, i32_w]; rw [c4b0]) | skip)
      have H' := Aside0.mk H
      clear H
      go_wp2
      go_meet
      case rel => exact ⟨_, ((t128 != 4)), (by first | rfl | (simp; done) | (simp [*]; done)), H', ⟨by first | omega | exact Nat.le_refl _⟩, by repeat (first | exact Drawn0.refl _ | apply Drawn0.step)⟩
  case rest =>
    clear HC3
    try clear c1
    try clear c2
    try clear p2
    try clear c4
    try clear c4b0
    try clear c4b1
    obtain ⟨kq, x16_2, rfl, HA, HJ2, ⟨mc2, rfl⟩⟩ := hcut
    cases kq with
    | zero => exact absurd HA.out (by simp [impl_PartsOf.j0])
    | succ kj2 =>
      have H := HA.out
      clear HA
      simp only [impl_PartsOf.j0] at H
      by_cases c5 : x16_2 = true
      · subst c5
        have H1 : (some (0, 0, false)) = some (r1, r2, r3) := by rw [if_pos rfl] at H; exact H
        clear H
        have H := H1
        clear H1
        simp only [Option.some.injEq, Prod.mk.injEq] at H
        obtain ⟨rfl, rfl, rfl⟩ := H
        go_wp2
        go_ret3
        exact ⟨by first | rfl | (simp; done) | (simp [*]; done), by repeat (first | exact Drawn0.refl _ | apply Drawn0.step)⟩
      · replace c5 := Bool.eq_false_iff.mpr c5
        subst c5
        have H1 : ((math_Frexp.f kj2 a0).bind fun bt129 => ((math_Ldexp.f bt129.1 53).bind fun t131 => (if fintOk t131 = true then (impl_PartsOf.l0 kj2 (wrap64 (bt129.2 - 53)) (fint t131)) else (none)))) = some (r1, r2, r3) := by rw [if_neg (show ¬ (false = true) by decide)] at H; exact H
        clear H
        have H := H1
        clear H1
        replace H := Option.bind_eq_some_iff.mp H
        obtain ⟨⟨t129, t130⟩, A60, H⟩ := H
        replace H : ((math_Ldexp.f t129 53).bind fun t131 => (if fintOk t131 = true then (impl_PartsOf.l0 kj2 (wrap64 (t130 - 53)) (fint t131)) else (none))) = some (r1, r2, r3) := H
        have A6 := Aside0.mk A60
        clear A60
        replace H := Option.bind_eq_some_iff.mp H
        obtain ⟨t131, A70, H⟩ := H
        replace H : (if fintOk t131 = true then (impl_PartsOf.l0 kj2 (wrap64 (t130 - 53)) (fint t131)) else (none)) = some (r1, r2, r3) := H
        have A7 := Aside0.mk A70
        clear A70
        by_cases c8 : fintOk t131 = true
        · rw [if_pos c8] at H
          have c8b0 := eq_true c8
          have c8b1 : decide (fintOk t131 = true) = true := decide_eq_true c8
          clear c8
          have H' := Aside0.mk H
          clear H
          go_wp2_with (first | ((with_reducible refine gate_callee (f := 48) rfl ?_); refine goesL_ (some 19) rfl rfl Try.func48 (by kernel_rfl) rfl #[.float .f64 a0] rfl (by (try simp only [List.map_toArray, List.map_cons, List.map_nil]); first | done | rfl | (simp only [List.length_drop, List.length_take]; rfl)) ?_; (with_reducible refine (math_Frexp.calls kj2 a0 t129 t130 _ A6.out).mono ?_); rintro e w' ⟨rfl, ⟨nd, rfl⟩⟩; refine ⟨_, rfl, ?_⟩) | ((with_reducible refine gate_callee (f := 49) rfl ?_); refine goesL_ (some 23) rfl rfl Try.func49 (by kernel_rfl) rfl #[.float .f64 t129, .int .i64 53] rfl (by (try simp only [List.map_toArray, List.map_cons, List.map_nil]); first | done | rfl | (simp only [List.length_drop, List.length_take]; rfl)) ?_; (with_reducible refine (math_Ldexp.calls t129 53 t131 _ A7.out).mono ?_); rintro e w' ⟨rfl, ⟨nd, rfl⟩⟩; refine ⟨_, rfl, ?_⟩))
          go_loopg [7, 8] kj2 (fun kq v7 v8 w' => ∃ (x7_2 : Int) (x8_2 : Int), v7 = .int .i64 x7_2 ∧ v8 = .int .i64 x8_2 ∧ Aside0 (impl_PartsOf.l0 kq x7_2 x8_2 = some (r1, r2, r3)) ∧ Aside0 (kq ≤ kj2) ∧ Drawn0 w w')
          case atStart => exact ⟨(wrap64 (t130 - 53)), (fint t131), (by first | rfl | (simp; done) | (simp [*]; done)), (by first | rfl | (simp; done) | (simp [*]; done)), H', ⟨Nat.le_refl _⟩, by repeat (first | exact Drawn0.refl _ | apply Drawn0.step)⟩
          case round =>
            clear H'
            try clear c1
            try clear c2
            try clear p2
            try clear c4
            try clear c4b0
            try clear c4b1
            try clear c5
            try clear p6
            try clear c8
            try clear c8b0
            try clear c8b1
            try clear p2
            obtain ⟨x7_2, x8_2, rfl, rfl, HA, HK2, ⟨m2, rfl⟩⟩ := hrel
            cases gk with
            | zero => exact absurd HA.out (by simp [impl_PartsOf.l0])
            | succ k2 =>
              have H := HA.out
              clear HA
              simp only [impl_PartsOf.l0] at H
              by_cases c9 : (Int.tmod x8_2 2) = 0
              · rw [if_pos c9] at H
                have c9b0 : ((Int.tmod x8_2 2) == 0) = true := beq_iff_eq.mpr c9
                have c9b1 : ((Int.tmod x8_2 2) != 0) = false := bne_eq_false_iff_eq.mpr c9
                clear c9
                have H' := Aside0.mk H
                clear H
                go_wp2
                go_roundg k2
                case measure => have := HJ2.out; have := HK2.out; omega
                case rel => exact ⟨(wrap64 (x7_2 + 1)), (wrap64 (Int.tdiv x8_2 2)), (by first | rfl | (simp; done) | (simp [*]; done)), (by first | rfl | (simp; done) | (simp [*]; done)), H', ⟨by have := HJ2.out; have := HK2.out; omega⟩, by repeat (first | exact Drawn0.refl _ | apply Drawn0.step)⟩
              · rw [if_neg c9] at H
                have c9b0 : ((Int.tmod x8_2 2) == 0) = false := beq_eq_false_iff_ne.mpr c9
                have c9b1 : ((Int.tmod x8_2 2) != 0) = true := bne_iff_ne.mpr c9
                simp only [Option.some.injEq, Prod.mk.injEq] at H
                obtain ⟨rfl, rfl, rfl⟩ := H
                go_wp2
                go_ret3
                exact ⟨by first | rfl | (simp; done) | (simp [*]; done), by repeat (first | exact Drawn0.refl _ | apply Drawn0.step)⟩
        · rw [if_neg c8] at H
          exact absurd H (by simp)

/-! ### impl_in: function 40 -/
def impl_in.f (a0 : Int) (a1 : Int) (a2 : Int) : Option (Bool) := if a1 ≤ a0 then (some (decide (a0 ≤ a2))) else (some false)
set_option maxHeartbeats 8000000 in
set_option maxRecDepth 100000 in
theorem impl_in.calls (a0 : Int) (a1 : Int) (a2 : Int) (r : Bool) (w : World) (h : impl_in.f a0 a1 a2 = some r) :
    Calls Try.prog 40 #[.int .i64 a0, .int .i64 a1, .int .i64 a2] w fun e w' => e = .returned (.bool r) ∧ Drawn0 w w' := by
  have H : (if a1 ≤ a0 then (some (decide (a0 ≤ a2))) else (some false)) = some r := h
  clear h
  by_cases c4 : a1 ≤ a0
  · rw [if_pos c4] at H
    have c4b0 : decide (a1 ≤ a0) = true := decide_eq_true c4
    clear c4
    obtain rfl := Option.some.inj H
    go_enter Try.func40, Try.ntmps40
    go_wp2
    go_ret
    exact ⟨by first | rfl | (simp; done) | (simp [*]; done), by repeat (first | exact Drawn0.refl _ | apply Drawn0.step)⟩
  · rw [if_neg c4] at H
    have c4b0 : decide (a1 ≤ a0) = false := decide_eq_false c4
    clear c4
    obtain rfl := Option.some.inj H
    go_enter Try.func40, Try.ntmps40
    go_wp2
    go_ret
    exact ⟨by first | rfl | (simp; done) | (simp [*]; done), by repeat (first | exact Drawn0.refl _ | apply Drawn0.step)⟩

/-! ### impl_NumOf: function 28 -/
def impl_NumOf.j0 : Nat → Int → Int → Bool → Option (Nat × Bool)
  | 0, _, _, _ => none
  | k + 1, x0, x1, x22 => if x22 = true then (some (0, false)) else ((math_Ldexp.f (fofi x0) x1).bind fun t134 => ((impl_PartsOf.f k t134).bind fun bt135 => (if bt135.2.2 = true then (if bt135.1 = x0 then (if bt135.2.1 = x1 then (some (t134, true)) else (some (0, false))) else (some (0, false))) else (some (0, false)))))
def impl_NumOf.f (k : Nat) (a0 : Int) (a1 : Int) : Option (Nat × Bool) := if (Int.tmod a0 2) = 0 then (impl_NumOf.j0 k a0 a1 true) else ((impl_in.f a0 (-9007199254740991) 9007199254740991).bind fun t132 => (if t132 = true then ((impl_in.f a1 (-1200) 1200).bind fun t133 => (impl_NumOf.j0 k a0 a1 (!t133))) else (impl_NumOf.j0 k a0 a1 true)))
theorem impl_NumOf.mono_l : ∀ k, (∀ y0 y1 y2, LeO (impl_NumOf.j0 k y0 y1 y2) (impl_NumOf.j0 (k + 1) y0 y1 y2))
  | 0 => fun _ _ _ r h => by simp [impl_NumOf.j0] at h
  | k + 1 => by
    have ih0 := impl_NumOf.mono_l k
    · intro y0 y1 y2
      unfold impl_NumOf.j0
      repeat' first
      | (with_reducible exact ih0 _ _ _)
      | (with_reducible exact impl_PartsOf.mono _ _)
      | (with_reducible exact LeO.refl _)
      | (with_reducible exact LeO.none _)
      | (with_reducible refine LeO.ite ?_ ?_)
      | (with_reducible refine LeO.bind ?_ (fun _ => ?_))
      | exact ih0 _ _ _
      | exact impl_PartsOf.mono _ _
      | exact LeO.none _
      | refine LeO.ite ?_ ?_
      | refine LeO.bind ?_ (fun _ => ?_)
theorem impl_NumOf.mono : ∀ a0 a1 k, LeO (impl_NumOf.f k a0 a1) (impl_NumOf.f (k + 1) a0 a1) := by
  intro a0 a1 k
  have ih0 := impl_NumOf.mono_l k
  unfold impl_NumOf.f
  repeat' first
      | (with_reducible exact ih0 _ _ _)
      | (with_reducible exact impl_PartsOf.mono _ _)
      | (with_reducible exact LeO.refl _)
      | (with_reducible exact LeO.none _)
      | (with_reducible refine LeO.ite ?_ ?_)
      | (with_reducible refine LeO.bind ?_ (fun _ => ?_))
      | exact ih0 _ _ _
      | exact impl_PartsOf.mono _ _
      | exact LeO.none _
      | refine LeO.ite ?_ ?_
      | refine LeO.bind ?_ (fun _ => ?_)
set_option maxHeartbeats 8000000 in
set_option maxRecDepth 100000 in
theorem impl_NumOf.calls (k : Nat) (a0 : Int) (a1 : Int) (r1 : Nat) (r2 : Bool) (w : World) (h : impl_NumOf.f k a0 a1 = some (r1, r2)) :
    Calls Try.prog 28 #[.int .i64 a0, .int .i64 a1] w fun e w' => e = .returned (.tuple #[.float .f64 r1, .bool r2]) ∧ Drawn0 w w' := by
  have H : (if (Int.tmod a0 2) = 0 then (impl_NumOf.j0 k a0 a1 true) else ((impl_in.f a0 (-9007199254740991) 9007199254740991).bind fun t132 => (if t132 = true then ((impl_in.f a1 (-1200) 1200).bind fun t133 => (impl_NumOf.j0 k a0 a1 (!t133))) else (impl_NumOf.j0 k a0 a1 true)))) = some (r1, r2) := h
  clear h
  have HC3 := Aside0.mk H
  clear H
  go_enter Try.func28, Try.ntmps28
  go_upto_region 1 with (fail)
  go_cut [22] (fun v22 wc => ∃ (kq : Nat) (x22_2 : Bool), v22 = .bool x22_2 ∧ Aside0 (impl_NumOf.j0 kq a0 a1 x22_2 = some (r1, r2)) ∧ Aside0 (kq ≤ k) ∧ Drawn0 w wc)
  case first =>
    have H := HC3.out
    clear HC3
    by_cases c4 : (Int.tmod a0 2) = 0
    · rw [if_pos c4] at H
      have c4b0 : ((Int.tmod a0 2) == 0) = true := beq_iff_eq.mpr c4
      have c4b1 : ((Int.tmod a0 2) != 0) = false := bne_eq_false_iff_eq.mpr c4
      clear c4
      (first | rw [c4b0] | (simp only [i64_w, i32_w]; rw [c4b0]) | skip)
      have H' := Aside0.mk H
      clear H
      go_wp2
      go_meet
      case rel => exact ⟨_, (true), (by first | rfl | (simp; done) | (simp [*]; done)), H', ⟨by first | omega | exact Nat.le_refl _⟩, by repeat (first | exact Drawn0.refl _ | apply Drawn0.step)⟩
    · rw [if_neg c4] at H
      have c4b0 : ((Int.tmod a0 2) == 0) = false := beq_eq_false_iff_ne.mpr c4
      have c4b1 : ((Int.tmod a0 2) != 0) = true := bne_iff_ne.mpr c4
      (first | rw [c4b0] | (simp only [i64_w, i32_w]; rw [c4b0]) | skip)
      replace H := Option.bind_eq_some_iff.mp H
      obtain ⟨t132, A50, H⟩ := H
      replace H : (if t132 = true then ((impl_in.f a1 (-1200) 1200).bind fun t133 => (impl_NumOf.j0 k a0 a1 (!t133))) else (impl_NumOf.j0 k a0 a1 true)) = some (r1, r2) := H
      have A5 := Aside0.mk A50
      clear A50
      by_cases c6 : t132 = true
      · subst c6
        have H1 : ((impl_in.f a1 (-1200) 1200).bind fun t133 => (impl_NumOf.j0 k a0 a1 (!t133))) = some (r1, r2) := by rw [if_pos rfl] at H; exact H
        clear H
        have H := H1
        clear H1
        replace H := Option.bind_eq_some_iff.mp H
        obtain ⟨t133, A70, H⟩ := H
        replace H : (impl_NumOf.j0 k a0 a1 (!t133)) = some (r1, r2) := H
        have A7 := Aside0.mk A70
        clear A70
        have H' := Aside0.mk H
        clear H
        go_wp2_with (first | (go_at_call 40; (with_reducible refine (impl_in.calls a0 (-9007199254740991) 9007199254740991 true _ A5.out).mono ?_); rintro e w' ⟨rfl, ⟨nd, rfl⟩⟩) | (go_at_call 40; (with_reducible refine (impl_in.calls a1 (-1200) 1200 t133 _ A7.out).mono ?_); rintro e w' ⟨rfl, ⟨nd, rfl⟩⟩))
        go_meet
        case rel => exact ⟨_, (!t133), (by first | rfl | (simp; done) | (simp [*]; done)), H', ⟨by first | omega | exact Nat.le_refl _⟩, by repeat (first | exact Drawn0.refl _ | apply Drawn0.step)⟩
      · replace c6 := Bool.eq_false_iff.mpr c6
        subst c6
        have H1 : (impl_NumOf.j0 k a0 a1 true) = some (r1, r2) := by rw [if_neg (show ¬ (false = true) by decide)] at H; exact H
        clear H
        have H := H1
        clear H1
        have H' := Aside0.mk H
        clear H
        go_wp2_with (first | (go_at_call 40; (with_reducible refine (impl_in.calls a0 (-9007199254740991) 9007199254740991 false _ A5.out).mono ?_); rintro e w' ⟨rfl, ⟨nd, rfl⟩⟩))
        go_meet
        case rel => exact ⟨_, (true), (by first | rfl | (simp; done) | (simp [*]; done)), H', ⟨by first | omega | exact Nat.le_refl _⟩, by repeat (first | exact Drawn0.refl _ | apply Drawn0.step)⟩
  case rest =>
    clear HC3
    try clear c2
    try clear p2
    try clear c4
    try clear c4b0
    try clear c4b1
    try clear c6
    obtain ⟨kq, x22_2, rfl, HA, HJ2, ⟨mc2, rfl⟩⟩ := hcut
    cases kq with
    | zero => exact absurd HA.out (by simp [impl_NumOf.j0])
    | succ kj2 =>
      have H := HA.out
      clear HA
      simp only [impl_NumOf.j0] at H
      by_cases c8 : x22_2 = true
      · subst c8
        have H1 : (some (0, false)) = some (r1, r2) := by rw [if_pos rfl] at H; exact H
        clear H
        have H := H1
        clear H1
        simp only [Option.some.injEq, Prod.mk.injEq] at H
        obtain ⟨rfl, rfl⟩ := H
        go_wp2
        go_ret2
        exact ⟨by first | rfl | (simp; done) | (simp [*]; done), by repeat (first | exact Drawn0.refl _ | apply Drawn0.step)⟩
      · replace c8 := Bool.eq_false_iff.mpr c8
        subst c8
        have H1 : ((math_Ldexp.f (fofi a0) a1).bind fun t134 => ((impl_PartsOf.f kj2 t134).bind fun bt135 => (if bt135.2.2 = true then (if bt135.1 = a0 then (if bt135.2.1 = a1 then (some (t134, true)) else (some (0, false))) else (some (0, false))) else (some (0, false))))) = some (r1, r2) := by rw [if_neg (show ¬ (false = true) by decide)] at H; exact H
        clear H
        have H := H1
        clear H1
        replace H := Option.bind_eq_some_iff.mp H
        obtain ⟨t134, A90, H⟩ := H
        replace H : ((impl_PartsOf.f kj2 t134).bind fun bt135 => (if bt135.2.2 = true then (if bt135.1 = a0 then (if bt135.2.1 = a1 then (some (t134, true)) else (some (0, false))) else (some (0, false))) else (some (0, false)))) = some (r1, r2) := H
        have A9 := Aside0.mk A90
        clear A90
        replace H := Option.bind_eq_some_iff.mp H
        obtain ⟨⟨t135, t136, t137⟩, A100, H⟩ := H
        replace H : (if t137 = true then (if t135 = a0 then (if t136 = a1 then (some (t134, true)) else (some (0, false))) else (some (0, false))) else (some (0, false))) = some (r1, r2) := H
        have A10 := Aside0.mk A100
        clear A100
        by_cases c11 : t137 = true
        · subst c11
          have H1 : (if t135 = a0 then (if t136 = a1 then (some (t134, true)) else (some (0, false))) else (some (0, false))) = some (r1, r2) := by rw [if_pos rfl] at H; exact H
          clear H
          have H := H1
          clear H1
          by_cases c12 : t135 = a0
          · rw [if_pos c12] at H
            have c12b0 : (t135 == a0) = true := beq_iff_eq.mpr c12
            have c12b1 : (t135 != a0) = false := bne_eq_false_iff_eq.mpr c12
            clear c12
            by_cases c13 : t136 = a1
            · rw [if_pos c13] at H
              have c13b0 : (t136 == a1) = true := beq_iff_eq.mpr c13
              have c13b1 : (t136 != a1) = false := bne_eq_false_iff_eq.mpr c13
              clear c13
              simp only [Option.some.injEq, Prod.mk.injEq] at H
              obtain ⟨rfl, rfl⟩ := H
              go_wp2_with (first | ((with_reducible refine gate_callee (f := 49) rfl ?_); refine goesL_ (some 26) rfl rfl Try.func49 (by kernel_rfl) rfl #[.float .f64 (fofi a0), .int .i64 a1] rfl (by (try simp only [List.map_toArray, List.map_cons, List.map_nil]); first | done | rfl | (simp only [List.length_drop, List.length_take]; rfl)) ?_; (with_reducible refine (math_Ldexp.calls (fofi a0) a1 t134 _ A9.out).mono ?_); rintro e w' ⟨rfl, ⟨nd, rfl⟩⟩; refine ⟨_, rfl, ?_⟩) | ((with_reducible refine gate_callee (f := 26) rfl ?_); refine goesL_ (some 29) rfl rfl Try.func26 (by kernel_rfl) rfl #[.float .f64 t134] rfl (by (try simp only [List.map_toArray, List.map_cons, List.map_nil]); first | done | rfl | (simp only [List.length_drop, List.length_take]; rfl)) ?_; (with_reducible refine (impl_PartsOf.calls kj2 t134 t135 t136 true _ A10.out).mono ?_); rintro e w' ⟨rfl, ⟨nd, rfl⟩⟩; refine ⟨_, rfl, ?_⟩))
              go_ret2
              exact ⟨by first | rfl | (simp; done) | (simp [*]; done), by repeat (first | exact Drawn0.refl _ | apply Drawn0.step)⟩
            · rw [if_neg c13] at H
              have c13b0 : (t136 == a1) = false := beq_eq_false_iff_ne.mpr c13
              have c13b1 : (t136 != a1) = true := bne_iff_ne.mpr c13
              simp only [Option.some.injEq, Prod.mk.injEq] at H
              obtain ⟨rfl, rfl⟩ := H
              go_wp2_with (first | ((with_reducible refine gate_callee (f := 49) rfl ?_); refine goesL_ (some 26) rfl rfl Try.func49 (by kernel_rfl) rfl #[.float .f64 (fofi a0), .int .i64 a1] rfl (by (try simp only [List.map_toArray, List.map_cons, List.map_nil]); first | done | rfl | (simp only [List.length_drop, List.length_take]; rfl)) ?_; (with_reducible refine (math_Ldexp.calls (fofi a0) a1 t134 _ A9.out).mono ?_); rintro e w' ⟨rfl, ⟨nd, rfl⟩⟩; refine ⟨_, rfl, ?_⟩) | ((with_reducible refine gate_callee (f := 26) rfl ?_); refine goesL_ (some 29) rfl rfl Try.func26 (by kernel_rfl) rfl #[.float .f64 t134] rfl (by (try simp only [List.map_toArray, List.map_cons, List.map_nil]); first | done | rfl | (simp only [List.length_drop, List.length_take]; rfl)) ?_; (with_reducible refine (impl_PartsOf.calls kj2 t134 t135 t136 true _ A10.out).mono ?_); rintro e w' ⟨rfl, ⟨nd, rfl⟩⟩; refine ⟨_, rfl, ?_⟩))
              go_ret2
              exact ⟨by first | rfl | (simp; done) | (simp [*]; done), by repeat (first | exact Drawn0.refl _ | apply Drawn0.step)⟩
          · rw [if_neg c12] at H
            have c12b0 : (t135 == a0) = false := beq_eq_false_iff_ne.mpr c12
            have c12b1 : (t135 != a0) = true := bne_iff_ne.mpr c12
            simp only [Option.some.injEq, Prod.mk.injEq] at H
            obtain ⟨rfl, rfl⟩ := H
            go_wp2_with (first | ((with_reducible refine gate_callee (f := 49) rfl ?_); refine goesL_ (some 26) rfl rfl Try.func49 (by kernel_rfl) rfl #[.float .f64 (fofi a0), .int .i64 a1] rfl (by (try simp only [List.map_toArray, List.map_cons, List.map_nil]); first | done | rfl | (simp only [List.length_drop, List.length_take]; rfl)) ?_; (with_reducible refine (math_Ldexp.calls (fofi a0) a1 t134 _ A9.out).mono ?_); rintro e w' ⟨rfl, ⟨nd, rfl⟩⟩; refine ⟨_, rfl, ?_⟩) | ((with_reducible refine gate_callee (f := 26) rfl ?_); refine goesL_ (some 29) rfl rfl Try.func26 (by kernel_rfl) rfl #[.float .f64 t134] rfl (by (try simp only [List.map_toArray, List.map_cons, List.map_nil]); first | done | rfl | (simp only [List.length_drop, List.length_take]; rfl)) ?_; (with_reducible refine (impl_PartsOf.calls kj2 t134 t135 t136 true _ A10.out).mono ?_); rintro e w' ⟨rfl, ⟨nd, rfl⟩⟩; refine ⟨_, rfl, ?_⟩))
            go_ret2
            exact ⟨by first | rfl | (simp; done) | (simp [*]; done), by repeat (first | exact Drawn0.refl _ | apply Drawn0.step)⟩
        · replace c11 := Bool.eq_false_iff.mpr c11
          subst c11
          have H1 : (some (0, false)) = some (r1, r2) := by rw [if_neg (show ¬ (false = true) by decide)] at H; exact H
          clear H
          have H := H1
          clear H1
          simp only [Option.some.injEq, Prod.mk.injEq] at H
          obtain ⟨rfl, rfl⟩ := H
          go_wp2_with (first | ((with_reducible refine gate_callee (f := 49) rfl ?_); refine goesL_ (some 26) rfl rfl Try.func49 (by kernel_rfl) rfl #[.float .f64 (fofi a0), .int .i64 a1] rfl (by (try simp only [List.map_toArray, List.map_cons, List.map_nil]); first | done | rfl | (simp only [List.length_drop, List.length_take]; rfl)) ?_; (with_reducible refine (math_Ldexp.calls (fofi a0) a1 t134 _ A9.out).mono ?_); rintro e w' ⟨rfl, ⟨nd, rfl⟩⟩; refine ⟨_, rfl, ?_⟩) | ((with_reducible refine gate_callee (f := 26) rfl ?_); refine goesL_ (some 29) rfl rfl Try.func26 (by kernel_rfl) rfl #[.float .f64 t134] rfl (by (try simp only [List.map_toArray, List.map_cons, List.map_nil]); first | done | rfl | (simp only [List.length_drop, List.length_take]; rfl)) ?_; (with_reducible refine (impl_PartsOf.calls kj2 t134 t135 t136 false _ A10.out).mono ?_); rintro e w' ⟨rfl, ⟨nd, rfl⟩⟩; refine ⟨_, rfl, ?_⟩))
          go_ret2
          exact ⟨by first | rfl | (simp; done) | (simp [*]; done), by repeat (first | exact Drawn0.refl _ | apply Drawn0.step)⟩

/-! ### laws_FnExactNumOf: function 10 -/
def laws_FnExactNumOf.f (k : Nat) (a0 : Int) (a1 : Int) : Option (Bool) := (spec_NumOf.f k a0 a1).bind fun bt138 => ((impl_NumOf.f k a0 a1).bind fun bt140 => ((laws_sameFloat.f k bt140.1 bt138.1).bind fun t142 => (if t142 = true then (if (bt140.2 != bt138.2) = true then (some false) else (some true)) else (some false))))
theorem laws_FnExactNumOf.mono : ∀ a0 a1 k, LeO (laws_FnExactNumOf.f k a0 a1) (laws_FnExactNumOf.f (k + 1) a0 a1) := by
  intro a0 a1 k
  unfold laws_FnExactNumOf.f
  repeat' first
      | (with_reducible exact impl_NumOf.mono _ _ _)
      | (with_reducible exact laws_sameFloat.mono _ _ _)
      | (with_reducible exact spec_NumOf.mono _ _ _)
      | (with_reducible exact LeO.refl _)
      | (with_reducible exact LeO.none _)
      | (with_reducible refine LeO.ite ?_ ?_)
      | (with_reducible refine LeO.bind ?_ (fun _ => ?_))
      | exact impl_NumOf.mono _ _ _
      | exact laws_sameFloat.mono _ _ _
      | exact spec_NumOf.mono _ _ _
      | exact LeO.none _
      | refine LeO.ite ?_ ?_
      | refine LeO.bind ?_ (fun _ => ?_)
set_option maxHeartbeats 8000000 in
set_option maxRecDepth 100000 in
theorem laws_FnExactNumOf.calls (k : Nat) (a0 : Int) (a1 : Int) (r : Bool) (w : World) (h : laws_FnExactNumOf.f k a0 a1 = some r) :
    Calls Try.prog 10 #[.int .i64 a0, .int .i64 a1] w fun e w' => e = .returned (.bool r) ∧ Drawn0 w w' := by
  have H : ((spec_NumOf.f k a0 a1).bind fun bt138 => ((impl_NumOf.f k a0 a1).bind fun bt140 => ((laws_sameFloat.f k bt140.1 bt138.1).bind fun t142 => (if t142 = true then (if (bt140.2 != bt138.2) = true then (some false) else (some true)) else (some false))))) = some r := h
  clear h
  replace H := Option.bind_eq_some_iff.mp H
  obtain ⟨⟨t138, t139⟩, A30, H⟩ := H
  replace H : ((impl_NumOf.f k a0 a1).bind fun bt140 => ((laws_sameFloat.f k bt140.1 t138).bind fun t142 => (if t142 = true then (if (bt140.2 != t139) = true then (some false) else (some true)) else (some false)))) = some r := H
  have A3 := Aside0.mk A30
  clear A30
  replace H := Option.bind_eq_some_iff.mp H
  obtain ⟨⟨t140, t141⟩, A40, H⟩ := H
  replace H : ((laws_sameFloat.f k t140 t138).bind fun t142 => (if t142 = true then (if (t141 != t139) = true then (some false) else (some true)) else (some false))) = some r := H
  have A4 := Aside0.mk A40
  clear A40
  replace H := Option.bind_eq_some_iff.mp H
  obtain ⟨t142, A50, H⟩ := H
  replace H : (if t142 = true then (if (t141 != t139) = true then (some false) else (some true)) else (some false)) = some r := H
  have A5 := Aside0.mk A50
  clear A50
  by_cases c6 : t142 = true
  · subst c6
    have H1 : (if (t141 != t139) = true then (some false) else (some true)) = some r := by rw [if_pos rfl] at H; exact H
    clear H
    have H := H1
    clear H1
    by_cases c7 : (t141 != t139) = true
    · rw [if_pos c7] at H
      have c7b0 : (t141 != t139) = true := c7
      (try (have c7b1 : decide (t141 = t139) = false := by simpa using c7))
      (try (have c7b2 : (t141 == t139) = false := by simpa using c7))
      (try (have c7b3 : ¬ (t141 = t139) := by simpa using c7))
      clear c7
      obtain rfl := Option.some.inj H
      go_enter Try.func10, Try.ntmps10
      go_wp2_with (first | ((with_reducible refine gate_callee (f := 27) rfl ?_); refine goesL_ (some 12) rfl rfl Try.func27 (by kernel_rfl) rfl #[.int .i64 a0, .int .i64 a1] rfl (by (try simp only [List.map_toArray, List.map_cons, List.map_nil]); first | done | rfl | (simp only [List.length_drop, List.length_take]; rfl)) ?_; (with_reducible refine (spec_NumOf.calls k a0 a1 t138 t139 _ A3.out).mono ?_); rintro e w' ⟨rfl, ⟨nd, rfl⟩⟩; refine ⟨_, rfl, ?_⟩) | ((with_reducible refine gate_callee (f := 28) rfl ?_); refine goesL_ (some 18) rfl rfl Try.func28 (by kernel_rfl) rfl #[.int .i64 a0, .int .i64 a1] rfl (by (try simp only [List.map_toArray, List.map_cons, List.map_nil]); first | done | rfl | (simp only [List.length_drop, List.length_take]; rfl)) ?_; (with_reducible refine (impl_NumOf.calls k a0 a1 t140 t141 _ A4.out).mono ?_); rintro e w' ⟨rfl, ⟨nd, rfl⟩⟩; refine ⟨_, rfl, ?_⟩) | ((with_reducible refine gate_callee (f := 24) rfl ?_); refine goesL_ (some 23) rfl rfl Try.func24 (by kernel_rfl) rfl #[.float .f64 t140, .float .f64 t138] rfl (by (try simp only [List.map_toArray, List.map_cons, List.map_nil]); first | done | rfl | (simp only [List.length_drop, List.length_take]; rfl)) ?_; (with_reducible refine (laws_sameFloat.calls k t140 t138 true _ A5.out).mono ?_); rintro e w' ⟨rfl, ⟨nd, rfl⟩⟩; refine ⟨_, rfl, ?_⟩))
      go_ret
      exact ⟨by first | rfl | (simp; done) | (simp [*]; done), by repeat (first | exact Drawn0.refl _ | apply Drawn0.step)⟩
    · rw [if_neg c7] at H
      have c7b0 : (t141 != t139) = false := by simpa using c7
      (try (have c7b1 : decide (t141 = t139) = true := by simpa using c7))
      (try (have c7b2 : (t141 == t139) = true := by simpa using c7))
      clear c7
      obtain rfl := Option.some.inj H
      go_enter Try.func10, Try.ntmps10
      go_wp2_with (first | ((with_reducible refine gate_callee (f := 27) rfl ?_); refine goesL_ (some 12) rfl rfl Try.func27 (by kernel_rfl) rfl #[.int .i64 a0, .int .i64 a1] rfl (by (try simp only [List.map_toArray, List.map_cons, List.map_nil]); first | done | rfl | (simp only [List.length_drop, List.length_take]; rfl)) ?_; (with_reducible refine (spec_NumOf.calls k a0 a1 t138 t139 _ A3.out).mono ?_); rintro e w' ⟨rfl, ⟨nd, rfl⟩⟩; refine ⟨_, rfl, ?_⟩) | ((with_reducible refine gate_callee (f := 28) rfl ?_); refine goesL_ (some 18) rfl rfl Try.func28 (by kernel_rfl) rfl #[.int .i64 a0, .int .i64 a1] rfl (by (try simp only [List.map_toArray, List.map_cons, List.map_nil]); first | done | rfl | (simp only [List.length_drop, List.length_take]; rfl)) ?_; (with_reducible refine (impl_NumOf.calls k a0 a1 t140 t141 _ A4.out).mono ?_); rintro e w' ⟨rfl, ⟨nd, rfl⟩⟩; refine ⟨_, rfl, ?_⟩) | ((with_reducible refine gate_callee (f := 24) rfl ?_); refine goesL_ (some 23) rfl rfl Try.func24 (by kernel_rfl) rfl #[.float .f64 t140, .float .f64 t138] rfl (by (try simp only [List.map_toArray, List.map_cons, List.map_nil]); first | done | rfl | (simp only [List.length_drop, List.length_take]; rfl)) ?_; (with_reducible refine (laws_sameFloat.calls k t140 t138 true _ A5.out).mono ?_); rintro e w' ⟨rfl, ⟨nd, rfl⟩⟩; refine ⟨_, rfl, ?_⟩))
      go_ret
      exact ⟨by first | rfl | (simp; done) | (simp [*]; done), by repeat (first | exact Drawn0.refl _ | apply Drawn0.step)⟩
  · replace c6 := Bool.eq_false_iff.mpr c6
    subst c6
    have H1 : (some false) = some r := by rw [if_neg (show ¬ (false = true) by decide)] at H; exact H
    clear H
    have H := H1
    clear H1
    obtain rfl := Option.some.inj H
    go_enter Try.func10, Try.ntmps10
    go_wp2_with (first | ((with_reducible refine gate_callee (f := 27) rfl ?_); refine goesL_ (some 12) rfl rfl Try.func27 (by kernel_rfl) rfl #[.int .i64 a0, .int .i64 a1] rfl (by (try simp only [List.map_toArray, List.map_cons, List.map_nil]); first | done | rfl | (simp only [List.length_drop, List.length_take]; rfl)) ?_; (with_reducible refine (spec_NumOf.calls k a0 a1 t138 t139 _ A3.out).mono ?_); rintro e w' ⟨rfl, ⟨nd, rfl⟩⟩; refine ⟨_, rfl, ?_⟩) | ((with_reducible refine gate_callee (f := 28) rfl ?_); refine goesL_ (some 18) rfl rfl Try.func28 (by kernel_rfl) rfl #[.int .i64 a0, .int .i64 a1] rfl (by (try simp only [List.map_toArray, List.map_cons, List.map_nil]); first | done | rfl | (simp only [List.length_drop, List.length_take]; rfl)) ?_; (with_reducible refine (impl_NumOf.calls k a0 a1 t140 t141 _ A4.out).mono ?_); rintro e w' ⟨rfl, ⟨nd, rfl⟩⟩; refine ⟨_, rfl, ?_⟩) | ((with_reducible refine gate_callee (f := 24) rfl ?_); refine goesL_ (some 23) rfl rfl Try.func24 (by kernel_rfl) rfl #[.float .f64 t140, .float .f64 t138] rfl (by (try simp only [List.map_toArray, List.map_cons, List.map_nil]); first | done | rfl | (simp only [List.length_drop, List.length_take]; rfl)) ?_; (with_reducible refine (laws_sameFloat.calls k t140 t138 false _ A5.out).mono ?_); rintro e w' ⟨rfl, ⟨nd, rfl⟩⟩; refine ⟨_, rfl, ?_⟩))
    go_ret
    exact ⟨by first | rfl | (simp; done) | (simp [*]; done), by repeat (first | exact Drawn0.refl _ | apply Drawn0.step)⟩

/-- THE ONE PURE STATEMENT of laws_FnExactNumOf: yours. -/
def laws_FnExactNumOf.Pure : Prop := ∀ (a0 : Int) (a1 : Int), (Lit.int .i64 a0).wf = true → (Lit.int .i64 a1).wf = true → ∃ k, laws_FnExactNumOf.f k a0 a1 = some true
theorem laws_FnExactNumOf.walk (P : laws_FnExactNumOf.Pure) (a0 : Int) (a1 : Int) (w : World) (w0 : (Lit.int .i64 a0).wf = true) (w1 : (Lit.int .i64 a1).wf = true) :
    Calls Try.prog 10 #[.int .i64 a0, .int .i64 a1] w fun e w' => e = .returned (.bool true) ∧ Below w.heap.size w w' := by
  obtain ⟨k, h⟩ := P a0 a1 w0 w1
  refine (laws_FnExactNumOf.calls k a0 a1 true w h).mono ?_
  rintro e w' ⟨rfl, hd⟩
  exact ⟨rfl, hd.below⟩

end Go.Proofs.Ytahnllomlgillaa.GNumOf

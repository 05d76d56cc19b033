-- Printed by wip/tools/print2.py out of the translation: walks and plain functions; Lean checks them.
import Derived.Test.YthdpiceiemkjlaaGFitsOrderx0
import Derived.Test.YthdpiceiemkjlaaGFitsOrderx1
import Derived.Test.YthdpiceiemkjlaaGFitsOrderx2
import Derived.Test.YthdpiceiemkjlaaGFitsOrderx5
import Derived.Test.YthdpiceiemkjlaaGFitsOrderx10
namespace Go.Proofs.Ythdpiceiemkjlaa.GFitsOrder
open Go.RowKit Go.Proofs.YthdpiceiemkjlaaW.PrintWords Go.Proofs.YthdpiceiemkjlaaW.PrintLast Go.Proofs.YthdpiceiemkjlaaW.PrintMore
attribute [local go_sem] max2_int min2_int max_two min_two max_three min_three max_four min_four   -- for this text's walks alone
set_option linter.unusedVariables false
set_option linter.unusedSimpArgs false

/-! ### laws_FnExactFitsOrder: function 4 -/
def laws_FnExactFitsOrder.j0 : Nat → List (S79) → List Int → List (S77) → List Int → Bool → Option (Bool)
 | 0, _, _, _, _, _ => none
 | k + 1, x1, x2, x10, x11, x49 => if x49 = true then (some false) else ((laws_toCallS.f k x1).bind fun t313 => ((laws_eqCallS.f k x10 t313).bind fun t316 => (if t316 = true then ((laws_toIntS.f k x2).bind fun t317 => ((laws_eqIntS.f k x11 t317).bind fun t320 => (if t320 = true then (some true) else (some false)))) else (some false))))
def laws_FnExactFitsOrder.f (k : Nat) (a0 : Int) (l1 : List (S79)) (l2 : List Int) : Option (Bool) := if (l2.length : Int) > 1048576 then (some true) else ((laws_szCallS.f l1 1048576).bind fun t296 => (if t296 < 0 then (some true) else ((laws_toCallS.f k l1).bind fun t297 => ((laws_toIntS.f k l2).bind fun t300 => ((spec_FitsOrder.f k a0 t297 t300).bind fun bt303 => ((laws_toCallS.f k l1).bind fun t305 => ((laws_toIntS.f k l2).bind fun t308 => ((impl_FitsOrder.f k a0 t305 t308).bind fun bt311 => (if (bt311.1 != bt303.1) = true then (laws_FnExactFitsOrder.j0 k l1 l2 t305 t308 true) else (laws_FnExactFitsOrder.j0 k l1 l2 t305 t308 (bt311.2 != bt303.2)))))))))))
theorem laws_FnExactFitsOrder.mono_l : ∀ k, (∀ y0 y1 y2 y3 y4, LeO (laws_FnExactFitsOrder.j0 k y0 y1 y2 y3 y4) (laws_FnExactFitsOrder.j0 (k + 1) y0 y1 y2 y3 y4))
 | 0 => fun _ _ _ _ _ r h => by simp [laws_FnExactFitsOrder.j0] at h
 | k + 1 => by
  have ih0 := laws_FnExactFitsOrder.mono_l k
  ·intro y0 y1 y2 y3 y4
   unfold laws_FnExactFitsOrder.j0
   repeat' first | (with_reducible exact ih0 _ _ _ _ _) | (with_reducible exact impl_FitsOrder.mono _ _ _ _) | (with_reducible exact laws_eqCallS.mono _ _ _) | (with_reducible exact laws_eqIntS.mono _ _ _) | (with_reducible exact laws_toCallS.mono _ _) | (with_reducible exact laws_toIntS.mono _ _) | (with_reducible exact spec_FitsOrder.mono _ _ _ _) | (with_reducible exact LeO.refl _) | (with_reducible exact LeO.none _) | (with_reducible refine LeO.ite ?_ ?_) | (with_reducible refine LeO.bind ?_ (fun _ => ?_)) | exact ih0 _ _ _ _ _ | exact impl_FitsOrder.mono _ _ _ _ | exact laws_eqCallS.mono _ _ _ | exact laws_eqIntS.mono _ _ _ | exact laws_toCallS.mono _ _ | exact laws_toIntS.mono _ _ | exact spec_FitsOrder.mono _ _ _ _ | exact LeO.none _ | refine LeO.ite ?_ ?_ | refine LeO.bind ?_ (fun _ => ?_)
theorem laws_FnExactFitsOrder.mono : ∀ a0 a1 a2 k, LeO (laws_FnExactFitsOrder.f k a0 a1 a2) (laws_FnExactFitsOrder.f (k + 1) a0 a1 a2) := by
 intro a0 a1 a2 k
 have ih0 := laws_FnExactFitsOrder.mono_l k
 unfold laws_FnExactFitsOrder.f
 repeat' first | (with_reducible exact ih0 _ _ _ _ _) | (with_reducible exact impl_FitsOrder.mono _ _ _ _) | (with_reducible exact laws_eqCallS.mono _ _ _) | (with_reducible exact laws_eqIntS.mono _ _ _) | (with_reducible exact laws_toCallS.mono _ _) | (with_reducible exact laws_toIntS.mono _ _) | (with_reducible exact spec_FitsOrder.mono _ _ _ _) | (with_reducible exact LeO.refl _) | (with_reducible exact LeO.none _) | (with_reducible refine LeO.ite ?_ ?_) | (with_reducible refine LeO.bind ?_ (fun _ => ?_)) | exact ih0 _ _ _ _ _ | exact impl_FitsOrder.mono _ _ _ _ | exact laws_eqCallS.mono _ _ _ | exact laws_eqIntS.mono _ _ _ | exact laws_toCallS.mono _ _ | exact laws_toIntS.mono _ _ | exact spec_FitsOrder.mono _ _ _ _ | exact LeO.none _ | refine LeO.ite ?_ ?_ | refine LeO.bind ?_ (fun _ => ?_)
set_option maxHeartbeats 8000000 in
set_option maxRecDepth 100000 in
theorem laws_FnExactFitsOrder.calls (k : Nat) (a0 : Int) (A1 : Option Addr) (c1 : Nat) (l1 : List (S79)) (A2 : Option Addr) (c2 : Nat) (l2 : List Int) (r : Bool) (w : World) (hr1 : Kd.C k79 w A1 l1.length l1) (hc1 : l1.length ≤ c1) (hr2 : Kd.C (Kd.int .i64) w A2 l2.length l2) (hc2 : l2.length ≤ c2) (h : laws_FnExactFitsOrder.f k a0 l1 l2 = some r) :
  Calls Try.prog 4 #[.int .i64 a0, .slice A1 l1.length c1, .slice A2 l2.length c2] w fun e w' => e = .returned (.bool r) ∧ Below w.heap.size w w' := by
 have HR1 := a_ hr1
 have HC1 := a_ hc1
 clear hr1 hc1
 have HR2 := a_ hr2
 have HC2 := a_ hc2
 clear hr2 hc2
 have HB := a_ (Below.refl w.heap.size w)
 have H : (if (l2.length : Int) > 1048576 then (some true) else ((laws_szCallS.f l1 1048576).bind fun t296 => (if t296 < 0 then (some true) else ((laws_toCallS.f k l1).bind fun t297 => ((laws_toIntS.f k l2).bind fun t300 => ((spec_FitsOrder.f k a0 t297 t300).bind fun bt303 => ((laws_toCallS.f k l1).bind fun t305 => ((laws_toIntS.f k l2).bind fun t308 => ((impl_FitsOrder.f k a0 t305 t308).bind fun bt311 => (if (bt311.1 != bt303.1) = true then (laws_FnExactFitsOrder.j0 k l1 l2 t305 t308 true) else (laws_FnExactFitsOrder.j0 k l1 l2 t305 t308 (bt311.2 != bt303.2)))))))))))) = some r := h
 clear h
 by_cases c4 : (l2.length : Int) > 1048576
 ·rw [if_pos c4] at H
  have c4b0 : decide (1048576 < (l2.length : Int)) = true := decide_eq_true c4
  have c4b1 : decide (1048576 < l2.length) = true := decide_eq_true (by omega)
  clear c4
  obtain rfl := Option.some.inj H
  go_enter Try.func4, Try.ntmps4
  go_wp2
  go_ret
  exact ⟨by first | rfl | (simp [errW_none, errW_some] <;> rfl) | (simp [*, errW_none, errW_some] <;> rfl), b_⟩
 ·rw [if_neg c4] at H
  have c4b0 : decide (1048576 < (l2.length : Int)) = false := decide_eq_false c4
  have c4b1 : decide (1048576 < l2.length) = false := decide_eq_false (by omega)
  clear c4
  replace H := Option.bind_eq_some_iff.mp H
  obtain ⟨t296, A50, H⟩ := H
  replace H : (if t296 < 0 then (some true) else ((laws_toCallS.f k l1).bind fun t297 => ((laws_toIntS.f k l2).bind fun t300 => ((spec_FitsOrder.f k a0 t297 t300).bind fun bt303 => ((laws_toCallS.f k l1).bind fun t305 => ((laws_toIntS.f k l2).bind fun t308 => ((impl_FitsOrder.f k a0 t305 t308).bind fun bt311 => (if (bt311.1 != bt303.1) = true then (laws_FnExactFitsOrder.j0 k l1 l2 t305 t308 true) else (laws_FnExactFitsOrder.j0 k l1 l2 t305 t308 (bt311.2 != bt303.2)))))))))) = some r := H
  have A5 := a_ A50; clear A50
  by_cases c6 : t296 < 0
  ·rw [if_pos c6] at H
   have c6b0 : decide (t296 < 0) = true := decide_eq_true c6
   clear c6
   obtain rfl := Option.some.inj H
   go_enter Try.func4, Try.ntmps4
   go_wp2_with (first | ((with_reducible refine gate_callee (f := 9) rfl ?_); refine goesL_ (some 19) rfl rfl Try.func9 (by kernel_rfl) rfl #[.slice A1 l1.length c1, .int .i64 1048576] rfl la_ ?_; (with_reducible refine (laws_szCallS.calls _ _ l1 1048576 t296 _ ?side1 ?side2 A5.out).mono ?_); (case side1 => repeat (first | exact HR1.out | (with_reducible refine Kd.C_alloc ?_ _) | (with_reducible refine Kd.C_drewN ?_ _) | (with_reducible refine Kd.C_drew ?_))); (case side2 => exact HC1.out); rintro e w' ⟨rfl, ⟨nd, rfl⟩⟩; refine ⟨_, rfl, ?_⟩))
   go_ret
   exact ⟨by first | rfl | (simp [errW_none, errW_some] <;> rfl) | (simp [*, errW_none, errW_some] <;> rfl), b_⟩
  ·rw [if_neg c6] at H
   have c6b0 : decide (t296 < 0) = false := decide_eq_false c6
   clear c6
   replace H := Option.bind_eq_some_iff.mp H
   obtain ⟨t297, A70, H⟩ := H
   replace H : ((laws_toIntS.f k l2).bind fun t300 => ((spec_FitsOrder.f k a0 t297 t300).bind fun bt303 => ((laws_toCallS.f k l1).bind fun t305 => ((laws_toIntS.f k l2).bind fun t308 => ((impl_FitsOrder.f k a0 t305 t308).bind fun bt311 => (if (bt311.1 != bt303.1) = true then (laws_FnExactFitsOrder.j0 k l1 l2 t305 t308 true) else (laws_FnExactFitsOrder.j0 k l1 l2 t305 t308 (bt311.2 != bt303.2)))))))) = some r := H
   have A7 := a_ A70; clear A70
   replace H := Option.bind_eq_some_iff.mp H
   obtain ⟨t300, A80, H⟩ := H
   replace H : ((spec_FitsOrder.f k a0 t297 t300).bind fun bt303 => ((laws_toCallS.f k l1).bind fun t305 => ((laws_toIntS.f k l2).bind fun t308 => ((impl_FitsOrder.f k a0 t305 t308).bind fun bt311 => (if (bt311.1 != bt303.1) = true then (laws_FnExactFitsOrder.j0 k l1 l2 t305 t308 true) else (laws_FnExactFitsOrder.j0 k l1 l2 t305 t308 (bt311.2 != bt303.2))))))) = some r := H
   have A8 := a_ A80; clear A80
   replace H := Option.bind_eq_some_iff.mp H
   obtain ⟨⟨t303, t304⟩, A90, H⟩ := H
   replace H : ((laws_toCallS.f k l1).bind fun t305 => ((laws_toIntS.f k l2).bind fun t308 => ((impl_FitsOrder.f k a0 t305 t308).bind fun bt311 => (if (bt311.1 != t303) = true then (laws_FnExactFitsOrder.j0 k l1 l2 t305 t308 true) else (laws_FnExactFitsOrder.j0 k l1 l2 t305 t308 (bt311.2 != t304)))))) = some r := H
   have A9 := a_ A90; clear A90
   replace H := Option.bind_eq_some_iff.mp H
   obtain ⟨t305, A100, H⟩ := H
   replace H : ((laws_toIntS.f k l2).bind fun t308 => ((impl_FitsOrder.f k a0 t305 t308).bind fun bt311 => (if (bt311.1 != t303) = true then (laws_FnExactFitsOrder.j0 k l1 l2 t305 t308 true) else (laws_FnExactFitsOrder.j0 k l1 l2 t305 t308 (bt311.2 != t304))))) = some r := H
   have A10 := a_ A100; clear A100
   replace H := Option.bind_eq_some_iff.mp H
   obtain ⟨t308, A110, H⟩ := H
   replace H : ((impl_FitsOrder.f k a0 t305 t308).bind fun bt311 => (if (bt311.1 != t303) = true then (laws_FnExactFitsOrder.j0 k l1 l2 t305 t308 true) else (laws_FnExactFitsOrder.j0 k l1 l2 t305 t308 (bt311.2 != t304)))) = some r := H
   have A11 := a_ A110; clear A110
   replace H := Option.bind_eq_some_iff.mp H
   obtain ⟨⟨t311, t312⟩, A120, H⟩ := H
   replace H : (if (t311 != t303) = true then (laws_FnExactFitsOrder.j0 k l1 l2 t305 t308 true) else (laws_FnExactFitsOrder.j0 k l1 l2 t305 t308 (t312 != t304))) = some r := H
   have A12 := a_ A120; clear A120; have HC13 := a_ H; clear H
   go_enter Try.func4, Try.ntmps4
   go_upto_region 11 with (first | ((with_reducible refine gate_callee (f := 9) rfl ?_); refine goesL_ (some 19) rfl rfl Try.func9 (by kernel_rfl) rfl #[.slice A1 l1.length c1, .int .i64 1048576] rfl la_ ?_; (with_reducible refine (laws_szCallS.calls _ _ l1 1048576 t296 _ ?side1 ?side2 A5.out).mono ?_); (case side1 => repeat (first | exact HR1.out | (with_reducible refine Kd.C_alloc ?_ _) | (with_reducible refine Kd.C_drewN ?_ _) | (with_reducible refine Kd.C_drew ?_))); (case side2 => exact HC1.out); rintro e w' ⟨rfl, ⟨nd, rfl⟩⟩; refine ⟨_, rfl, ?_⟩) | ((with_reducible refine gate_callee (f := 11) rfl ?_); refine goesL_ (some 25) rfl rfl Try.func11 (by kernel_rfl) rfl #[.slice A1 l1.length c1] rfl la_ ?_; (with_reducible refine (laws_toCallS.calls k _ _ l1 t297 _ ?side1 ?side2 A7.out).mono ?_); (case side1 => repeat (first | exact HR1.out | (with_reducible refine Kd.C_alloc ?_ _) | (with_reducible refine Kd.C_drewN ?_ _) | (with_reducible refine Kd.C_drew ?_))); (case side2 => exact HC1.out); rintro e w14 ⟨v298, rfl, ho0, hb⟩; refine ⟨_, rfl, ?_⟩; have n0_ := a_ (Kd.R_lower ho0 (below_size b_)); have n1_ := a_ (below_step b_ hb); clear HB; have HO299 := n0_; have HB := n1_; clear n0_ n1_; (try clear hb); (try clear hb2); (try clear hk); (try clear hi); (try clear ho0)) | ((with_reducible refine gate_callee (f := 12) rfl ?_); refine goesL_ (some 27) rfl rfl Try.func12 (by kernel_rfl) rfl #[.slice A2 l2.length c2] rfl la_ ?_; (with_reducible refine (laws_toIntS.calls k _ _ l2 t300 _ ?side1 ?side2 A8.out).mono ?_); (case side1 => repeat (first | exact (Kd.C_below HR2.out HB.out) | (with_reducible refine Kd.C_alloc ?_ _) | (with_reducible refine Kd.C_drewN ?_ _) | (with_reducible refine Kd.C_drew ?_))); (case side2 => exact HC2.out); rintro e w15 ⟨v301, rfl, ho0, hb⟩; refine ⟨_, rfl, ?_⟩; have n0_ := a_ (Kd.R_below (r_ HO299.out) hb); have n1_ := a_ (Kd.R_lower ho0 (below_size b_)); have n2_ := a_ (below_step b_ hb); clear HO299; clear HB; have HO299 := n0_; have HO302 := n1_; have HB := n2_; clear n0_ n1_ n2_; (try clear hb); (try clear hb2); (try clear hk); (try clear hi); (try clear ho0); obtain ⟨Ao16, co16, eo16⟩ := Kd.R_slice HO299.out; subst eo16; obtain ⟨Ao17, co17, eo17⟩ := Kd.R_slice HO302.out; subst eo17) | ((with_reducible refine gate_callee (f := 21) rfl ?_); refine goesL_ (some 28) rfl rfl Try.func21 (by kernel_rfl) rfl #[.int .i64 a0, .slice Ao16 t297.length co16, .slice Ao17 t300.length co17] rfl la_ ?_; (with_reducible refine (spec_FitsOrder.calls k a0 _ _ t297 _ _ t300 t303 t304 _ ?side1 ?side2 ?side3 ?side4 A9.out).mono ?_); (case side1 => repeat (first | exact (Kd.R_reads' HO299.out).2.2 | (with_reducible refine Kd.C_alloc ?_ _) | (with_reducible refine Kd.C_drewN ?_ _) | (with_reducible refine Kd.C_drew ?_))); (case side2 => exact (Kd.R_reads' HO299.out).2.1); (case side3 => repeat (first | exact (Kd.R_reads' HO302.out).2.2 | (with_reducible refine Kd.C_alloc ?_ _) | (with_reducible refine Kd.C_drewN ?_ _) | (with_reducible refine Kd.C_drew ?_))); (case side4 => exact (Kd.R_reads' HO302.out).2.1); rintro e w18 ⟨rfl, hb⟩; refine ⟨_, rfl, ?_⟩; have n0_ := a_ (Kd.R_below (r_ HO299.out) hb); have n1_ := a_ (Kd.R_below (r_ HO302.out) hb); have n2_ := a_ (below_step b_ hb); clear HO299; clear HO302; clear HB; have HO299 := n0_; have HO302 := n1_; have HB := n2_; clear n0_ n1_ n2_; (try clear hb); (try clear hb2); (try clear hk); (try clear hi)) | ((with_reducible refine gate_callee (f := 11) rfl ?_); refine goesL_ (some 32) rfl rfl Try.func11 (by kernel_rfl) rfl #[.slice A1 l1.length c1] rfl la_ ?_; (with_reducible refine (laws_toCallS.calls k _ _ l1 t305 _ ?side1 ?side2 A10.out).mono ?_); (case side1 => repeat (first | exact (Kd.C_below HR1.out HB.out) | (with_reducible refine Kd.C_alloc ?_ _) | (with_reducible refine Kd.C_drewN ?_ _) | (with_reducible refine Kd.C_drew ?_))); (case side2 => exact HC1.out); rintro e w19 ⟨v306, rfl, ho0, hb⟩; refine ⟨_, rfl, ?_⟩; have n0_ := a_ (Kd.R_elder' (r_ HO299.out) (by first | exact Kd.R_base ho0 | exact Kd.S_base ho0 | exact Kd.R_base ho0) hb); have n1_ := a_ (Kd.R_below (r_ HO302.out) hb); have n2_ := a_ (Kd.R_lower (Kd.R_new' ho0 (Kd.R_lt (r_ HO299.out))) (below_size b_)); have n3_ := a_ (below_step b_ hb); clear HO299; clear HO302; clear HB; have HO299 := n0_; have HO302 := n1_; have HO307 := n2_; have HB := n3_; clear n0_ n1_ n2_ n3_; (try clear hb); (try clear hb2); (try clear hk); (try clear hi); (try clear ho0)) | ((with_reducible refine gate_callee (f := 12) rfl ?_); refine goesL_ (some 34) rfl rfl Try.func12 (by kernel_rfl) rfl #[.slice A2 l2.length c2] rfl la_ ?_; (with_reducible refine (laws_toIntS.calls k _ _ l2 t308 _ ?side1 ?side2 A11.out).mono ?_); (case side1 => repeat (first | exact (Kd.C_below HR2.out HB.out) | (with_reducible refine Kd.C_alloc ?_ _) | (with_reducible refine Kd.C_drewN ?_ _) | (with_reducible refine Kd.C_drew ?_))); (case side2 => exact HC2.out); rintro e w20 ⟨v309, rfl, ho0, hb⟩; refine ⟨_, rfl, ?_⟩; have n0_ := a_ (Kd.R_below (r_ HO299.out) hb); have n1_ := a_ (Kd.R_elder' (r_ HO302.out) (by first | exact Kd.R_base ho0 | exact Kd.S_base ho0 | exact Kd.R_base ho0) hb); have n2_ := a_ (Kd.R_below (r_ HO307.out) hb); have n3_ := a_ (Kd.R_lower (Kd.R_new' ho0 (Kd.R_lt (r_ HO302.out))) (below_size b_)); have n4_ := a_ (below_step b_ hb); clear HO299; clear HO302; clear HO307; clear HB; have HO299 := n0_; have HO302 := n1_; have HO307 := n2_; have HO310 := n3_; have HB := n4_; clear n0_ n1_ n2_ n3_ n4_; (try clear hb); (try clear hb2); (try clear hk); (try clear hi); (try clear ho0); obtain ⟨Ao21, co21, eo21⟩ := Kd.R_slice HO307.out; subst eo21; obtain ⟨Ao22, co22, eo22⟩ := Kd.R_slice HO310.out; subst eo22) | ((with_reducible refine gate_callee (f := 22) rfl ?_); refine goesL_ (some 39) rfl rfl Try.func22 (by kernel_rfl) rfl #[.int .i64 a0, .slice Ao21 t305.length co21, .slice Ao22 t308.length co22] rfl la_ ?_; (with_reducible refine (impl_FitsOrder.calls k a0 _ _ t305 _ _ t308 t311 t312 _ ?side1 ?side2 ?side3 ?side4 A12.out).mono ?_); (case side1 => repeat (first | exact (Kd.R_reads' HO307.out).2.2 | (with_reducible refine Kd.C_alloc ?_ _) | (with_reducible refine Kd.C_drewN ?_ _) | (with_reducible refine Kd.C_drew ?_))); (case side2 => exact (Kd.R_reads' HO307.out).2.1); (case side3 => repeat (first | exact (Kd.R_reads' HO310.out).2.2 | (with_reducible refine Kd.C_alloc ?_ _) | (with_reducible refine Kd.C_drewN ?_ _) | (with_reducible refine Kd.C_drew ?_))); (case side4 => exact (Kd.R_reads' HO310.out).2.1); rintro e w23 ⟨rfl, hb⟩; refine ⟨_, rfl, ?_⟩; have n0_ := a_ (Kd.R_below (r_ HO299.out) hb); have n1_ := a_ (Kd.R_below (r_ HO302.out) hb); have n2_ := a_ (Kd.R_below (r_ HO307.out) hb); have n3_ := a_ (Kd.R_below (r_ HO310.out) hb); have n4_ := a_ (below_step b_ hb); clear HO299; clear HO302; clear HO307; clear HO310; clear HB; have HO299 := n0_; have HO302 := n1_; have HO307 := n2_; have HO310 := n3_; have HB := n4_; clear n0_ n1_ n2_ n3_ n4_; (try clear hb); (try clear hb2); (try clear hk); (try clear hi)))
   (try simp only [Act.put, List.setIfInBounds_toArray, List.set_cons_zero, List.set_cons_succ])
   go_cut [49] (fun v49 wc => ∃ (kq : Nat) (x49_12 : Bool), v49 = .bool x49_12 ∧ Aside0 (laws_FnExactFitsOrder.j0 kq l1 l2 t305 t308 x49_12 = some r) ∧ Aside0 (kq ≤ k) ∧ Aside0 (Kd.R k77 77 wc w.heap.size (fun _ => True) (.slice Ao21 t305.length co21) t305) ∧ Aside0 (Kd.R (Kd.int .i64) 3 wc w.heap.size (fun _ => True) (.slice Ao22 t308.length co22) t308) ∧ Aside0 (Below w.heap.size w wc))
   case first =>
    have H := HC13.out; clear HC13
    by_cases c24 : (t311 != t303) = true
    ·rw [if_pos c24] at H
     have c24b0 : (t311 != t303) = true := c24
     (try (have c24b1 : decide (t311 = t303) = false := by simpa using c24))
     (try (have c24b2 : (t311 == t303) = false := by simpa using c24))
     (try (have c24b3 : ¬ (t311 = t303) := by simpa using c24))
     clear c24
     (first | rw [c24b0] | (simp only [i64_w, i32_w]; rw [c24b0]) | skip)
     have H' := a_ H
     clear H
     go_wp2
     go_meet
     case rel => exact ⟨_, (true), (by first | rfl | (simp; done) | (simp [*]; done)), H', ⟨by first | omega | exact Nat.le_refl _⟩, ⟨by refine r_ ?_; exact Kd.R_mono HO307.out (fun _ hk => trivial)⟩, ⟨by refine r_ ?_; exact Kd.R_mono HO310.out (fun _ hk => trivial)⟩, ⟨b_⟩⟩
    ·rw [if_neg c24] at H
     have c24b0 : (t311 != t303) = false := by simpa using c24
     (try (have c24b1 : decide (t311 = t303) = true := by simpa using c24))
     (try (have c24b2 : (t311 == t303) = true := by simpa using c24))
     clear c24
     (first | rw [c24b0] | (simp only [i64_w, i32_w]; rw [c24b0]) | skip)
     have H' := a_ H
     clear H
     go_wp2
     go_meet
     case rel => exact ⟨_, ((t312 != t304)), (by first | rfl | (simp; done) | (simp [*]; done)), H', ⟨by first | omega | exact Nat.le_refl _⟩, ⟨by refine r_ ?_; exact Kd.R_mono HO307.out (fun _ hk => trivial)⟩, ⟨by refine r_ ?_; exact Kd.R_mono HO310.out (fun _ hk => trivial)⟩, ⟨b_⟩⟩
   case rest =>
    clear HC13; (try clear c1); (try clear c2); (try clear p2); (try clear c4); (try clear c4b0); (try clear c4b1); (try clear c6); (try clear c6b0); (try clear c9); (try clear c11); (try clear c12); (try clear c21); (try clear c22); (try clear c24); (try clear c24b0); (try clear c24b1); (try clear c24b2)
    obtain ⟨kq, x49_12, rfl, HA, HJ12, HO_10, HO_11, HB⟩ := hcut
    cases kq with
    | zero => exact absurd HA.out (by simp [laws_FnExactFitsOrder.j0])
    | succ kj12 =>
     have H := HA.out; clear HA
     simp only [laws_FnExactFitsOrder.j0] at H
     by_cases c25 : x49_12 = true
     ·subst c25
      have H1 : (some false) = some r := by rw [if_pos rfl] at H; exact H
      clear H; have H := H1; clear H1
      obtain rfl := Option.some.inj H
      go_wp2
      go_ret
      exact ⟨by first | rfl | (simp [errW_none, errW_some] <;> rfl) | (simp [*, errW_none, errW_some] <;> rfl), b_⟩
     ·replace c25 := Bool.eq_false_iff.mpr c25
      subst c25
      have H1 : ((laws_toCallS.f kj12 l1).bind fun t313 => ((laws_eqCallS.f kj12 t305 t313).bind fun t316 => (if t316 = true then ((laws_toIntS.f kj12 l2).bind fun t317 => ((laws_eqIntS.f kj12 t308 t317).bind fun t320 => (if t320 = true then (some true) else (some false)))) else (some false)))) = some r := by rw [if_neg (show ¬ (false = true) by decide)] at H; exact H
      clear H; have H := H1; clear H1
      replace H := Option.bind_eq_some_iff.mp H
      obtain ⟨t313, A260, H⟩ := H
      replace H : ((laws_eqCallS.f kj12 t305 t313).bind fun t316 => (if t316 = true then ((laws_toIntS.f kj12 l2).bind fun t317 => ((laws_eqIntS.f kj12 t308 t317).bind fun t320 => (if t320 = true then (some true) else (some false)))) else (some false))) = some r := H
      have A26 := a_ A260; clear A260
      replace H := Option.bind_eq_some_iff.mp H
      obtain ⟨t316, A270, H⟩ := H
      replace H : (if t316 = true then ((laws_toIntS.f kj12 l2).bind fun t317 => ((laws_eqIntS.f kj12 t308 t317).bind fun t320 => (if t320 = true then (some true) else (some false)))) else (some false)) = some r := H
      have A27 := a_ A270; clear A270
      by_cases c28 : t316 = true
      ·subst c28
       have H1 : ((laws_toIntS.f kj12 l2).bind fun t317 => ((laws_eqIntS.f kj12 t308 t317).bind fun t320 => (if t320 = true then (some true) else (some false)))) = some r := by rw [if_pos rfl] at H; exact H
       clear H; have H := H1; clear H1
       replace H := Option.bind_eq_some_iff.mp H
       obtain ⟨t317, A290, H⟩ := H
       replace H : ((laws_eqIntS.f kj12 t308 t317).bind fun t320 => (if t320 = true then (some true) else (some false))) = some r := H
       have A29 := a_ A290; clear A290
       replace H := Option.bind_eq_some_iff.mp H
       obtain ⟨t320, A300, H⟩ := H
       replace H : (if t320 = true then (some true) else (some false)) = some r := H
       have A30 := a_ A300; clear A300
       by_cases c31 : t320 = true
       ·subst c31
        have H1 : (some true) = some r := by rw [if_pos rfl] at H; exact H
        clear H; have H := H1; clear H1
        obtain rfl := Option.some.inj H
        go_wp2_with (first | ((with_reducible refine gate_callee (f := 11) rfl ?_); refine goesL_ (some 52) rfl rfl Try.func11 (by kernel_rfl) rfl #[.slice A1 l1.length c1] rfl la_ ?_; (with_reducible refine (laws_toCallS.calls kj12 _ _ l1 t313 _ ?side1 ?side2 A26.out).mono ?_); (case side1 => repeat (first | exact (Kd.C_below HR1.out HB.out) | (with_reducible refine Kd.C_alloc ?_ _) | (with_reducible refine Kd.C_drewN ?_ _) | (with_reducible refine Kd.C_drew ?_))); (case side2 => exact HC1.out); rintro e w32 ⟨v314, rfl, ho0, hb⟩; refine ⟨_, rfl, ?_⟩; have n0_ := a_ (Kd.R_elder' (r_ HO_10.out) (by first | exact Kd.R_base ho0 | exact Kd.S_base ho0 | exact Kd.R_base ho0) hb); have n1_ := a_ (Kd.R_below (r_ HO_11.out) hb); have n2_ := a_ (Kd.R_lower (Kd.R_new' ho0 (Kd.R_lt (r_ HO_10.out))) (below_size b_)); have n3_ := a_ (below_step b_ hb); clear HO_10; clear HO_11; clear HB; have HO_10 := n0_; have HO_11 := n1_; have HO315 := n2_; have HB := n3_; clear n0_ n1_ n2_ n3_; (try clear hb); (try clear hb2); (try clear hk); (try clear hi); (try clear ho0); obtain ⟨Ao33, co33, eo33⟩ := Kd.R_slice HO315.out; subst eo33) | ((with_reducible refine gate_callee (f := 15) rfl ?_); refine goesL_ (some 53) rfl rfl Try.func15 (by kernel_rfl) rfl #[.slice Ao21 t305.length co21, .slice Ao33 t313.length co33] rfl la_ ?_; (with_reducible refine (laws_eqCallS.calls kj12 _ _ t305 _ _ t313 true _ ?side1 ?side2 ?side3 ?side4 A27.out).mono ?_); (case side1 => repeat (first | exact (Kd.R_reads' HO_10.out).2.2 | (with_reducible refine Kd.C_alloc ?_ _) | (with_reducible refine Kd.C_drewN ?_ _) | (with_reducible refine Kd.C_drew ?_))); (case side2 => exact (Kd.R_reads' HO_10.out).2.1); (case side3 => repeat (first | exact (Kd.R_reads' HO315.out).2.2 | (with_reducible refine Kd.C_alloc ?_ _) | (with_reducible refine Kd.C_drewN ?_ _) | (with_reducible refine Kd.C_drew ?_))); (case side4 => exact (Kd.R_reads' HO315.out).2.1); rintro e w34 ⟨rfl, hb⟩; refine ⟨_, rfl, ?_⟩; have n0_ := a_ (Kd.R_below (r_ HO_10.out) hb); have n1_ := a_ (Kd.R_below (r_ HO_11.out) hb); have n2_ := a_ (Kd.R_below (r_ HO315.out) hb); have n3_ := a_ (below_step b_ hb); clear HO_10; clear HO_11; clear HO315; clear HB; have HO_10 := n0_; have HO_11 := n1_; have HO315 := n2_; have HB := n3_; clear n0_ n1_ n2_ n3_; (try clear hb); (try clear hb2); (try clear hk); (try clear hi)) | ((with_reducible refine gate_callee (f := 12) rfl ?_); refine goesL_ (some 57) rfl rfl Try.func12 (by kernel_rfl) rfl #[.slice A2 l2.length c2] rfl la_ ?_; (with_reducible refine (laws_toIntS.calls kj12 _ _ l2 t317 _ ?side1 ?side2 A29.out).mono ?_); (case side1 => repeat (first | exact (Kd.C_below HR2.out HB.out) | (with_reducible refine Kd.C_alloc ?_ _) | (with_reducible refine Kd.C_drewN ?_ _) | (with_reducible refine Kd.C_drew ?_))); (case side2 => exact HC2.out); rintro e w35 ⟨v318, rfl, ho0, hb⟩; refine ⟨_, rfl, ?_⟩; have n0_ := a_ (Kd.R_below (r_ HO_10.out) hb); have n1_ := a_ (Kd.R_elder' (r_ HO_11.out) (by first | exact Kd.R_base ho0 | exact Kd.S_base ho0 | exact Kd.R_base ho0) hb); have n2_ := a_ (Kd.R_below (r_ HO315.out) hb); have n3_ := a_ (Kd.R_lower (Kd.R_new' ho0 (Kd.R_lt (r_ HO_11.out))) (below_size b_)); have n4_ := a_ (below_step b_ hb); clear HO_10; clear HO_11; clear HO315; clear HB; have HO_10 := n0_; have HO_11 := n1_; have HO315 := n2_; have HO319 := n3_; have HB := n4_; clear n0_ n1_ n2_ n3_ n4_; (try clear hb); (try clear hb2); (try clear hk); (try clear hi); (try clear ho0); obtain ⟨Ao36, co36, eo36⟩ := Kd.R_slice HO319.out; subst eo36) | ((with_reducible refine gate_callee (f := 16) rfl ?_); refine goesL_ (some 58) rfl rfl Try.func16 (by kernel_rfl) rfl #[.slice Ao22 t308.length co22, .slice Ao36 t317.length co36] rfl la_ ?_; (with_reducible refine (laws_eqIntS.calls kj12 _ _ t308 _ _ t317 true _ ?side1 ?side2 ?side3 ?side4 A30.out).mono ?_); (case side1 => repeat (first | exact (Kd.R_reads' HO_11.out).2.2 | (with_reducible refine Kd.C_alloc ?_ _) | (with_reducible refine Kd.C_drewN ?_ _) | (with_reducible refine Kd.C_drew ?_))); (case side2 => exact (Kd.R_reads' HO_11.out).2.1); (case side3 => repeat (first | exact (Kd.R_reads' HO319.out).2.2 | (with_reducible refine Kd.C_alloc ?_ _) | (with_reducible refine Kd.C_drewN ?_ _) | (with_reducible refine Kd.C_drew ?_))); (case side4 => exact (Kd.R_reads' HO319.out).2.1); rintro e w' ⟨rfl, ⟨nd, rfl⟩⟩; refine ⟨_, rfl, ?_⟩))
        go_ret
        exact ⟨by first | rfl | (simp [errW_none, errW_some] <;> rfl) | (simp [*, errW_none, errW_some] <;> rfl), b_⟩
       ·replace c31 := Bool.eq_false_iff.mpr c31
        subst c31
        have H1 : (some false) = some r := by rw [if_neg (show ¬ (false = true) by decide)] at H; exact H
        clear H; have H := H1; clear H1
        obtain rfl := Option.some.inj H
        go_wp2_with (first | ((with_reducible refine gate_callee (f := 11) rfl ?_); refine goesL_ (some 52) rfl rfl Try.func11 (by kernel_rfl) rfl #[.slice A1 l1.length c1] rfl la_ ?_; (with_reducible refine (laws_toCallS.calls kj12 _ _ l1 t313 _ ?side1 ?side2 A26.out).mono ?_); (case side1 => repeat (first | exact (Kd.C_below HR1.out HB.out) | (with_reducible refine Kd.C_alloc ?_ _) | (with_reducible refine Kd.C_drewN ?_ _) | (with_reducible refine Kd.C_drew ?_))); (case side2 => exact HC1.out); rintro e w37 ⟨v314, rfl, ho0, hb⟩; refine ⟨_, rfl, ?_⟩; have n0_ := a_ (Kd.R_elder' (r_ HO_10.out) (by first | exact Kd.R_base ho0 | exact Kd.S_base ho0 | exact Kd.R_base ho0) hb); have n1_ := a_ (Kd.R_below (r_ HO_11.out) hb); have n2_ := a_ (Kd.R_lower (Kd.R_new' ho0 (Kd.R_lt (r_ HO_10.out))) (below_size b_)); have n3_ := a_ (below_step b_ hb); clear HO_10; clear HO_11; clear HB; have HO_10 := n0_; have HO_11 := n1_; have HO315 := n2_; have HB := n3_; clear n0_ n1_ n2_ n3_; (try clear hb); (try clear hb2); (try clear hk); (try clear hi); (try clear ho0); obtain ⟨Ao38, co38, eo38⟩ := Kd.R_slice HO315.out; subst eo38) | ((with_reducible refine gate_callee (f := 15) rfl ?_); refine goesL_ (some 53) rfl rfl Try.func15 (by kernel_rfl) rfl #[.slice Ao21 t305.length co21, .slice Ao38 t313.length co38] rfl la_ ?_; (with_reducible refine (laws_eqCallS.calls kj12 _ _ t305 _ _ t313 true _ ?side1 ?side2 ?side3 ?side4 A27.out).mono ?_); (case side1 => repeat (first | exact (Kd.R_reads' HO_10.out).2.2 | (with_reducible refine Kd.C_alloc ?_ _) | (with_reducible refine Kd.C_drewN ?_ _) | (with_reducible refine Kd.C_drew ?_))); (case side2 => exact (Kd.R_reads' HO_10.out).2.1); (case side3 => repeat (first | exact (Kd.R_reads' HO315.out).2.2 | (with_reducible refine Kd.C_alloc ?_ _) | (with_reducible refine Kd.C_drewN ?_ _) | (with_reducible refine Kd.C_drew ?_))); (case side4 => exact (Kd.R_reads' HO315.out).2.1); rintro e w39 ⟨rfl, hb⟩; refine ⟨_, rfl, ?_⟩; have n0_ := a_ (Kd.R_below (r_ HO_10.out) hb); have n1_ := a_ (Kd.R_below (r_ HO_11.out) hb); have n2_ := a_ (Kd.R_below (r_ HO315.out) hb); have n3_ := a_ (below_step b_ hb); clear HO_10; clear HO_11; clear HO315; clear HB; have HO_10 := n0_; have HO_11 := n1_; have HO315 := n2_; have HB := n3_; clear n0_ n1_ n2_ n3_; (try clear hb); (try clear hb2); (try clear hk); (try clear hi)) | ((with_reducible refine gate_callee (f := 12) rfl ?_); refine goesL_ (some 57) rfl rfl Try.func12 (by kernel_rfl) rfl #[.slice A2 l2.length c2] rfl la_ ?_; (with_reducible refine (laws_toIntS.calls kj12 _ _ l2 t317 _ ?side1 ?side2 A29.out).mono ?_); (case side1 => repeat (first | exact (Kd.C_below HR2.out HB.out) | (with_reducible refine Kd.C_alloc ?_ _) | (with_reducible refine Kd.C_drewN ?_ _) | (with_reducible refine Kd.C_drew ?_))); (case side2 => exact HC2.out); rintro e w40 ⟨v318, rfl, ho0, hb⟩; refine ⟨_, rfl, ?_⟩; have n0_ := a_ (Kd.R_below (r_ HO_10.out) hb); have n1_ := a_ (Kd.R_elder' (r_ HO_11.out) (by first | exact Kd.R_base ho0 | exact Kd.S_base ho0 | exact Kd.R_base ho0) hb); have n2_ := a_ (Kd.R_below (r_ HO315.out) hb); have n3_ := a_ (Kd.R_lower (Kd.R_new' ho0 (Kd.R_lt (r_ HO_11.out))) (below_size b_)); have n4_ := a_ (below_step b_ hb); clear HO_10; clear HO_11; clear HO315; clear HB; have HO_10 := n0_; have HO_11 := n1_; have HO315 := n2_; have HO319 := n3_; have HB := n4_; clear n0_ n1_ n2_ n3_ n4_; (try clear hb); (try clear hb2); (try clear hk); (try clear hi); (try clear ho0); obtain ⟨Ao41, co41, eo41⟩ := Kd.R_slice HO319.out; subst eo41) | ((with_reducible refine gate_callee (f := 16) rfl ?_); refine goesL_ (some 58) rfl rfl Try.func16 (by kernel_rfl) rfl #[.slice Ao22 t308.length co22, .slice Ao41 t317.length co41] rfl la_ ?_; (with_reducible refine (laws_eqIntS.calls kj12 _ _ t308 _ _ t317 false _ ?side1 ?side2 ?side3 ?side4 A30.out).mono ?_); (case side1 => repeat (first | exact (Kd.R_reads' HO_11.out).2.2 | (with_reducible refine Kd.C_alloc ?_ _) | (with_reducible refine Kd.C_drewN ?_ _) | (with_reducible refine Kd.C_drew ?_))); (case side2 => exact (Kd.R_reads' HO_11.out).2.1); (case side3 => repeat (first | exact (Kd.R_reads' HO319.out).2.2 | (with_reducible refine Kd.C_alloc ?_ _) | (with_reducible refine Kd.C_drewN ?_ _) | (with_reducible refine Kd.C_drew ?_))); (case side4 => exact (Kd.R_reads' HO319.out).2.1); rintro e w' ⟨rfl, ⟨nd, rfl⟩⟩; refine ⟨_, rfl, ?_⟩))
        go_ret
        exact ⟨by first | rfl | (simp [errW_none, errW_some] <;> rfl) | (simp [*, errW_none, errW_some] <;> rfl), b_⟩
      ·replace c28 := Bool.eq_false_iff.mpr c28
       subst c28
       have H1 : (some false) = some r := by rw [if_neg (show ¬ (false = true) by decide)] at H; exact H
       clear H; have H := H1; clear H1
       obtain rfl := Option.some.inj H
       go_wp2_with (first | ((with_reducible refine gate_callee (f := 11) rfl ?_); refine goesL_ (some 52) rfl rfl Try.func11 (by kernel_rfl) rfl #[.slice A1 l1.length c1] rfl la_ ?_; (with_reducible refine (laws_toCallS.calls kj12 _ _ l1 t313 _ ?side1 ?side2 A26.out).mono ?_); (case side1 => repeat (first | exact (Kd.C_below HR1.out HB.out) | (with_reducible refine Kd.C_alloc ?_ _) | (with_reducible refine Kd.C_drewN ?_ _) | (with_reducible refine Kd.C_drew ?_))); (case side2 => exact HC1.out); rintro e w42 ⟨v314, rfl, ho0, hb⟩; refine ⟨_, rfl, ?_⟩; have n0_ := a_ (Kd.R_elder' (r_ HO_10.out) (by first | exact Kd.R_base ho0 | exact Kd.S_base ho0 | exact Kd.R_base ho0) hb); have n1_ := a_ (Kd.R_below (r_ HO_11.out) hb); have n2_ := a_ (Kd.R_lower (Kd.R_new' ho0 (Kd.R_lt (r_ HO_10.out))) (below_size b_)); have n3_ := a_ (below_step b_ hb); clear HO_10; clear HO_11; clear HB; have HO_10 := n0_; have HO_11 := n1_; have HO315 := n2_; have HB := n3_; clear n0_ n1_ n2_ n3_; (try clear hb); (try clear hb2); (try clear hk); (try clear hi); (try clear ho0); obtain ⟨Ao43, co43, eo43⟩ := Kd.R_slice HO315.out; subst eo43) | ((with_reducible refine gate_callee (f := 15) rfl ?_); refine goesL_ (some 53) rfl rfl Try.func15 (by kernel_rfl) rfl #[.slice Ao21 t305.length co21, .slice Ao43 t313.length co43] rfl la_ ?_; (with_reducible refine (laws_eqCallS.calls kj12 _ _ t305 _ _ t313 false _ ?side1 ?side2 ?side3 ?side4 A27.out).mono ?_); (case side1 => repeat (first | exact (Kd.R_reads' HO_10.out).2.2 | (with_reducible refine Kd.C_alloc ?_ _) | (with_reducible refine Kd.C_drewN ?_ _) | (with_reducible refine Kd.C_drew ?_))); (case side2 => exact (Kd.R_reads' HO_10.out).2.1); (case side3 => repeat (first | exact (Kd.R_reads' HO315.out).2.2 | (with_reducible refine Kd.C_alloc ?_ _) | (with_reducible refine Kd.C_drewN ?_ _) | (with_reducible refine Kd.C_drew ?_))); (case side4 => exact (Kd.R_reads' HO315.out).2.1); rintro e w44 ⟨rfl, hb⟩; refine ⟨_, rfl, ?_⟩; have n0_ := a_ (Kd.R_below (r_ HO_10.out) hb); have n1_ := a_ (Kd.R_below (r_ HO_11.out) hb); have n2_ := a_ (Kd.R_below (r_ HO315.out) hb); have n3_ := a_ (below_step b_ hb); clear HO_10; clear HO_11; clear HO315; clear HB; have HO_10 := n0_; have HO_11 := n1_; have HO315 := n2_; have HB := n3_; clear n0_ n1_ n2_ n3_; (try clear hb); (try clear hb2); (try clear hk); (try clear hi)))
       go_ret
       exact ⟨by first | rfl | (simp [errW_none, errW_some] <;> rfl) | (simp [*, errW_none, errW_some] <;> rfl), b_⟩

end Go.Proofs.Ythdpiceiemkjlaa.GFitsOrder

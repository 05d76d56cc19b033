-- Printed by wip/tools/print2.py out of the translation: walks and plain functions; Lean checks them.
import Derived.Test.YtahnllomlgillaaDoorGNumTextx0
import Derived.Test.YtahnllomlgillaaDoorGNumTextx2
import Derived.Test.YtahnllomlgillaaDoorGNumTextx3
namespace Go.Proofs.YtahnllomlgillaaDoor.GNumText
open Go.RowKit Go.Proofs.YtahnllomlgillaaDoorW.PrintWords Go.Proofs.YtahnllomlgillaaDoorW.PrintLast Go.Proofs.YtahnllomlgillaaDoorW.PrintMore
attribute [local go_sem] max2_int min2_int max_two min_two max_three min_three max_four min_four   -- for this text's walks alone
set_option linter.unusedVariables false
set_option linter.unusedSimpArgs false

/-! ### impl_NumText: function 7 -/
def impl_NumText.f (k : Nat) (a0 : Nat) : Option (ByteArray) := (impl_KindOf.f a0).bind fun t146 => (if t146 = 0 then (some (⟨#[110, 97, 110]⟩ : ByteArray)) else (if t146 = 1 then (if flt a0 0 = true then (some (⟨#[45, 105, 110, 102]⟩ : ByteArray)) else (some (⟨#[105, 110, 102]⟩ : ByteArray))) else (if t146 = 2 then ((impl_IsMinus.f a0).bind fun t147 => (if t147 = true then (some (⟨#[45, 48]⟩ : ByteArray)) else (some (⟨#[48]⟩ : ByteArray)))) else ((impl_PartsOf.f k a0).bind fun bt148 => ((strconv_Itoa.f bt148.1).bind fun t151 => (if catOk t151 (⟨#[112]⟩ : ByteArray) = true then ((strconv_Itoa.f bt148.2.1).bind fun t152 => (if catOk (cat t151 (⟨#[112]⟩ : ByteArray)) t152 = true then (some (cat (cat t151 (⟨#[112]⟩ : ByteArray)) t152)) else (none))) else (none)))))))
theorem impl_NumText.mono : ∀ a0 k, LeO (impl_NumText.f k a0) (impl_NumText.f (k + 1) a0) := by
  intro a0 k
  unfold impl_NumText.f
  repeat' first
      | (with_reducible exact impl_PartsOf.mono _ _)
      | (with_reducible exact LeO.refl _)
      | (with_reducible exact LeO.none _)
      | (with_reducible refine LeO.ite ?_ ?_)
      | (with_reducible refine LeO.bind ?_ (fun _ => ?_))
      | exact impl_PartsOf.mono _ _
      | exact LeO.none _
      | refine LeO.ite ?_ ?_
      | refine LeO.bind ?_ (fun _ => ?_)
set_option maxHeartbeats 8000000 in
set_option maxRecDepth 100000 in
theorem impl_NumText.calls (k : Nat) (a0 : Nat) (r : ByteArray) (w : World) (hT : Go.Proofs.YtahnllomlgillaaDoor.MTxt.Tabs w) (h : impl_NumText.f k a0 = some r) :
    Calls Tryd.prog 7 #[.float .f64 a0] w fun e w' => e = .returned (.string r) ∧ Below w.heap.size w w' := by
  have HTab := Aside0.mk hT
  clear hT
  have HB := Aside0.mk (Below.refl w.heap.size w)
  have H : ((impl_KindOf.f a0).bind fun t146 => (if t146 = 0 then (some (⟨#[110, 97, 110]⟩ : ByteArray)) else (if t146 = 1 then (if flt a0 0 = true then (some (⟨#[45, 105, 110, 102]⟩ : ByteArray)) else (some (⟨#[105, 110, 102]⟩ : ByteArray))) else (if t146 = 2 then ((impl_IsMinus.f a0).bind fun t147 => (if t147 = true then (some (⟨#[45, 48]⟩ : ByteArray)) else (some (⟨#[48]⟩ : ByteArray)))) else ((impl_PartsOf.f k a0).bind fun bt148 => ((strconv_Itoa.f bt148.1).bind fun t151 => (if catOk t151 (⟨#[112]⟩ : ByteArray) = true then ((strconv_Itoa.f bt148.2.1).bind fun t152 => (if catOk (cat t151 (⟨#[112]⟩ : ByteArray)) t152 = true then (some (cat (cat t151 (⟨#[112]⟩ : ByteArray)) t152)) else (none))) else (none)))))))) = some r := h
  clear h
  replace H := Option.bind_eq_some_iff.mp H
  obtain ⟨t146, A20, H⟩ := H
  replace H : (if t146 = 0 then (some (⟨#[110, 97, 110]⟩ : ByteArray)) else (if t146 = 1 then (if flt a0 0 = true then (some (⟨#[45, 105, 110, 102]⟩ : ByteArray)) else (some (⟨#[105, 110, 102]⟩ : ByteArray))) else (if t146 = 2 then ((impl_IsMinus.f a0).bind fun t147 => (if t147 = true then (some (⟨#[45, 48]⟩ : ByteArray)) else (some (⟨#[48]⟩ : ByteArray)))) else ((impl_PartsOf.f k a0).bind fun bt148 => ((strconv_Itoa.f bt148.1).bind fun t151 => (if catOk t151 (⟨#[112]⟩ : ByteArray) = true then ((strconv_Itoa.f bt148.2.1).bind fun t152 => (if catOk (cat t151 (⟨#[112]⟩ : ByteArray)) t152 = true then (some (cat (cat t151 (⟨#[112]⟩ : ByteArray)) t152)) else (none))) else (none))))))) = some r := H
  have A2 := Aside0.mk A20
  clear A20
  by_cases c3 : t146 = 0
  · rw [if_pos c3] at H
    have c3b0 : (t146 == 0) = true := beq_iff_eq.mpr c3
    have c3b1 : (t146 != 0) = false := bne_eq_false_iff_eq.mpr c3
    clear c3
    obtain rfl := Option.some.inj H
    go_enter Tryd.func7, Tryd.ntmps7
    go_wp2_with (first | ((with_reducible refine gate_callee (f := 19) rfl ?_); refine goesL_ (some 7) rfl rfl Tryd.func19 (by kernel_rfl) rfl #[.float .f64 a0] rfl (by (try simp only [List.map_toArray, List.map_cons, List.map_nil]); first | done | rfl | (simp only [List.length_drop, List.length_take]; rfl)) ?_; (with_reducible refine (impl_KindOf.calls a0 t146 _ A2.out).mono ?_); rintro e w' ⟨rfl, ⟨nd, rfl⟩⟩; refine ⟨_, rfl, ?_⟩))
    go_ret
    exact ⟨by first | rfl | (simp [errW_none, errW_some] <;> rfl) | (simp [*, errW_none, errW_some] <;> rfl), by repeat (first | (with_reducible first | exact HB.out | apply below_alloc | apply pw_below_drewN | apply below_drew1) | exact HB.out)⟩
  · rw [if_neg c3] at H
    have c3b0 : (t146 == 0) = false := beq_eq_false_iff_ne.mpr c3
    have c3b1 : (t146 != 0) = true := bne_iff_ne.mpr c3
    by_cases c4 : t146 = 1
    · rw [if_pos c4] at H
      have c4b0 : (t146 == 1) = true := beq_iff_eq.mpr c4
      have c4b1 : (t146 != 1) = false := bne_eq_false_iff_eq.mpr c4
      clear c4
      by_cases c5 : flt a0 0 = true
      · rw [if_pos c5] at H
        have c5b0 : flt a0 0 = true := c5
        clear c5
        obtain rfl := Option.some.inj H
        go_enter Tryd.func7, Tryd.ntmps7
        go_wp2_with (first | ((with_reducible refine gate_callee (f := 19) rfl ?_); refine goesL_ (some 7) rfl rfl Tryd.func19 (by kernel_rfl) rfl #[.float .f64 a0] rfl (by (try simp only [List.map_toArray, List.map_cons, List.map_nil]); first | done | rfl | (simp only [List.length_drop, List.length_take]; rfl)) ?_; (with_reducible refine (impl_KindOf.calls a0 t146 _ A2.out).mono ?_); rintro e w' ⟨rfl, ⟨nd, rfl⟩⟩; refine ⟨_, rfl, ?_⟩))
        go_ret
        exact ⟨by first | rfl | (simp [errW_none, errW_some] <;> rfl) | (simp [*, errW_none, errW_some] <;> rfl), by repeat (first | (with_reducible first | exact HB.out | apply below_alloc | apply pw_below_drewN | apply below_drew1) | exact HB.out)⟩
      · rw [if_neg c5] at H
        have c5b0 : flt a0 0 = false := by simpa using c5
        clear c5
        obtain rfl := Option.some.inj H
        go_enter Tryd.func7, Tryd.ntmps7
        go_wp2_with (first | ((with_reducible refine gate_callee (f := 19) rfl ?_); refine goesL_ (some 7) rfl rfl Tryd.func19 (by kernel_rfl) rfl #[.float .f64 a0] rfl (by (try simp only [List.map_toArray, List.map_cons, List.map_nil]); first | done | rfl | (simp only [List.length_drop, List.length_take]; rfl)) ?_; (with_reducible refine (impl_KindOf.calls a0 t146 _ A2.out).mono ?_); rintro e w' ⟨rfl, ⟨nd, rfl⟩⟩; refine ⟨_, rfl, ?_⟩))
        go_ret
        exact ⟨by first | rfl | (simp [errW_none, errW_some] <;> rfl) | (simp [*, errW_none, errW_some] <;> rfl), by repeat (first | (with_reducible first | exact HB.out | apply below_alloc | apply pw_below_drewN | apply below_drew1) | exact HB.out)⟩
    · rw [if_neg c4] at H
      have c4b0 : (t146 == 1) = false := beq_eq_false_iff_ne.mpr c4
      have c4b1 : (t146 != 1) = true := bne_iff_ne.mpr c4
      by_cases c6 : t146 = 2
      · rw [if_pos c6] at H
        have c6b0 : (t146 == 2) = true := beq_iff_eq.mpr c6
        have c6b1 : (t146 != 2) = false := bne_eq_false_iff_eq.mpr c6
        clear c6
        replace H := Option.bind_eq_some_iff.mp H
        obtain ⟨t147, A70, H⟩ := H
        replace H : (if t147 = true then (some (⟨#[45, 48]⟩ : ByteArray)) else (some (⟨#[48]⟩ : ByteArray))) = some r := H
        have A7 := Aside0.mk A70
        clear A70
        by_cases c8 : t147 = true
        · subst c8
          have H1 : (some (⟨#[45, 48]⟩ : ByteArray)) = some r := by rw [if_pos rfl] at H; exact H
          clear H
          have H := H1
          clear H1
          obtain rfl := Option.some.inj H
          go_enter Tryd.func7, Tryd.ntmps7
          go_wp2_with (first | ((with_reducible refine gate_callee (f := 19) rfl ?_); refine goesL_ (some 7) rfl rfl Tryd.func19 (by kernel_rfl) rfl #[.float .f64 a0] rfl (by (try simp only [List.map_toArray, List.map_cons, List.map_nil]); first | done | rfl | (simp only [List.length_drop, List.length_take]; rfl)) ?_; (with_reducible refine (impl_KindOf.calls a0 t146 _ A2.out).mono ?_); rintro e w' ⟨rfl, ⟨nd, rfl⟩⟩; refine ⟨_, rfl, ?_⟩) | ((with_reducible refine gate_callee (f := 20) rfl ?_); refine goesL_ (some 17) rfl rfl Tryd.func20 (by kernel_rfl) rfl #[.float .f64 a0] rfl (by (try simp only [List.map_toArray, List.map_cons, List.map_nil]); first | done | rfl | (simp only [List.length_drop, List.length_take]; rfl)) ?_; (with_reducible refine (impl_IsMinus.calls a0 true _ A7.out).mono ?_); rintro e w' ⟨rfl, ⟨nd, rfl⟩⟩; refine ⟨_, rfl, ?_⟩))
          go_ret
          exact ⟨by first | rfl | (simp [errW_none, errW_some] <;> rfl) | (simp [*, errW_none, errW_some] <;> rfl), by repeat (first | (with_reducible first | exact HB.out | apply below_alloc | apply pw_below_drewN | apply below_drew1) | exact HB.out)⟩
        · replace c8 := Bool.eq_false_iff.mpr c8
          subst c8
          have H1 : (some (⟨#[48]⟩ : ByteArray)) = some r := by rw [if_neg (show ¬ (false = true) by decide)] at H; exact H
          clear H
          have H := H1
          clear H1
          obtain rfl := Option.some.inj H
          go_enter Tryd.func7, Tryd.ntmps7
          go_wp2_with (first | ((with_reducible refine gate_callee (f := 19) rfl ?_); refine goesL_ (some 7) rfl rfl Tryd.func19 (by kernel_rfl) rfl #[.float .f64 a0] rfl (by (try simp only [List.map_toArray, List.map_cons, List.map_nil]); first | done | rfl | (simp only [List.length_drop, List.length_take]; rfl)) ?_; (with_reducible refine (impl_KindOf.calls a0 t146 _ A2.out).mono ?_); rintro e w' ⟨rfl, ⟨nd, rfl⟩⟩; refine ⟨_, rfl, ?_⟩) | ((with_reducible refine gate_callee (f := 20) rfl ?_); refine goesL_ (some 17) rfl rfl Tryd.func20 (by kernel_rfl) rfl #[.float .f64 a0] rfl (by (try simp only [List.map_toArray, List.map_cons, List.map_nil]); first | done | rfl | (simp only [List.length_drop, List.length_take]; rfl)) ?_; (with_reducible refine (impl_IsMinus.calls a0 false _ A7.out).mono ?_); rintro e w' ⟨rfl, ⟨nd, rfl⟩⟩; refine ⟨_, rfl, ?_⟩))
          go_ret
          exact ⟨by first | rfl | (simp [errW_none, errW_some] <;> rfl) | (simp [*, errW_none, errW_some] <;> rfl), by repeat (first | (with_reducible first | exact HB.out | apply below_alloc | apply pw_below_drewN | apply below_drew1) | exact HB.out)⟩
      · rw [if_neg c6] at H
        have c6b0 : (t146 == 2) = false := beq_eq_false_iff_ne.mpr c6
        have c6b1 : (t146 != 2) = true := bne_iff_ne.mpr c6
        replace H := Option.bind_eq_some_iff.mp H
        obtain ⟨⟨t148, t149, t150⟩, A90, H⟩ := H
        replace H : ((strconv_Itoa.f t148).bind fun t151 => (if catOk t151 (⟨#[112]⟩ : ByteArray) = true then ((strconv_Itoa.f t149).bind fun t152 => (if catOk (cat t151 (⟨#[112]⟩ : ByteArray)) t152 = true then (some (cat (cat t151 (⟨#[112]⟩ : ByteArray)) t152)) else (none))) else (none))) = some r := H
        have A9 := Aside0.mk A90
        clear A90
        replace H := Option.bind_eq_some_iff.mp H
        obtain ⟨t151, A100, H⟩ := H
        replace H : (if catOk t151 (⟨#[112]⟩ : ByteArray) = true then ((strconv_Itoa.f t149).bind fun t152 => (if catOk (cat t151 (⟨#[112]⟩ : ByteArray)) t152 = true then (some (cat (cat t151 (⟨#[112]⟩ : ByteArray)) t152)) else (none))) else (none)) = some r := H
        have A10 := Aside0.mk A100
        clear A100
        by_cases c11 : catOk t151 (⟨#[112]⟩ : ByteArray) = true
        · rw [if_pos c11] at H
          have c11b0 := eq_true c11
          have c11b1 : decide (catOk t151 (⟨#[112]⟩ : ByteArray) = true) = true := decide_eq_true c11
          clear c11
          replace H := Option.bind_eq_some_iff.mp H
          obtain ⟨t152, A120, H⟩ := H
          replace H : (if catOk (cat t151 (⟨#[112]⟩ : ByteArray)) t152 = true then (some (cat (cat t151 (⟨#[112]⟩ : ByteArray)) t152)) else (none)) = some r := H
          have A12 := Aside0.mk A120
          clear A120
          by_cases c13 : catOk (cat t151 (⟨#[112]⟩ : ByteArray)) t152 = true
          · rw [if_pos c13] at H
            have c13b0 := eq_true c13
            have c13b1 : decide (catOk (cat t151 (⟨#[112]⟩ : ByteArray)) t152 = true) = true := decide_eq_true c13
            clear c13
            obtain rfl := Option.some.inj H
            go_enter Tryd.func7, Tryd.ntmps7
            go_wp2_with (first | ((with_reducible refine gate_callee (f := 19) rfl ?_); refine goesL_ (some 7) rfl rfl Tryd.func19 (by kernel_rfl) rfl #[.float .f64 a0] rfl (by (try simp only [List.map_toArray, List.map_cons, List.map_nil]); first | done | rfl | (simp only [List.length_drop, List.length_take]; rfl)) ?_; (with_reducible refine (impl_KindOf.calls a0 t146 _ A2.out).mono ?_); rintro e w' ⟨rfl, ⟨nd, rfl⟩⟩; refine ⟨_, rfl, ?_⟩) | ((with_reducible refine gate_callee (f := 21) rfl ?_); refine goesL_ (some 20) rfl rfl Tryd.func21 (by kernel_rfl) rfl #[.float .f64 a0] rfl (by (try simp only [List.map_toArray, List.map_cons, List.map_nil]); first | done | rfl | (simp only [List.length_drop, List.length_take]; rfl)) ?_; (with_reducible refine (impl_PartsOf.calls k a0 t148 t149 t150 _ A9.out).mono ?_); rintro e w' ⟨rfl, ⟨nd, rfl⟩⟩; refine ⟨_, rfl, ?_⟩) | ((with_reducible refine gate_callee (f := 22) rfl ?_); refine goesL_ (some 25) rfl rfl Tryd.func22 (by kernel_rfl) rfl #[.int .i64 t148] rfl (by (try simp only [List.map_toArray, List.map_cons, List.map_nil]); first | done | rfl | (simp only [List.length_drop, List.length_take]; rfl)) ?_; (with_reducible refine (strconv_Itoa.calls (hT := ?sideT) t148 t151 _ A10.out).mono ?_); (case sideT => exact Go.Proofs.YtahnllomlgillaaDoor.MTxt.tabs_below HTab.out (by repeat (first | (with_reducible first | exact HB.out | apply below_alloc | apply pw_below_drewN | apply below_drew1) | exact HB.out))); rintro e w14 ⟨rfl, hb⟩; refine ⟨_, rfl, ?_⟩; have n0_ := Aside0.mk (below_step (by repeat (first | (with_reducible first | exact HB.out | apply below_alloc | apply pw_below_drewN | apply below_drew1) | exact HB.out)) hb); clear HB; have HB := n0_; clear n0_; (try clear hb); (try clear hb2); (try clear hk); (try clear hi)) | ((with_reducible refine gate_callee (f := 22) rfl ?_); refine goesL_ (some 28) rfl rfl Tryd.func22 (by kernel_rfl) rfl #[.int .i64 t149] rfl (by (try simp only [List.map_toArray, List.map_cons, List.map_nil]); first | done | rfl | (simp only [List.length_drop, List.length_take]; rfl)) ?_; (with_reducible refine (strconv_Itoa.calls (hT := ?sideT) t149 t152 _ A12.out).mono ?_); (case sideT => exact Go.Proofs.YtahnllomlgillaaDoor.MTxt.tabs_below HTab.out (by repeat (first | (with_reducible first | exact HB.out | apply below_alloc | apply pw_below_drewN | apply below_drew1) | exact HB.out))); rintro e w15 ⟨rfl, hb⟩; refine ⟨_, rfl, ?_⟩; have n0_ := Aside0.mk (below_step (by repeat (first | (with_reducible first | exact HB.out | apply below_alloc | apply pw_below_drewN | apply below_drew1) | exact HB.out)) hb); clear HB; have HB := n0_; clear n0_; (try clear hb); (try clear hb2); (try clear hk); (try clear hi)))
            go_ret
            exact ⟨by first | rfl | (simp [errW_none, errW_some] <;> rfl) | (simp [*, errW_none, errW_some] <;> rfl), by repeat (first | (with_reducible first | exact HB.out | apply below_alloc | apply pw_below_drewN | apply below_drew1) | exact HB.out)⟩
          · rw [if_neg c13] at H
            exact absurd H (by simp)
        · rw [if_neg c11] at H
          exact absurd H (by simp)

/-! ### laws_FnExactNumText: function 3 -/
def laws_FnExactNumText.f (k : Nat) (a0 : Nat) : Option (Bool) := (spec_NumText.f k a0).bind fun t153 => ((impl_NumText.f k a0).bind fun t154 => (if t154.toList = t153.toList then (some true) else (some false)))
theorem laws_FnExactNumText.mono : ∀ a0 k, LeO (laws_FnExactNumText.f k a0) (laws_FnExactNumText.f (k + 1) a0) := by
  intro a0 k
  unfold laws_FnExactNumText.f
  repeat' first
      | (with_reducible exact impl_NumText.mono _ _)
      | (with_reducible exact spec_NumText.mono _ _)
      | (with_reducible exact LeO.refl _)
      | (with_reducible exact LeO.none _)
      | (with_reducible refine LeO.ite ?_ ?_)
      | (with_reducible refine LeO.bind ?_ (fun _ => ?_))
      | exact impl_NumText.mono _ _
      | exact spec_NumText.mono _ _
      | exact LeO.none _
      | refine LeO.ite ?_ ?_
      | refine LeO.bind ?_ (fun _ => ?_)
set_option maxHeartbeats 8000000 in
set_option maxRecDepth 100000 in
theorem laws_FnExactNumText.calls (k : Nat) (a0 : Nat) (r : Bool) (w : World) (hT : Go.Proofs.YtahnllomlgillaaDoor.MTxt.Tabs w) (h : laws_FnExactNumText.f k a0 = some r) :
    Calls Tryd.prog 3 #[.float .f64 a0] w fun e w' => e = .returned (.bool r) ∧ Below w.heap.size w w' := by
  have HTab := Aside0.mk hT
  clear hT
  have HB := Aside0.mk (Below.refl w.heap.size w)
  have H : ((spec_NumText.f k a0).bind fun t153 => ((impl_NumText.f k a0).bind fun t154 => (if t154.toList = t153.toList then (some true) else (some false)))) = some r := h
  clear h
  replace H := Option.bind_eq_some_iff.mp H
  obtain ⟨t153, A20, H⟩ := H
  replace H : ((impl_NumText.f k a0).bind fun t154 => (if t154.toList = t153.toList then (some true) else (some false))) = some r := H
  have A2 := Aside0.mk A20
  clear A20
  replace H := Option.bind_eq_some_iff.mp H
  obtain ⟨t154, A30, H⟩ := H
  replace H : (if t154.toList = t153.toList then (some true) else (some false)) = some r := H
  have A3 := Aside0.mk A30
  clear A30
  by_cases c4 : t154.toList = t153.toList
  · rw [if_pos c4] at H
    have c4b0 : (t154.toList == t153.toList) = true := beq_iff_eq.mpr c4
    have c4b1 : (t154.toList != t153.toList) = false := bne_eq_false_iff_eq.mpr c4
    clear c4
    obtain rfl := Option.some.inj H
    go_enter Tryd.func3, Tryd.ntmps3
    go_wp2_with (first | ((with_reducible refine gate_callee (f := 6) rfl ?_); refine goesL_ (some 6) rfl rfl Tryd.func6 (by kernel_rfl) rfl #[.float .f64 a0] rfl (by (try simp only [List.map_toArray, List.map_cons, List.map_nil]); first | done | rfl | (simp only [List.length_drop, List.length_take]; rfl)) ?_; (with_reducible refine (spec_NumText.calls k a0 t153 _ A2.out).mono ?_); rintro e w5 ⟨rfl, hb⟩; refine ⟨_, rfl, ?_⟩; have n0_ := Aside0.mk (below_step (by repeat (first | (with_reducible first | exact HB.out | apply below_alloc | apply pw_below_drewN | apply below_drew1) | exact HB.out)) hb); clear HB; have HB := n0_; clear n0_; (try clear hb); (try clear hb2); (try clear hk); (try clear hi)) | ((with_reducible refine gate_callee (f := 7) rfl ?_); refine goesL_ (some 8) rfl rfl Tryd.func7 (by kernel_rfl) rfl #[.float .f64 a0] rfl (by (try simp only [List.map_toArray, List.map_cons, List.map_nil]); first | done | rfl | (simp only [List.length_drop, List.length_take]; rfl)) ?_; (with_reducible refine (impl_NumText.calls (hT := ?sideT) k a0 t154 _ A3.out).mono ?_); (case sideT => exact Go.Proofs.YtahnllomlgillaaDoor.MTxt.tabs_below HTab.out (by repeat (first | (with_reducible first | exact HB.out | apply below_alloc | apply pw_below_drewN | apply below_drew1) | exact HB.out))); rintro e w6 ⟨rfl, hb⟩; refine ⟨_, rfl, ?_⟩; have n0_ := Aside0.mk (below_step (by repeat (first | (with_reducible first | exact HB.out | apply below_alloc | apply pw_below_drewN | apply below_drew1) | exact HB.out)) hb); clear HB; have HB := n0_; clear n0_; (try clear hb); (try clear hb2); (try clear hk); (try clear hi)))
    go_ret
    exact ⟨by first | rfl | (simp [errW_none, errW_some] <;> rfl) | (simp [*, errW_none, errW_some] <;> rfl), by repeat (first | (with_reducible first | exact HB.out | apply below_alloc | apply pw_below_drewN | apply below_drew1) | exact HB.out)⟩
  · rw [if_neg c4] at H
    have c4b0 : (t154.toList == t153.toList) = false := beq_eq_false_iff_ne.mpr c4
    have c4b1 : (t154.toList != t153.toList) = true := bne_iff_ne.mpr c4
    obtain rfl := Option.some.inj H
    go_enter Tryd.func3, Tryd.ntmps3
    go_wp2_with (first | ((with_reducible refine gate_callee (f := 6) rfl ?_); refine goesL_ (some 6) rfl rfl Tryd.func6 (by kernel_rfl) rfl #[.float .f64 a0] rfl (by (try simp only [List.map_toArray, List.map_cons, List.map_nil]); first | done | rfl | (simp only [List.length_drop, List.length_take]; rfl)) ?_; (with_reducible refine (spec_NumText.calls k a0 t153 _ A2.out).mono ?_); rintro e w7 ⟨rfl, hb⟩; refine ⟨_, rfl, ?_⟩; have n0_ := Aside0.mk (below_step (by repeat (first | (with_reducible first | exact HB.out | apply below_alloc | apply pw_below_drewN | apply below_drew1) | exact HB.out)) hb); clear HB; have HB := n0_; clear n0_; (try clear hb); (try clear hb2); (try clear hk); (try clear hi)) | ((with_reducible refine gate_callee (f := 7) rfl ?_); refine goesL_ (some 8) rfl rfl Tryd.func7 (by kernel_rfl) rfl #[.float .f64 a0] rfl (by (try simp only [List.map_toArray, List.map_cons, List.map_nil]); first | done | rfl | (simp only [List.length_drop, List.length_take]; rfl)) ?_; (with_reducible refine (impl_NumText.calls (hT := ?sideT) k a0 t154 _ A3.out).mono ?_); (case sideT => exact Go.Proofs.YtahnllomlgillaaDoor.MTxt.tabs_below HTab.out (by repeat (first | (with_reducible first | exact HB.out | apply below_alloc | apply pw_below_drewN | apply below_drew1) | exact HB.out))); rintro e w8 ⟨rfl, hb⟩; refine ⟨_, rfl, ?_⟩; have n0_ := Aside0.mk (below_step (by repeat (first | (with_reducible first | exact HB.out | apply below_alloc | apply pw_below_drewN | apply below_drew1) | exact HB.out)) hb); clear HB; have HB := n0_; clear n0_; (try clear hb); (try clear hb2); (try clear hk); (try clear hi)))
    go_ret
    exact ⟨by first | rfl | (simp [errW_none, errW_some] <;> rfl) | (simp [*, errW_none, errW_some] <;> rfl), by repeat (first | (with_reducible first | exact HB.out | apply below_alloc | apply pw_below_drewN | apply below_drew1) | exact HB.out)⟩

end Go.Proofs.YtahnllomlgillaaDoor.GNumText

-- Printed by wip/tools/print2.py out of the translation: walks and plain functions; Lean checks them.
import Derived.Test.YthdpiceiemkjlaaGPlayObjectx0
import Derived.Test.YthdpiceiemkjlaaGPlayObjectx1
import Derived.Test.YthdpiceiemkjlaaGPlayObjectx2
import Derived.Test.YthdpiceiemkjlaaGPlayObjectx3
import Derived.Test.YthdpiceiemkjlaaGPlayObjectx6
import Derived.Test.YthdpiceiemkjlaaGPlayObjectx7
import Derived.Test.YthdpiceiemkjlaaGPlayObjectx8
namespace Go.Proofs.Ythdpiceiemkjlaa.GPlayObject
open Go.RowKit Go.Proofs.YthdpiceiemkjlaaW.PrintWords Go.Proofs.YthdpiceiemkjlaaW.PrintLast Go.Proofs.YthdpiceiemkjlaaW.PrintMore
attribute [local go_sem] max2_int min2_int max_two min_two max_three min_three max_four min_four   -- for this text's walks alone
set_option linter.unusedVariables false
set_option linter.unusedSimpArgs false

/-! ### laws_FnExactPlayObject: function 3 -/
mutual
def laws_FnExactPlayObject.j0 : Nat → Int → List (S79) → List Int → List Nat → Bool → List (S77) → List Int → List Nat → Bool → Bool → Option (Bool)
  | 0, _, _, _, _, _, _, _, _, _, _ => none
  | k + 1, x0, x1, x2, x8, x9, x10, x11, x12, x13, x55 => if x55 = true then (some false) else ((laws_toCallS.f k x1).bind fun t293 => ((laws_eqCallS.f k x10 t293).bind fun t296 => (if t296 = true then ((laws_toIntS.f k x2).bind fun t297 => ((laws_eqIntS.f k x11 t297).bind fun t300 => (if t300 = true then ((laws_markCallS.f k x10 1).bind fun bt301 => ((laws_markIntS.f k x11 bt301.1).bind fun bt303 => (if bt303.1 < 0 then (laws_FnExactPlayObject.j1 k x0 x1 x2 x8 x9 x12 true) else ((laws_eqFloat64S.f k x12 x8).bind fun t305 => (if t305 = true then (laws_FnExactPlayObject.j1 k x0 x1 x2 x8 x9 x12 (x13 != x9)) else (laws_FnExactPlayObject.j1 k x0 x1 x2 x8 x9 x12 true)))))) else (some false)))) else (some false))))
def laws_FnExactPlayObject.j1 : Nat → Int → List (S79) → List Int → List Nat → Bool → List Nat → Bool → Option (Bool)
  | 0, _, _, _, _, _, _, _ => none
  | k + 1, x0, x1, x2, x8, x9, x12, x84 => if x84 = true then (some false) else ((laws_markFloat64S.f k x12 1).bind fun bt306 => ((laws_heldFloat64S.f k bt306.2 1).bind fun t308 => (if t308 < 0 then (some false) else (if t308 = bt306.1 then ((laws_toCallS.f k x1).bind fun t309 => ((laws_toIntS.f k x2).bind fun t312 => ((impl_PlayObject.f k x0 t309 t312).bind fun bt315 => ((laws_eqFloat64S.f k bt315.1 x8).bind fun t319 => (if t319 = true then (laws_FnExactPlayObject.j2 k bt306.2 bt306.1 (bt315.2 != x9)) else (laws_FnExactPlayObject.j2 k bt306.2 bt306.1 true)))))) else (some false)))))
def laws_FnExactPlayObject.j2 : Nat → List Nat → Int → Bool → Option (Bool)
  | 0, _, _, _ => none
  | k + 1, x12, x15, x113 => if x113 = true then (some false) else ((laws_heldFloat64S.f k x12 1).bind fun t320 => (if t320 < 0 then (some false) else (if t320 = x15 then (some true) else (some false))))
end
def laws_FnExactPlayObject.f (k : Nat) (a0 : Int) (l1 : List (S79)) (l2 : List Int) : Option (Bool) := if (l2.length : Int) > 1048576 then (some true) else ((laws_szCallS.f l1 1048576).bind fun t271 => (if t271 < 0 then (some true) else ((laws_toCallS.f k l1).bind fun t272 => ((laws_toIntS.f k l2).bind fun t275 => ((spec_PlayObject.f k a0 t272 t275).bind fun bt278 => ((laws_toCallS.f k l1).bind fun t282 => ((laws_toIntS.f k l2).bind fun t285 => ((impl_PlayObject.f k a0 t282 t285).bind fun bt288 => ((laws_eqFloat64S.f k bt288.1 bt278.1).bind fun t292 => (if t292 = true then (laws_FnExactPlayObject.j0 k a0 l1 l2 bt278.1 bt278.2 t282 t285 bt288.1 bt288.2 (bt288.2 != bt278.2)) else (laws_FnExactPlayObject.j0 k a0 l1 l2 bt278.1 bt278.2 t282 t285 bt288.1 bt288.2 true)))))))))))
theorem laws_FnExactPlayObject.mono_l : ∀ k, (∀ y0 y1 y2 y3 y4 y5 y6 y7 y8 y9, LeO (laws_FnExactPlayObject.j0 k y0 y1 y2 y3 y4 y5 y6 y7 y8 y9) (laws_FnExactPlayObject.j0 (k + 1) y0 y1 y2 y3 y4 y5 y6 y7 y8 y9)) ∧ (∀ y0 y1 y2 y3 y4 y5 y6, LeO (laws_FnExactPlayObject.j1 k y0 y1 y2 y3 y4 y5 y6) (laws_FnExactPlayObject.j1 (k + 1) y0 y1 y2 y3 y4 y5 y6)) ∧ (∀ y0 y1 y2, LeO (laws_FnExactPlayObject.j2 k y0 y1 y2) (laws_FnExactPlayObject.j2 (k + 1) y0 y1 y2))
  | 0 => ⟨fun _ _ _ _ _ _ _ _ _ _ r h => by simp [laws_FnExactPlayObject.j0] at h, fun _ _ _ _ _ _ _ r h => by simp [laws_FnExactPlayObject.j1] at h, fun _ _ _ r h => by simp [laws_FnExactPlayObject.j2] at h⟩
  | k + 1 => by
    obtain ⟨ih0, ih1, ih2⟩ := laws_FnExactPlayObject.mono_l k
    refine ⟨?_, ?_, ?_⟩
    · intro y0 y1 y2 y3 y4 y5 y6 y7 y8 y9
      unfold laws_FnExactPlayObject.j0
      repeat' first | (with_reducible exact ih0 _ _ _ _ _ _ _ _ _ _) | (with_reducible exact ih1 _ _ _ _ _ _ _) | (with_reducible exact ih2 _ _ _) | (with_reducible exact impl_PlayObject.mono _ _ _ _) | (with_reducible exact laws_eqCallS.mono _ _ _) | (with_reducible exact laws_eqFloat64S.mono _ _ _) | (with_reducible exact laws_eqIntS.mono _ _ _) | (with_reducible exact laws_heldFloat64S.mono _ _ _) | (with_reducible exact laws_markCallS.mono _ _ _) | (with_reducible exact laws_markFloat64S.mono _ _ _) | (with_reducible exact laws_markIntS.mono _ _ _) | (with_reducible exact laws_toCallS.mono _ _) | (with_reducible exact laws_toIntS.mono _ _) | (with_reducible exact spec_PlayObject.mono _ _ _ _) | (with_reducible exact LeO.refl _) | (with_reducible exact LeO.none _) | (with_reducible refine LeO.ite ?_ ?_) | (with_reducible refine LeO.bind ?_ (fun _ => ?_)) | exact ih0 _ _ _ _ _ _ _ _ _ _ | exact ih1 _ _ _ _ _ _ _ | exact ih2 _ _ _ | exact impl_PlayObject.mono _ _ _ _ | exact laws_eqCallS.mono _ _ _ | exact laws_eqFloat64S.mono _ _ _ | exact laws_eqIntS.mono _ _ _ | exact laws_heldFloat64S.mono _ _ _ | exact laws_markCallS.mono _ _ _ | exact laws_markFloat64S.mono _ _ _ | exact laws_markIntS.mono _ _ _ | exact laws_toCallS.mono _ _ | exact laws_toIntS.mono _ _ | exact spec_PlayObject.mono _ _ _ _ | exact LeO.none _ | refine LeO.ite ?_ ?_ | refine LeO.bind ?_ (fun _ => ?_)
    · intro y0 y1 y2 y3 y4 y5 y6
      unfold laws_FnExactPlayObject.j1
      repeat' first | (with_reducible exact ih0 _ _ _ _ _ _ _ _ _ _) | (with_reducible exact ih1 _ _ _ _ _ _ _) | (with_reducible exact ih2 _ _ _) | (with_reducible exact impl_PlayObject.mono _ _ _ _) | (with_reducible exact laws_eqCallS.mono _ _ _) | (with_reducible exact laws_eqFloat64S.mono _ _ _) | (with_reducible exact laws_eqIntS.mono _ _ _) | (with_reducible exact laws_heldFloat64S.mono _ _ _) | (with_reducible exact laws_markCallS.mono _ _ _) | (with_reducible exact laws_markFloat64S.mono _ _ _) | (with_reducible exact laws_markIntS.mono _ _ _) | (with_reducible exact laws_toCallS.mono _ _) | (with_reducible exact laws_toIntS.mono _ _) | (with_reducible exact spec_PlayObject.mono _ _ _ _) | (with_reducible exact LeO.refl _) | (with_reducible exact LeO.none _) | (with_reducible refine LeO.ite ?_ ?_) | (with_reducible refine LeO.bind ?_ (fun _ => ?_)) | exact ih0 _ _ _ _ _ _ _ _ _ _ | exact ih1 _ _ _ _ _ _ _ | exact ih2 _ _ _ | exact impl_PlayObject.mono _ _ _ _ | exact laws_eqCallS.mono _ _ _ | exact laws_eqFloat64S.mono _ _ _ | exact laws_eqIntS.mono _ _ _ | exact laws_heldFloat64S.mono _ _ _ | exact laws_markCallS.mono _ _ _ | exact laws_markFloat64S.mono _ _ _ | exact laws_markIntS.mono _ _ _ | exact laws_toCallS.mono _ _ | exact laws_toIntS.mono _ _ | exact spec_PlayObject.mono _ _ _ _ | exact LeO.none _ | refine LeO.ite ?_ ?_ | refine LeO.bind ?_ (fun _ => ?_)
    · intro y0 y1 y2
      unfold laws_FnExactPlayObject.j2
      repeat' first | (with_reducible exact ih0 _ _ _ _ _ _ _ _ _ _) | (with_reducible exact ih1 _ _ _ _ _ _ _) | (with_reducible exact ih2 _ _ _) | (with_reducible exact impl_PlayObject.mono _ _ _ _) | (with_reducible exact laws_eqCallS.mono _ _ _) | (with_reducible exact laws_eqFloat64S.mono _ _ _) | (with_reducible exact laws_eqIntS.mono _ _ _) | (with_reducible exact laws_heldFloat64S.mono _ _ _) | (with_reducible exact laws_markCallS.mono _ _ _) | (with_reducible exact laws_markFloat64S.mono _ _ _) | (with_reducible exact laws_markIntS.mono _ _ _) | (with_reducible exact laws_toCallS.mono _ _) | (with_reducible exact laws_toIntS.mono _ _) | (with_reducible exact spec_PlayObject.mono _ _ _ _) | (with_reducible exact LeO.refl _) | (with_reducible exact LeO.none _) | (with_reducible refine LeO.ite ?_ ?_) | (with_reducible refine LeO.bind ?_ (fun _ => ?_)) | exact ih0 _ _ _ _ _ _ _ _ _ _ | exact ih1 _ _ _ _ _ _ _ | exact ih2 _ _ _ | exact impl_PlayObject.mono _ _ _ _ | exact laws_eqCallS.mono _ _ _ | exact laws_eqFloat64S.mono _ _ _ | exact laws_eqIntS.mono _ _ _ | exact laws_heldFloat64S.mono _ _ _ | exact laws_markCallS.mono _ _ _ | exact laws_markFloat64S.mono _ _ _ | exact laws_markIntS.mono _ _ _ | exact laws_toCallS.mono _ _ | exact laws_toIntS.mono _ _ | exact spec_PlayObject.mono _ _ _ _ | exact LeO.none _ | refine LeO.ite ?_ ?_ | refine LeO.bind ?_ (fun _ => ?_)
theorem laws_FnExactPlayObject.mono : ∀ a0 a1 a2 k, LeO (laws_FnExactPlayObject.f k a0 a1 a2) (laws_FnExactPlayObject.f (k + 1) a0 a1 a2) := by
  intro a0 a1 a2 k
  obtain ⟨ih0, ih1, ih2⟩ := laws_FnExactPlayObject.mono_l k
  unfold laws_FnExactPlayObject.f
  repeat' first | (with_reducible exact ih0 _ _ _ _ _ _ _ _ _ _) | (with_reducible exact ih1 _ _ _ _ _ _ _) | (with_reducible exact ih2 _ _ _) | (with_reducible exact impl_PlayObject.mono _ _ _ _) | (with_reducible exact laws_eqCallS.mono _ _ _) | (with_reducible exact laws_eqFloat64S.mono _ _ _) | (with_reducible exact laws_eqIntS.mono _ _ _) | (with_reducible exact laws_heldFloat64S.mono _ _ _) | (with_reducible exact laws_markCallS.mono _ _ _) | (with_reducible exact laws_markFloat64S.mono _ _ _) | (with_reducible exact laws_markIntS.mono _ _ _) | (with_reducible exact laws_toCallS.mono _ _) | (with_reducible exact laws_toIntS.mono _ _) | (with_reducible exact spec_PlayObject.mono _ _ _ _) | (with_reducible exact LeO.refl _) | (with_reducible exact LeO.none _) | (with_reducible refine LeO.ite ?_ ?_) | (with_reducible refine LeO.bind ?_ (fun _ => ?_)) | exact ih0 _ _ _ _ _ _ _ _ _ _ | exact ih1 _ _ _ _ _ _ _ | exact ih2 _ _ _ | exact impl_PlayObject.mono _ _ _ _ | exact laws_eqCallS.mono _ _ _ | exact laws_eqFloat64S.mono _ _ _ | exact laws_eqIntS.mono _ _ _ | exact laws_heldFloat64S.mono _ _ _ | exact laws_markCallS.mono _ _ _ | exact laws_markFloat64S.mono _ _ _ | exact laws_markIntS.mono _ _ _ | exact laws_toCallS.mono _ _ | exact laws_toIntS.mono _ _ | exact spec_PlayObject.mono _ _ _ _ | exact LeO.none _ | refine LeO.ite ?_ ?_ | refine LeO.bind ?_ (fun _ => ?_)
theorem eqv.flt {a b : Nat} (h : eqv a b) (k c : Nat) : laws_sameFloat.f k c a = laws_sameFloat.f k c b := by
  rcases h with rfl | ⟨h1, h2⟩
  · rfl
  · have hj : ∀ d, laws_sameFloat.j0 k d a true = laws_sameFloat.j0 k d b true := fun d => by
      cases k with
      | zero => rfl
      | succ k => simp only [laws_sameFloat.j0, h1, h2]; rw [if_pos trivial, if_pos trivial]
    simp only [laws_sameFloat.f, h1, h2, Bool.not_false, hj]
theorem eqF_l0 : ∀ (k : Nat) {x' x : List Nat} (_ : eqvL x' x) (g : List Nat) (i : Int), laws_eqFloat64S.l0 k g x' i = laws_eqFloat64S.l0 k g x i
  | 0, x', x, h, g, i => by simp only [laws_eqFloat64S.l0]
  | k + 1, x', x, h, g, i => by
    have hn : laws_sameFloat.f k (rdOf (0 : Nat) g i) (rdOf (0 : Nat) x' i) = laws_sameFloat.f k (rdOf (0 : Nat) g i) (rdOf (0 : Nat) x i) := (h.2 i.toNat).flt k _
    have ih := fun j => eqF_l0 k h g j
    simp only [laws_eqFloat64S.l0, hn, ih, h.1]
theorem eqF_same {x' x : List Nat} (h : eqvL x' x) (k : Nat) (g : List Nat) : laws_eqFloat64S.f k g x' = laws_eqFloat64S.f k g x := by
  simp only [laws_eqFloat64S.f, eqF_l0 k h, h.1]
theorem j1_same {x' x : List Nat} (h : eqvL x' x) (k : Nat) (a : Int) (b) (c) (d) (e) (f) : laws_FnExactPlayObject.j1 k a b c x' d e f = laws_FnExactPlayObject.j1 k a b c x d e f := by
  cases k with
  | zero => simp only [laws_FnExactPlayObject.j1]
  | succ k => simp only [laws_FnExactPlayObject.j1, eqF_same h]
theorem j0_same {x' x : List Nat} (h : eqvL x' x) (k : Nat) (a : Int) (b) (c) (d) (e) (f) (g) (i) (j) : laws_FnExactPlayObject.j0 k a b c x' d e f g i j = laws_FnExactPlayObject.j0 k a b c x d e f g i j := by
  cases k with
  | zero => simp only [laws_FnExactPlayObject.j0]
  | succ k => simp only [laws_FnExactPlayObject.j0, eqF_same h, j1_same h]
theorem law_same {x' x : List Nat} (h : eqvL x' x) (k : Nat) (a : Int) (b) (c) (d) (e) (f) (g) (i) : ((laws_eqFloat64S.f k g x').bind fun t => (if t = true then (laws_FnExactPlayObject.j0 k a b c x' d e f g i (i != d)) else (laws_FnExactPlayObject.j0 k a b c x' d e f g i true))) = ((laws_eqFloat64S.f k g x).bind fun t => (if t = true then (laws_FnExactPlayObject.j0 k a b c x d e f g i (i != d)) else (laws_FnExactPlayObject.j0 k a b c x d e f g i true))) := by
  simp only [eqF_same h, j0_same h]
set_option maxHeartbeats 8000000 in
set_option maxRecDepth 100000 in
theorem laws_FnExactPlayObject.calls (k : Nat) (a0 : Int) (A1 : Option Addr) (c1 : Nat) (l1 : List (S79)) (A2 : Option Addr) (c2 : Nat) (l2 : List Int) (r : Bool) (w : World) (hr1 : Kd.C k79 w A1 l1.length l1) (hc1 : l1.length ≤ c1) (hr2 : Kd.C (Kd.int .i64) w A2 l2.length l2) (hc2 : l2.length ≤ c2) (h : laws_FnExactPlayObject.f k a0 l1 l2 = some r) :
    Calls Try.prog 3 #[.int .i64 a0, .slice A1 l1.length c1, .slice A2 l2.length c2] w fun e w' => e = .returned (.bool r) ∧ Below w.heap.size w w' := by
  have HR1 := a_ hr1
  have HC1 := a_ hc1
  clear hr1 hc1
  have HR2 := a_ hr2
  have HC2 := a_ hc2
  clear hr2 hc2
  have HB := a_ (Below.refl w.heap.size w)
  have H : (if (l2.length : Int) > 1048576 then (some true) else ((laws_szCallS.f l1 1048576).bind fun t271 => (if t271 < 0 then (some true) else ((laws_toCallS.f k l1).bind fun t272 => ((laws_toIntS.f k l2).bind fun t275 => ((spec_PlayObject.f k a0 t272 t275).bind fun bt278 => ((laws_toCallS.f k l1).bind fun t282 => ((laws_toIntS.f k l2).bind fun t285 => ((impl_PlayObject.f k a0 t282 t285).bind fun bt288 => ((laws_eqFloat64S.f k bt288.1 bt278.1).bind fun t292 => (if t292 = true then (laws_FnExactPlayObject.j0 k a0 l1 l2 bt278.1 bt278.2 t282 t285 bt288.1 bt288.2 (bt288.2 != bt278.2)) else (laws_FnExactPlayObject.j0 k a0 l1 l2 bt278.1 bt278.2 t282 t285 bt288.1 bt288.2 true)))))))))))) = some r := h
  clear h
  by_cases c4 : (l2.length : Int) > 1048576
  · rw [if_pos c4] at H
    have c4b0 : decide (1048576 < (l2.length : Int)) = true := decide_eq_true c4
    have c4b1 : decide (1048576 < l2.length) = true := decide_eq_true (by omega)
    clear c4
    obtain rfl := Option.some.inj H
    go_enter Try.func3, Try.ntmps3
    go_wp2
    go_ret
    exact ⟨by first | rfl | (simp [errW_none, errW_some] <;> rfl) | (simp [*, errW_none, errW_some] <;> rfl), b_⟩
  · rw [if_neg c4] at H
    have c4b0 : decide (1048576 < (l2.length : Int)) = false := decide_eq_false c4
    have c4b1 : decide (1048576 < l2.length) = false := decide_eq_false (by omega)
    clear c4
    replace H := Option.bind_eq_some_iff.mp H
    obtain ⟨t271, A50, H⟩ := H
    replace H : (if t271 < 0 then (some true) else ((laws_toCallS.f k l1).bind fun t272 => ((laws_toIntS.f k l2).bind fun t275 => ((spec_PlayObject.f k a0 t272 t275).bind fun bt278 => ((laws_toCallS.f k l1).bind fun t282 => ((laws_toIntS.f k l2).bind fun t285 => ((impl_PlayObject.f k a0 t282 t285).bind fun bt288 => ((laws_eqFloat64S.f k bt288.1 bt278.1).bind fun t292 => (if t292 = true then (laws_FnExactPlayObject.j0 k a0 l1 l2 bt278.1 bt278.2 t282 t285 bt288.1 bt288.2 (bt288.2 != bt278.2)) else (laws_FnExactPlayObject.j0 k a0 l1 l2 bt278.1 bt278.2 t282 t285 bt288.1 bt288.2 true)))))))))) = some r := H
    have A5 := a_ A50; clear A50
    by_cases c6 : t271 < 0
    · rw [if_pos c6] at H
      have c6b0 : decide (t271 < 0) = true := decide_eq_true c6
      clear c6
      obtain rfl := Option.some.inj H
      go_enter Try.func3, Try.ntmps3
      go_wp2_with (first | ((with_reducible refine gate_callee (f := 9) rfl ?_); refine goesL_ (some 24) rfl rfl Try.func9 (by kernel_rfl) rfl #[.slice A1 l1.length c1, .int .i64 1048576] rfl la_ ?_; (with_reducible refine (laws_szCallS.calls _ _ l1 1048576 t271 _ ?side1 ?side2 A5.out).mono ?_); (case side1 => repeat (first | exact HR1.out | (with_reducible refine Kd.C_alloc ?_ _) | (with_reducible refine Kd.C_drewN ?_ _) | (with_reducible refine Kd.C_drew ?_))); (case side2 => exact HC1.out); rintro e w' ⟨rfl, ⟨nd, rfl⟩⟩; refine ⟨_, rfl, ?_⟩))
      go_ret
      exact ⟨by first | rfl | (simp [errW_none, errW_some] <;> rfl) | (simp [*, errW_none, errW_some] <;> rfl), b_⟩
    · rw [if_neg c6] at H
      have c6b0 : decide (t271 < 0) = false := decide_eq_false c6
      clear c6
      replace H := Option.bind_eq_some_iff.mp H
      obtain ⟨t272, A70, H⟩ := H
      replace H : ((laws_toIntS.f k l2).bind fun t275 => ((spec_PlayObject.f k a0 t272 t275).bind fun bt278 => ((laws_toCallS.f k l1).bind fun t282 => ((laws_toIntS.f k l2).bind fun t285 => ((impl_PlayObject.f k a0 t282 t285).bind fun bt288 => ((laws_eqFloat64S.f k bt288.1 bt278.1).bind fun t292 => (if t292 = true then (laws_FnExactPlayObject.j0 k a0 l1 l2 bt278.1 bt278.2 t282 t285 bt288.1 bt288.2 (bt288.2 != bt278.2)) else (laws_FnExactPlayObject.j0 k a0 l1 l2 bt278.1 bt278.2 t282 t285 bt288.1 bt288.2 true)))))))) = some r := H
      have A7 := a_ A70; clear A70
      replace H := Option.bind_eq_some_iff.mp H
      obtain ⟨t275, A80, H⟩ := H
      replace H : ((spec_PlayObject.f k a0 t272 t275).bind fun bt278 => ((laws_toCallS.f k l1).bind fun t282 => ((laws_toIntS.f k l2).bind fun t285 => ((impl_PlayObject.f k a0 t282 t285).bind fun bt288 => ((laws_eqFloat64S.f k bt288.1 bt278.1).bind fun t292 => (if t292 = true then (laws_FnExactPlayObject.j0 k a0 l1 l2 bt278.1 bt278.2 t282 t285 bt288.1 bt288.2 (bt288.2 != bt278.2)) else (laws_FnExactPlayObject.j0 k a0 l1 l2 bt278.1 bt278.2 t282 t285 bt288.1 bt288.2 true))))))) = some r := H
      have A8 := a_ A80; clear A80
      replace H := Option.bind_eq_some_iff.mp H
      obtain ⟨⟨t278, t279⟩, A90, H⟩ := H
      replace H : ((laws_toCallS.f k l1).bind fun t282 => ((laws_toIntS.f k l2).bind fun t285 => ((impl_PlayObject.f k a0 t282 t285).bind fun bt288 => ((laws_eqFloat64S.f k bt288.1 t278).bind fun t292 => (if t292 = true then (laws_FnExactPlayObject.j0 k a0 l1 l2 t278 t279 t282 t285 bt288.1 bt288.2 (bt288.2 != t279)) else (laws_FnExactPlayObject.j0 k a0 l1 l2 t278 t279 t282 t285 bt288.1 bt288.2 true)))))) = some r := H
      have A9 := a_ A90; clear A90
      replace H := Option.bind_eq_some_iff.mp H
      obtain ⟨t282, A100, H⟩ := H
      replace H : ((laws_toIntS.f k l2).bind fun t285 => ((impl_PlayObject.f k a0 t282 t285).bind fun bt288 => ((laws_eqFloat64S.f k bt288.1 t278).bind fun t292 => (if t292 = true then (laws_FnExactPlayObject.j0 k a0 l1 l2 t278 t279 t282 t285 bt288.1 bt288.2 (bt288.2 != t279)) else (laws_FnExactPlayObject.j0 k a0 l1 l2 t278 t279 t282 t285 bt288.1 bt288.2 true))))) = some r := H
      have A10 := a_ A100; clear A100
      replace H := Option.bind_eq_some_iff.mp H
      obtain ⟨t285, A110, H⟩ := H
      replace H : ((impl_PlayObject.f k a0 t282 t285).bind fun bt288 => ((laws_eqFloat64S.f k bt288.1 t278).bind fun t292 => (if t292 = true then (laws_FnExactPlayObject.j0 k a0 l1 l2 t278 t279 t282 t285 bt288.1 bt288.2 (bt288.2 != t279)) else (laws_FnExactPlayObject.j0 k a0 l1 l2 t278 t279 t282 t285 bt288.1 bt288.2 true)))) = some r := H
      have A11 := a_ A110; clear A110
      replace H := Option.bind_eq_some_iff.mp H
      obtain ⟨⟨t288, t289⟩, A120, H⟩ := H
      replace H : ((laws_eqFloat64S.f k t288 t278).bind fun t292 => (if t292 = true then (laws_FnExactPlayObject.j0 k a0 l1 l2 t278 t279 t282 t285 t288 t289 (t289 != t279)) else (laws_FnExactPlayObject.j0 k a0 l1 l2 t278 t279 t282 t285 t288 t289 true))) = some r := H
      have A12 := a_ A120; clear A120; have HC13 := a_ H; clear H
      go_enter Try.func3, Try.ntmps3
      go_upto_region 11 with (first | ((with_reducible refine gate_callee (f := 9) rfl ?_); refine goesL_ (some 24) rfl rfl Try.func9 (by kernel_rfl) rfl #[.slice A1 l1.length c1, .int .i64 1048576] rfl la_ ?_; (with_reducible refine (laws_szCallS.calls _ _ l1 1048576 t271 _ ?side1 ?side2 A5.out).mono ?_); (case side1 => repeat (first | exact HR1.out | (with_reducible refine Kd.C_alloc ?_ _) | (with_reducible refine Kd.C_drewN ?_ _) | (with_reducible refine Kd.C_drew ?_))); (case side2 => exact HC1.out); rintro e w' ⟨rfl, ⟨nd, rfl⟩⟩; refine ⟨_, rfl, ?_⟩) | ((with_reducible refine gate_callee (f := 11) rfl ?_); refine goesL_ (some 30) rfl rfl Try.func11 (by kernel_rfl) rfl #[.slice A1 l1.length c1] rfl la_ ?_; (with_reducible refine (laws_toCallS.calls k _ _ l1 t272 _ ?side1 ?side2 A7.out).mono ?_); (case side1 => repeat (first | exact HR1.out | (with_reducible refine Kd.C_alloc ?_ _) | (with_reducible refine Kd.C_drewN ?_ _) | (with_reducible refine Kd.C_drew ?_))); (case side2 => exact HC1.out); rintro e w14 ⟨v273, rfl, ho0, hb⟩; refine ⟨_, rfl, ?_⟩; have n0_ := a_ (Kd.R_lower ho0 (below_size b_)); have n1_ := a_ (below_step b_ hb); clear HB; have HO274 := n0_; have HB := n1_; clear n0_ n1_; (try clear hb); (try clear hb2); (try clear hk); (try clear hi); (try clear ho0)) | ((with_reducible refine gate_callee (f := 12) rfl ?_); refine goesL_ (some 32) rfl rfl Try.func12 (by kernel_rfl) rfl #[.slice A2 l2.length c2] rfl la_ ?_; (with_reducible refine (laws_toIntS.calls k _ _ l2 t275 _ ?side1 ?side2 A8.out).mono ?_); (case side1 => repeat (first | exact (Kd.C_below HR2.out HB.out) | (with_reducible refine Kd.C_alloc ?_ _) | (with_reducible refine Kd.C_drewN ?_ _) | (with_reducible refine Kd.C_drew ?_))); (case side2 => exact HC2.out); rintro e w15 ⟨v276, rfl, ho0, hb⟩; refine ⟨_, rfl, ?_⟩; have n0_ := a_ (Kd.R_below (r_ HO274.out) hb); have n1_ := a_ (Kd.R_lower ho0 (below_size b_)); have n2_ := a_ (below_step b_ hb); clear HO274; clear HB; have HO274 := n0_; have HO277 := n1_; have HB := n2_; clear n0_ n1_ n2_; (try clear hb); (try clear hb2); (try clear hk); (try clear hi); (try clear ho0); obtain ⟨Ao16, co16, eo16⟩ := Kd.R_slice HO274.out; subst eo16; obtain ⟨Ao17, co17, eo17⟩ := Kd.R_slice HO277.out; subst eo17) | ((with_reducible refine gate_callee (f := 10) rfl ?_); refine goesL_ (some 33) rfl rfl Try.func10 (by kernel_rfl) rfl #[.int .i64 a0, .slice Ao16 t272.length co16, .slice Ao17 t275.length co17] rfl la_ ?_; (with_reducible refine (spec_PlayObject.calls k a0 _ _ t272 _ _ t275 t278 t279 _ ?side1 ?side2 ?side3 ?side4 A9.out).mono ?_); (case side1 => repeat (first | exact (Kd.R_reads' HO274.out).2.2 | (with_reducible refine Kd.C_alloc ?_ _) | (with_reducible refine Kd.C_drewN ?_ _) | (with_reducible refine Kd.C_drew ?_))); (case side2 => exact (Kd.R_reads' HO274.out).2.1); (case side3 => repeat (first | exact (Kd.R_reads' HO277.out).2.2 | (with_reducible refine Kd.C_alloc ?_ _) | (with_reducible refine Kd.C_drewN ?_ _) | (with_reducible refine Kd.C_drew ?_))); (case side4 => exact (Kd.R_reads' HO277.out).2.1); rintro e w18 ⟨v280, t278, rfl, he_, ho0, hb⟩; refine ⟨_, rfl, ?_⟩; have HC13 := a_ ((law_same he_ _ _ _ _ _ _ _ _ _).trans HC13.out); clear he_; have n0_ := a_ (Kd.R_below (r_ HO274.out) hb); have n1_ := a_ (Kd.R_below (r_ HO277.out) hb); have n2_ := a_ (Kd.R_lower ho0 (below_size b_)); have n3_ := a_ (below_step b_ hb); clear HO274; clear HO277; clear HB; have HO274 := n0_; have HO277 := n1_; have HO281 := n2_; have HB := n3_; clear n0_ n1_ n2_ n3_; (try clear hb); (try clear hb2); (try clear hk); (try clear hi); (try clear ho0)) | ((with_reducible refine gate_callee (f := 11) rfl ?_); refine goesL_ (some 37) rfl rfl Try.func11 (by kernel_rfl) rfl #[.slice A1 l1.length c1] rfl la_ ?_; (with_reducible refine (laws_toCallS.calls k _ _ l1 t282 _ ?side1 ?side2 A10.out).mono ?_); (case side1 => repeat (first | exact (Kd.C_below HR1.out HB.out) | (with_reducible refine Kd.C_alloc ?_ _) | (with_reducible refine Kd.C_drewN ?_ _) | (with_reducible refine Kd.C_drew ?_))); (case side2 => exact HC1.out); rintro e w19 ⟨v283, rfl, ho0, hb⟩; refine ⟨_, rfl, ?_⟩; have n0_ := a_ (Kd.R_elder' (r_ HO274.out) (by first | exact Kd.R_base ho0 | exact Kd.S_base ho0 | exact Kd.R_base ho0) hb); have n1_ := a_ (Kd.R_below (r_ HO277.out) hb); have n2_ := a_ (Kd.R_below (r_ HO281.out) hb); have n3_ := a_ (Kd.R_lower (Kd.R_new' ho0 (Kd.R_lt (r_ HO274.out))) (below_size b_)); have n4_ := a_ (below_step b_ hb); clear HO274; clear HO277; clear HO281; clear HB; have HO274 := n0_; have HO277 := n1_; have HO281 := n2_; have HO284 := n3_; have HB := n4_; clear n0_ n1_ n2_ n3_ n4_; (try clear hb); (try clear hb2); (try clear hk); (try clear hi); (try clear ho0)) | ((with_reducible refine gate_callee (f := 12) rfl ?_); refine goesL_ (some 39) rfl rfl Try.func12 (by kernel_rfl) rfl #[.slice A2 l2.length c2] rfl la_ ?_; (with_reducible refine (laws_toIntS.calls k _ _ l2 t285 _ ?side1 ?side2 A11.out).mono ?_); (case side1 => repeat (first | exact (Kd.C_below HR2.out HB.out) | (with_reducible refine Kd.C_alloc ?_ _) | (with_reducible refine Kd.C_drewN ?_ _) | (with_reducible refine Kd.C_drew ?_))); (case side2 => exact HC2.out); rintro e w20 ⟨v286, rfl, ho0, hb⟩; refine ⟨_, rfl, ?_⟩; have n0_ := a_ (Kd.R_below (r_ HO274.out) hb); have n1_ := a_ (Kd.R_elder' (r_ HO277.out) (by first | exact Kd.R_base ho0 | exact Kd.S_base ho0 | exact Kd.R_base ho0) hb); have n2_ := a_ (Kd.R_below (r_ HO281.out) hb); have n3_ := a_ (Kd.R_below (r_ HO284.out) hb); have n4_ := a_ (Kd.R_lower (Kd.R_new' ho0 (Kd.R_lt (r_ HO277.out))) (below_size b_)); have n5_ := a_ (below_step b_ hb); clear HO274; clear HO277; clear HO281; clear HO284; clear HB; have HO274 := n0_; have HO277 := n1_; have HO281 := n2_; have HO284 := n3_; have HO287 := n4_; have HB := n5_; clear n0_ n1_ n2_ n3_ n4_ n5_; (try clear hb); (try clear hb2); (try clear hk); (try clear hi); (try clear ho0); obtain ⟨Ao21, co21, eo21⟩ := Kd.R_slice HO284.out; subst eo21; obtain ⟨Ao22, co22, eo22⟩ := Kd.R_slice HO287.out; subst eo22) | ((with_reducible refine gate_callee (f := 13) rfl ?_); refine goesL_ (some 44) rfl rfl Try.func13 (by kernel_rfl) rfl #[.int .i64 a0, .slice Ao21 t282.length co21, .slice Ao22 t285.length co22] rfl la_ ?_; (with_reducible refine (impl_PlayObject.calls k a0 _ _ t282 _ _ t285 t288 t289 _ ?side1 ?side2 ?side3 ?side4 A12.out).mono ?_); (case side1 => repeat (first | exact (Kd.R_reads' HO284.out).2.2 | (with_reducible refine Kd.C_alloc ?_ _) | (with_reducible refine Kd.C_drewN ?_ _) | (with_reducible refine Kd.C_drew ?_))); (case side2 => exact (Kd.R_reads' HO284.out).2.1); (case side3 => repeat (first | exact (Kd.R_reads' HO287.out).2.2 | (with_reducible refine Kd.C_alloc ?_ _) | (with_reducible refine Kd.C_drewN ?_ _) | (with_reducible refine Kd.C_drew ?_))); (case side4 => exact (Kd.R_reads' HO287.out).2.1); rintro e w23 ⟨v290, rfl, ho0, hb⟩; refine ⟨_, rfl, ?_⟩; have n0_ := a_ (Kd.R_below (r_ HO274.out) hb); have n1_ := a_ (Kd.R_below (r_ HO277.out) hb); have n2_ := a_ (Kd.R_elder' (r_ HO281.out) (by first | exact Kd.R_base ho0 | exact Kd.S_base ho0 | exact Kd.R_base ho0) hb); have n3_ := a_ (Kd.R_below (r_ HO284.out) hb); have n4_ := a_ (Kd.R_below (r_ HO287.out) hb); have n5_ := a_ (Kd.R_lower (Kd.R_new' ho0 (Kd.R_lt (r_ HO281.out))) (below_size b_)); have n6_ := a_ (below_step b_ hb); clear HO274; clear HO277; clear HO281; clear HO284; clear HO287; clear HB; have HO274 := n0_; have HO277 := n1_; have HO281 := n2_; have HO284 := n3_; have HO287 := n4_; have HO291 := n5_; have HB := n6_; clear n0_ n1_ n2_ n3_ n4_ n5_ n6_; (try clear hb); (try clear hb2); (try clear hk); (try clear hi); (try clear ho0)))
      (try simp only [Act.put, List.setIfInBounds_toArray, List.set_cons_zero, List.set_cons_succ])
      go_cut [55] (fun v55 wc => ∃ (kq : Nat) (x55_12 : Bool), v55 = .bool x55_12 ∧ Aside0 (laws_FnExactPlayObject.j0 kq a0 l1 l2 t278 t279 t282 t285 t288 t289 x55_12 = some r) ∧ Aside0 (kq ≤ k) ∧ Aside0 (Kd.R Kd.float 55 wc w.heap.size (fun k_ => some k_ ≠ (v290 : Value).ownBlock) v280 t278) ∧ Aside0 (Kd.R k77 77 wc w.heap.size (fun _ => True) (.slice Ao21 t282.length co21) t282) ∧ Aside0 (Kd.R (Kd.int .i64) 3 wc w.heap.size (fun _ => True) (.slice Ao22 t285.length co22) t285) ∧ Aside0 (Kd.R Kd.float 55 wc w.heap.size (fun k_ => some k_ ≠ (v280 : Value).ownBlock) v290 t288) ∧ Aside0 (Below w.heap.size w wc))
      case first =>
        have H := HC13.out; clear HC13
        replace H := Option.bind_eq_some_iff.mp H
        obtain ⟨t292, A240, H⟩ := H
        replace H : (if t292 = true then (laws_FnExactPlayObject.j0 k a0 l1 l2 t278 t279 t282 t285 t288 t289 (t289 != t279)) else (laws_FnExactPlayObject.j0 k a0 l1 l2 t278 t279 t282 t285 t288 t289 true)) = some r := H
        have A24 := a_ A240; clear A240
        by_cases c25 : t292 = true
        · subst c25
          have H1 : (laws_FnExactPlayObject.j0 k a0 l1 l2 t278 t279 t282 t285 t288 t289 (t289 != t279)) = some r := by rw [if_pos rfl] at H; exact H
          clear H; have H := H1; clear H1
          have H' := a_ H
          clear H
          obtain ⟨Ao26, co26, eo26⟩ := Kd.R_slice HO291.out
          subst eo26
          obtain ⟨Ao27, co27, eo27⟩ := Kd.R_slice HO281.out
          subst eo27
          go_wp2_with (first | ((with_reducible refine gate_callee (f := 14) rfl ?_); refine goesL_ (some 49) rfl rfl Try.func14 (by kernel_rfl) rfl #[.slice Ao26 t288.length co26, .slice Ao27 t278.length co27] rfl la_ ?_; (with_reducible refine (laws_eqFloat64S.calls k _ _ t288 _ _ t278 true _ ?side1 ?side2 ?side3 ?side4 A24.out).mono ?_); (case side1 => repeat (first | exact (Kd.R_reads' HO291.out).2.2 | (with_reducible refine Kd.C_alloc ?_ _) | (with_reducible refine Kd.C_drewN ?_ _) | (with_reducible refine Kd.C_drew ?_))); (case side2 => exact (Kd.R_reads' HO291.out).2.1); (case side3 => repeat (first | exact (Kd.R_reads' HO281.out).2.2 | (with_reducible refine Kd.C_alloc ?_ _) | (with_reducible refine Kd.C_drewN ?_ _) | (with_reducible refine Kd.C_drew ?_))); (case side4 => exact (Kd.R_reads' HO281.out).2.1); rintro e w' ⟨rfl, ⟨nd, rfl⟩⟩; refine ⟨_, rfl, ?_⟩))
          go_meet
          case rel => exact ⟨_, ((t289 != t279)), (by first | rfl | (simp; done) | (simp [*]; done)), H', ⟨by first | omega | exact Nat.le_refl _⟩, ⟨by refine r_ ?_; exact Kd.R_mono HO281.out (fun _ hk => hk.2)⟩, ⟨by refine r_ ?_; exact Kd.R_mono HO284.out (fun _ hk => trivial)⟩, ⟨by refine r_ ?_; exact Kd.R_mono HO287.out (fun _ hk => trivial)⟩, ⟨by refine r_ ?_; exact Kd.R_mono HO291.out (fun _ hk => hk.2)⟩, ⟨b_⟩⟩
        · replace c25 := Bool.eq_false_iff.mpr c25
          subst c25
          have H1 : (laws_FnExactPlayObject.j0 k a0 l1 l2 t278 t279 t282 t285 t288 t289 true) = some r := by rw [if_neg (show ¬ (false = true) by decide)] at H; exact H
          clear H; have H := H1; clear H1
          have H' := a_ H
          clear H
          obtain ⟨Ao28, co28, eo28⟩ := Kd.R_slice HO291.out
          subst eo28
          obtain ⟨Ao29, co29, eo29⟩ := Kd.R_slice HO281.out
          subst eo29
          go_wp2_with (first | ((with_reducible refine gate_callee (f := 14) rfl ?_); refine goesL_ (some 49) rfl rfl Try.func14 (by kernel_rfl) rfl #[.slice Ao28 t288.length co28, .slice Ao29 t278.length co29] rfl la_ ?_; (with_reducible refine (laws_eqFloat64S.calls k _ _ t288 _ _ t278 false _ ?side1 ?side2 ?side3 ?side4 A24.out).mono ?_); (case side1 => repeat (first | exact (Kd.R_reads' HO291.out).2.2 | (with_reducible refine Kd.C_alloc ?_ _) | (with_reducible refine Kd.C_drewN ?_ _) | (with_reducible refine Kd.C_drew ?_))); (case side2 => exact (Kd.R_reads' HO291.out).2.1); (case side3 => repeat (first | exact (Kd.R_reads' HO281.out).2.2 | (with_reducible refine Kd.C_alloc ?_ _) | (with_reducible refine Kd.C_drewN ?_ _) | (with_reducible refine Kd.C_drew ?_))); (case side4 => exact (Kd.R_reads' HO281.out).2.1); rintro e w' ⟨rfl, ⟨nd, rfl⟩⟩; refine ⟨_, rfl, ?_⟩))
          go_meet
          case rel => exact ⟨_, (true), (by first | rfl | (simp; done) | (simp [*]; done)), H', ⟨by first | omega | exact Nat.le_refl _⟩, ⟨by refine r_ ?_; exact Kd.R_mono HO281.out (fun _ hk => hk.2)⟩, ⟨by refine r_ ?_; exact Kd.R_mono HO284.out (fun _ hk => trivial)⟩, ⟨by refine r_ ?_; exact Kd.R_mono HO287.out (fun _ hk => trivial)⟩, ⟨by refine r_ ?_; exact Kd.R_mono HO291.out (fun _ hk => hk.2)⟩, ⟨b_⟩⟩
      case rest =>
        clear HC13; (try clear c1); (try clear c2); (try clear p2); (try clear c3); (try clear c4); (try clear c4b0); (try clear c4b1); (try clear c6); (try clear c6b0); (try clear c9); (try clear c10); (try clear c11); (try clear c12); (try clear c13); (try clear c14); (try clear c25)
        obtain ⟨kq, x55_12, rfl, HA, HJ12, HO_8, HO_10, HO_11, HO_12, HB⟩ := hcut
        cases kq with
        | zero => exact absurd HA.out (by simp [laws_FnExactPlayObject.j0])
        | succ kj12 =>
          have H := HA.out; clear HA
          simp only [laws_FnExactPlayObject.j0] at H
          by_cases c30 : x55_12 = true
          · subst c30
            have H1 : (some false) = some r := by rw [if_pos rfl] at H; exact H
            clear H; have H := H1; clear H1
            obtain rfl := Option.some.inj H
            go_wp2
            go_ret
            exact ⟨by first | rfl | (simp [errW_none, errW_some] <;> rfl) | (simp [*, errW_none, errW_some] <;> rfl), b_⟩
          · replace c30 := Bool.eq_false_iff.mpr c30
            subst c30
            have H1 : ((laws_toCallS.f kj12 l1).bind fun t293 => ((laws_eqCallS.f kj12 t282 t293).bind fun t296 => (if t296 = true then ((laws_toIntS.f kj12 l2).bind fun t297 => ((laws_eqIntS.f kj12 t285 t297).bind fun t300 => (if t300 = true then ((laws_markCallS.f kj12 t282 1).bind fun bt301 => ((laws_markIntS.f kj12 t285 bt301.1).bind fun bt303 => (if bt303.1 < 0 then (laws_FnExactPlayObject.j1 kj12 a0 l1 l2 t278 t279 t288 true) else ((laws_eqFloat64S.f kj12 t288 t278).bind fun t305 => (if t305 = true then (laws_FnExactPlayObject.j1 kj12 a0 l1 l2 t278 t279 t288 (t289 != t279)) else (laws_FnExactPlayObject.j1 kj12 a0 l1 l2 t278 t279 t288 true)))))) else (some false)))) else (some false)))) = some r := by rw [if_neg (show ¬ (false = true) by decide)] at H; exact H
            clear H; have H := H1; clear H1
            replace H := Option.bind_eq_some_iff.mp H
            obtain ⟨t293, A310, H⟩ := H
            replace H : ((laws_eqCallS.f kj12 t282 t293).bind fun t296 => (if t296 = true then ((laws_toIntS.f kj12 l2).bind fun t297 => ((laws_eqIntS.f kj12 t285 t297).bind fun t300 => (if t300 = true then ((laws_markCallS.f kj12 t282 1).bind fun bt301 => ((laws_markIntS.f kj12 t285 bt301.1).bind fun bt303 => (if bt303.1 < 0 then (laws_FnExactPlayObject.j1 kj12 a0 l1 l2 t278 t279 t288 true) else ((laws_eqFloat64S.f kj12 t288 t278).bind fun t305 => (if t305 = true then (laws_FnExactPlayObject.j1 kj12 a0 l1 l2 t278 t279 t288 (t289 != t279)) else (laws_FnExactPlayObject.j1 kj12 a0 l1 l2 t278 t279 t288 true)))))) else (some false)))) else (some false))) = some r := H
            have A31 := a_ A310; clear A310
            replace H := Option.bind_eq_some_iff.mp H
            obtain ⟨t296, A320, H⟩ := H
            replace H : (if t296 = true then ((laws_toIntS.f kj12 l2).bind fun t297 => ((laws_eqIntS.f kj12 t285 t297).bind fun t300 => (if t300 = true then ((laws_markCallS.f kj12 t282 1).bind fun bt301 => ((laws_markIntS.f kj12 t285 bt301.1).bind fun bt303 => (if bt303.1 < 0 then (laws_FnExactPlayObject.j1 kj12 a0 l1 l2 t278 t279 t288 true) else ((laws_eqFloat64S.f kj12 t288 t278).bind fun t305 => (if t305 = true then (laws_FnExactPlayObject.j1 kj12 a0 l1 l2 t278 t279 t288 (t289 != t279)) else (laws_FnExactPlayObject.j1 kj12 a0 l1 l2 t278 t279 t288 true)))))) else (some false)))) else (some false)) = some r := H
            have A32 := a_ A320; clear A320
            by_cases c33 : t296 = true
            · subst c33
              have H1 : ((laws_toIntS.f kj12 l2).bind fun t297 => ((laws_eqIntS.f kj12 t285 t297).bind fun t300 => (if t300 = true then ((laws_markCallS.f kj12 t282 1).bind fun bt301 => ((laws_markIntS.f kj12 t285 bt301.1).bind fun bt303 => (if bt303.1 < 0 then (laws_FnExactPlayObject.j1 kj12 a0 l1 l2 t278 t279 t288 true) else ((laws_eqFloat64S.f kj12 t288 t278).bind fun t305 => (if t305 = true then (laws_FnExactPlayObject.j1 kj12 a0 l1 l2 t278 t279 t288 (t289 != t279)) else (laws_FnExactPlayObject.j1 kj12 a0 l1 l2 t278 t279 t288 true)))))) else (some false)))) = some r := by rw [if_pos rfl] at H; exact H
              clear H; have H := H1; clear H1
              replace H := Option.bind_eq_some_iff.mp H
              obtain ⟨t297, A340, H⟩ := H
              replace H : ((laws_eqIntS.f kj12 t285 t297).bind fun t300 => (if t300 = true then ((laws_markCallS.f kj12 t282 1).bind fun bt301 => ((laws_markIntS.f kj12 t285 bt301.1).bind fun bt303 => (if bt303.1 < 0 then (laws_FnExactPlayObject.j1 kj12 a0 l1 l2 t278 t279 t288 true) else ((laws_eqFloat64S.f kj12 t288 t278).bind fun t305 => (if t305 = true then (laws_FnExactPlayObject.j1 kj12 a0 l1 l2 t278 t279 t288 (t289 != t279)) else (laws_FnExactPlayObject.j1 kj12 a0 l1 l2 t278 t279 t288 true)))))) else (some false))) = some r := H
              have A34 := a_ A340; clear A340
              replace H := Option.bind_eq_some_iff.mp H
              obtain ⟨t300, A350, H⟩ := H
              replace H : (if t300 = true then ((laws_markCallS.f kj12 t282 1).bind fun bt301 => ((laws_markIntS.f kj12 t285 bt301.1).bind fun bt303 => (if bt303.1 < 0 then (laws_FnExactPlayObject.j1 kj12 a0 l1 l2 t278 t279 t288 true) else ((laws_eqFloat64S.f kj12 t288 t278).bind fun t305 => (if t305 = true then (laws_FnExactPlayObject.j1 kj12 a0 l1 l2 t278 t279 t288 (t289 != t279)) else (laws_FnExactPlayObject.j1 kj12 a0 l1 l2 t278 t279 t288 true)))))) else (some false)) = some r := H
              have A35 := a_ A350; clear A350
              by_cases c36 : t300 = true
              · subst c36
                have H1 : ((laws_markCallS.f kj12 t282 1).bind fun bt301 => ((laws_markIntS.f kj12 t285 bt301.1).bind fun bt303 => (if bt303.1 < 0 then (laws_FnExactPlayObject.j1 kj12 a0 l1 l2 t278 t279 t288 true) else ((laws_eqFloat64S.f kj12 t288 t278).bind fun t305 => (if t305 = true then (laws_FnExactPlayObject.j1 kj12 a0 l1 l2 t278 t279 t288 (t289 != t279)) else (laws_FnExactPlayObject.j1 kj12 a0 l1 l2 t278 t279 t288 true)))))) = some r := by rw [if_pos rfl] at H; exact H
                clear H; have H := H1; clear H1
                replace H := Option.bind_eq_some_iff.mp H
                obtain ⟨⟨t301, t302⟩, A370, H⟩ := H
                replace H : ((laws_markIntS.f kj12 t285 t301).bind fun bt303 => (if bt303.1 < 0 then (laws_FnExactPlayObject.j1 kj12 a0 l1 l2 t278 t279 t288 true) else ((laws_eqFloat64S.f kj12 t288 t278).bind fun t305 => (if t305 = true then (laws_FnExactPlayObject.j1 kj12 a0 l1 l2 t278 t279 t288 (t289 != t279)) else (laws_FnExactPlayObject.j1 kj12 a0 l1 l2 t278 t279 t288 true))))) = some r := H
                have A37 := a_ A370; clear A370
                replace H := Option.bind_eq_some_iff.mp H
                obtain ⟨⟨t303, t304⟩, A380, H⟩ := H
                replace H : (if t303 < 0 then (laws_FnExactPlayObject.j1 kj12 a0 l1 l2 t278 t279 t288 true) else ((laws_eqFloat64S.f kj12 t288 t278).bind fun t305 => (if t305 = true then (laws_FnExactPlayObject.j1 kj12 a0 l1 l2 t278 t279 t288 (t289 != t279)) else (laws_FnExactPlayObject.j1 kj12 a0 l1 l2 t278 t279 t288 true)))) = some r := H
                have A38 := a_ A380; clear A380; have HC39 := a_ H; clear H
                go_upto_region 20 with (first | ((with_reducible refine gate_callee (f := 11) rfl ?_); refine goesL_ (some 58) rfl rfl Try.func11 (by kernel_rfl) rfl #[.slice A1 l1.length c1] rfl la_ ?_; (with_reducible refine (laws_toCallS.calls kj12 _ _ l1 t293 _ ?side1 ?side2 A31.out).mono ?_); (case side1 => repeat (first | exact (Kd.C_below HR1.out HB.out) | (with_reducible refine Kd.C_alloc ?_ _) | (with_reducible refine Kd.C_drewN ?_ _) | (with_reducible refine Kd.C_drew ?_))); (case side2 => exact HC1.out); rintro e w40 ⟨v294, rfl, ho0, hb⟩; refine ⟨_, rfl, ?_⟩; have n0_ := a_ (Kd.R_below (r_ HO_8.out) hb); have n1_ := a_ (Kd.R_elder' (r_ HO_10.out) (by first | exact Kd.R_base ho0 | exact Kd.S_base ho0 | exact Kd.R_base ho0) hb); have n2_ := a_ (Kd.R_below (r_ HO_11.out) hb); have n3_ := a_ (Kd.R_below (r_ HO_12.out) hb); have n4_ := a_ (Kd.R_lower (Kd.R_new' ho0 (Kd.R_lt (r_ HO_10.out))) (below_size b_)); have n5_ := a_ (below_step b_ hb); clear HO_8; clear HO_10; clear HO_11; clear HO_12; clear HB; have HO_8 := n0_; have HO_10 := n1_; have HO_11 := n2_; have HO_12 := n3_; have HO295 := n4_; have HB := n5_; clear n0_ n1_ n2_ n3_ n4_ n5_; (try clear hb); (try clear hb2); (try clear hk); (try clear hi); (try clear ho0); obtain ⟨Ao41, co41, eo41⟩ := Kd.R_slice HO295.out; subst eo41) | ((with_reducible refine gate_callee (f := 15) rfl ?_); refine goesL_ (some 59) rfl rfl Try.func15 (by kernel_rfl) rfl #[.slice Ao21 t282.length co21, .slice Ao41 t293.length co41] rfl la_ ?_; (with_reducible refine (laws_eqCallS.calls kj12 _ _ t282 _ _ t293 true _ ?side1 ?side2 ?side3 ?side4 A32.out).mono ?_); (case side1 => repeat (first | exact (Kd.R_reads' HO_10.out).2.2 | (with_reducible refine Kd.C_alloc ?_ _) | (with_reducible refine Kd.C_drewN ?_ _) | (with_reducible refine Kd.C_drew ?_))); (case side2 => exact (Kd.R_reads' HO_10.out).2.1); (case side3 => repeat (first | exact (Kd.R_reads' HO295.out).2.2 | (with_reducible refine Kd.C_alloc ?_ _) | (with_reducible refine Kd.C_drewN ?_ _) | (with_reducible refine Kd.C_drew ?_))); (case side4 => exact (Kd.R_reads' HO295.out).2.1); rintro e w42 ⟨rfl, hb⟩; refine ⟨_, rfl, ?_⟩; have n0_ := a_ (Kd.R_below (r_ HO_8.out) hb); have n1_ := a_ (Kd.R_below (r_ HO_10.out) hb); have n2_ := a_ (Kd.R_below (r_ HO_11.out) hb); have n3_ := a_ (Kd.R_below (r_ HO_12.out) hb); have n4_ := a_ (Kd.R_below (r_ HO295.out) hb); have n5_ := a_ (below_step b_ hb); clear HO_8; clear HO_10; clear HO_11; clear HO_12; clear HO295; clear HB; have HO_8 := n0_; have HO_10 := n1_; have HO_11 := n2_; have HO_12 := n3_; have HO295 := n4_; have HB := n5_; clear n0_ n1_ n2_ n3_ n4_ n5_; (try clear hb); (try clear hb2); (try clear hk); (try clear hi)) | ((with_reducible refine gate_callee (f := 12) rfl ?_); refine goesL_ (some 63) rfl rfl Try.func12 (by kernel_rfl) rfl #[.slice A2 l2.length c2] rfl la_ ?_; (with_reducible refine (laws_toIntS.calls kj12 _ _ l2 t297 _ ?side1 ?side2 A34.out).mono ?_); (case side1 => repeat (first | exact (Kd.C_below HR2.out HB.out) | (with_reducible refine Kd.C_alloc ?_ _) | (with_reducible refine Kd.C_drewN ?_ _) | (with_reducible refine Kd.C_drew ?_))); (case side2 => exact HC2.out); rintro e w43 ⟨v298, rfl, ho0, hb⟩; refine ⟨_, rfl, ?_⟩; have n0_ := a_ (Kd.R_below (r_ HO_8.out) hb); have n1_ := a_ (Kd.R_below (r_ HO_10.out) hb); have n2_ := a_ (Kd.R_elder' (r_ HO_11.out) (by first | exact Kd.R_base ho0 | exact Kd.S_base ho0 | exact Kd.R_base ho0) hb); have n3_ := a_ (Kd.R_below (r_ HO_12.out) hb); have n4_ := a_ (Kd.R_below (r_ HO295.out) hb); have n5_ := a_ (Kd.R_lower (Kd.R_new' ho0 (Kd.R_lt (r_ HO_11.out))) (below_size b_)); have n6_ := a_ (below_step b_ hb); clear HO_8; clear HO_10; clear HO_11; clear HO_12; clear HO295; clear HB; have HO_8 := n0_; have HO_10 := n1_; have HO_11 := n2_; have HO_12 := n3_; have HO295 := n4_; have HO299 := n5_; have HB := n6_; clear n0_ n1_ n2_ n3_ n4_ n5_ n6_; (try clear hb); (try clear hb2); (try clear hk); (try clear hi); (try clear ho0); obtain ⟨Ao44, co44, eo44⟩ := Kd.R_slice HO299.out; subst eo44) | ((with_reducible refine gate_callee (f := 16) rfl ?_); refine goesL_ (some 64) rfl rfl Try.func16 (by kernel_rfl) rfl #[.slice Ao22 t285.length co22, .slice Ao44 t297.length co44] rfl la_ ?_; (with_reducible refine (laws_eqIntS.calls kj12 _ _ t285 _ _ t297 true _ ?side1 ?side2 ?side3 ?side4 A35.out).mono ?_); (case side1 => repeat (first | exact (Kd.R_reads' HO_11.out).2.2 | (with_reducible refine Kd.C_alloc ?_ _) | (with_reducible refine Kd.C_drewN ?_ _) | (with_reducible refine Kd.C_drew ?_))); (case side2 => exact (Kd.R_reads' HO_11.out).2.1); (case side3 => repeat (first | exact (Kd.R_reads' HO299.out).2.2 | (with_reducible refine Kd.C_alloc ?_ _) | (with_reducible refine Kd.C_drewN ?_ _) | (with_reducible refine Kd.C_drew ?_))); (case side4 => exact (Kd.R_reads' HO299.out).2.1); rintro e w' ⟨rfl, ⟨nd, rfl⟩⟩; refine ⟨_, rfl, ?_⟩) | ((with_reducible refine gate_callee (f := 17) rfl ?_); refine goesL_ (some 68) rfl rfl Try.func17 (by kernel_rfl) rfl #[.slice Ao21 t282.length co21, .int .i64 1] rfl la_ ?_; (with_reducible refine (laws_markCallS.calls kj12 (fun k_ => some k_ = (.slice Ao21 t282.length co21 : Value).ownBlock) (.slice Ao21 t282.length co21) t282 1 t301 t302 w _ ?side1 ?side2 A37.out).mono ?_); (case side1 => exact b_); (case side2 => exact Kd.R_tight rfl HO_10.out); rintro e w45 ⟨rfl, hy0, hb, hkp⟩; refine ⟨_, rfl, ?_⟩; have n0_ := a_ (Kd.R_mono (ok' := fun k_ => some k_ ≠ (v290 : Value).ownBlock) (Kd.R_keptB ((Kd.R_apart' HO_8.out (Kd.R_typed HO_10.out) (by decide))) hkp (fun k_ hk_ hs_ => (hk_.2) hs_)) (fun k_ hk_ => hk_.1.1)); have n1_ := a_ (Kd.R_reok rfl hy0 (fun k_ e_ => HO_10.out.1 k_ e_)); have n2_ := a_ (Kd.R_mono (ok' := fun k_ => some k_ ≠ (.slice Ao44 t297.length co44 : Value).ownBlock) (Kd.R_keptB ((Kd.R_apart' HO_11.out (Kd.R_typed HO_10.out) (by decide))) hkp (fun k_ hk_ hs_ => (hk_.2) hs_)) (fun k_ hk_ => hk_.1.1.2)); have n3_ := a_ (Kd.R_mono (ok' := fun k_ => some k_ ≠ (v280 : Value).ownBlock) (Kd.R_keptB ((Kd.R_apart' HO_12.out (Kd.R_typed HO_10.out) (by decide))) hkp (fun k_ hk_ hs_ => (hk_.2) hs_)) (fun k_ hk_ => hk_.1.1)); have n4_ := a_ (Kd.R_mono (ok' := fun k_ => some k_ ≠ (.slice Ao21 t282.length co21 : Value).ownBlock) (Kd.R_keptB (HO295.out) hkp (fun k_ hk_ hs_ => (hk_.2) hs_)) (fun k_ hk_ => hk_.1.2)); have n5_ := a_ (Kd.R_mono (ok' := fun k_ => some k_ ≠ (.slice Ao22 t285.length co22 : Value).ownBlock) (Kd.R_keptB ((Kd.R_apart' HO299.out (Kd.R_typed HO_10.out) (by decide))) hkp (fun k_ hk_ hs_ => (hk_.2) hs_)) (fun k_ hk_ => hk_.1.1.2)); have n6_ := a_ (hb); clear HO_8; clear HO_10; clear HO_11; clear HO_12; clear HO295; clear HO299; clear HB; have HO_8 := n0_; have HO_10 := n1_; have HO_11 := n2_; have HO_12 := n3_; have HO295 := n4_; have HO299 := n5_; have HB := n6_; clear n0_ n1_ n2_ n3_ n4_ n5_ n6_; (try clear hb); (try clear hkp); (try clear hy0)) | ((with_reducible refine gate_callee (f := 18) rfl ?_); refine goesL_ (some 71) rfl rfl Try.func18 (by kernel_rfl) rfl #[.slice Ao22 t285.length co22, .int .i64 t301] rfl la_ ?_; (with_reducible refine (laws_markIntS.calls kj12 (fun k_ => some k_ = (.slice Ao22 t285.length co22 : Value).ownBlock) (.slice Ao22 t285.length co22) t285 t301 t303 t304 w _ ?side1 ?side2 A38.out).mono ?_); (case side1 => exact b_); (case side2 => exact Kd.R_tight rfl HO_11.out); rintro e w46 ⟨rfl, hy0, hb, hkp⟩; refine ⟨_, rfl, ?_⟩; have n0_ := a_ (Kd.R_mono (ok' := fun k_ => some k_ ≠ (v290 : Value).ownBlock) (Kd.R_keptB ((Kd.R_apart' HO_8.out (Kd.R_typed HO_11.out) (by decide))) hkp (fun k_ hk_ hs_ => (hk_.2) hs_)) (fun k_ hk_ => hk_.1.1)); have n1_ := a_ (Kd.R_mono (ok' := fun k_ => some k_ ≠ (.slice Ao41 t293.length co41 : Value).ownBlock) (Kd.R_keptB ((Kd.R_apart' HO_10.out (Kd.R_typed HO_11.out) (by decide))) hkp (fun k_ hk_ hs_ => (hk_.2) hs_)) (fun k_ hk_ => hk_.1.1.2)); have n2_ := a_ (Kd.R_reok rfl hy0 (fun k_ e_ => HO_11.out.1 k_ e_)); have n3_ := a_ (Kd.R_mono (ok' := fun k_ => some k_ ≠ (v280 : Value).ownBlock) (Kd.R_keptB ((Kd.R_apart' HO_12.out (Kd.R_typed HO_11.out) (by decide))) hkp (fun k_ hk_ hs_ => (hk_.2) hs_)) (fun k_ hk_ => hk_.1.1)); have n4_ := a_ (Kd.R_mono (ok' := fun k_ => some k_ ≠ (.slice Ao21 t282.length co21 : Value).ownBlock) (Kd.R_keptB ((Kd.R_apart' HO295.out (Kd.R_typed HO_11.out) (by decide))) hkp (fun k_ hk_ hs_ => (hk_.2) hs_)) (fun k_ hk_ => hk_.1.1)); have n5_ := a_ (Kd.R_mono (ok' := fun k_ => some k_ ≠ (.slice Ao22 t285.length co22 : Value).ownBlock) (Kd.R_keptB (HO299.out) hkp (fun k_ hk_ hs_ => (hk_) hs_)) (fun k_ hk_ => hk_.1)); have n6_ := a_ (hb); clear HO_8; clear HO_10; clear HO_11; clear HO_12; clear HO295; clear HO299; clear HB; have HO_8 := n0_; have HO_10 := n1_; have HO_11 := n2_; have HO_12 := n3_; have HO295 := n4_; have HO299 := n5_; have HB := n6_; clear n0_ n1_ n2_ n3_ n4_ n5_ n6_; (try clear hb); (try clear hkp); (try clear hy0)))
                (try simp only [Act.put, List.setIfInBounds_toArray, List.set_cons_zero, List.set_cons_succ])
                go_cut [84] (fun v84 wc => ∃ (kq : Nat) (x84_38 : Bool), v84 = .bool x84_38 ∧ Aside0 (laws_FnExactPlayObject.j1 kq a0 l1 l2 t278 t279 t288 x84_38 = some r) ∧ Aside0 (kq ≤ kj12) ∧ Aside0 (Kd.R Kd.float 55 wc w.heap.size (fun k_ => some k_ ≠ (v290 : Value).ownBlock) v280 t278) ∧ Aside0 (Kd.R Kd.float 55 wc w.heap.size (fun k_ => some k_ ≠ (v280 : Value).ownBlock) v290 t288) ∧ Aside0 (Below w.heap.size w wc))
                case first =>
                  have H := HC39.out; clear HC39
                  by_cases c47 : t303 < 0
                  · rw [if_pos c47] at H
                    have c47b0 : decide (t303 < 0) = true := decide_eq_true c47
                    clear c47
                    (first | rw [c47b0] | (simp only [i64_w, i32_w]; rw [c47b0]) | skip)
                    have H' := a_ H
                    clear H
                    go_wp2
                    go_meet
                    case rel => exact ⟨_, (true), (by first | rfl | (simp; done) | (simp [*]; done)), H', ⟨by have := HJ12.out; first | omega | exact Nat.le_refl _⟩, ⟨by exact r_ HO_8.out⟩, ⟨by exact r_ HO_12.out⟩, ⟨b_⟩⟩
                  · rw [if_neg c47] at H
                    have c47b0 : decide (t303 < 0) = false := decide_eq_false c47
                    clear c47
                    (first | rw [c47b0] | (simp only [i64_w, i32_w]; rw [c47b0]) | skip)
                    replace H := Option.bind_eq_some_iff.mp H
                    obtain ⟨t305, A480, H⟩ := H
                    replace H : (if t305 = true then (laws_FnExactPlayObject.j1 kj12 a0 l1 l2 t278 t279 t288 (t289 != t279)) else (laws_FnExactPlayObject.j1 kj12 a0 l1 l2 t278 t279 t288 true)) = some r := H
                    have A48 := a_ A480; clear A480
                    by_cases c49 : t305 = true
                    · subst c49
                      have H1 : (laws_FnExactPlayObject.j1 kj12 a0 l1 l2 t278 t279 t288 (t289 != t279)) = some r := by rw [if_pos rfl] at H; exact H
                      clear H; have H := H1; clear H1
                      have H' := a_ H
                      clear H
                      obtain ⟨Ao50, co50, eo50⟩ := Kd.R_slice HO_12.out
                      subst eo50
                      obtain ⟨Ao51, co51, eo51⟩ := Kd.R_slice HO_8.out
                      subst eo51
                      go_wp2_with (first | (go_at_call 14; (with_reducible refine (laws_eqFloat64S.calls kj12 _ _ t288 _ _ t278 true _ ?side1 ?side2 ?side3 ?side4 A48.out).mono ?_); (case side1 => repeat (first | exact (Kd.R_reads' HO_12.out).2.2 | (with_reducible refine Kd.C_alloc ?_ _) | (with_reducible refine Kd.C_drewN ?_ _) | (with_reducible refine Kd.C_drew ?_))); (case side2 => exact (Kd.R_reads' HO_12.out).2.1); (case side3 => repeat (first | exact (Kd.R_reads' HO_8.out).2.2 | (with_reducible refine Kd.C_alloc ?_ _) | (with_reducible refine Kd.C_drewN ?_ _) | (with_reducible refine Kd.C_drew ?_))); (case side4 => exact (Kd.R_reads' HO_8.out).2.1); rintro e w' ⟨rfl, ⟨nd, rfl⟩⟩))
                      go_meet
                      case rel => exact ⟨_, ((t289 != t279)), (by first | rfl | (simp; done) | (simp [*]; done)), H', ⟨by have := HJ12.out; first | omega | exact Nat.le_refl _⟩, ⟨by exact r_ HO_8.out⟩, ⟨by exact r_ HO_12.out⟩, ⟨b_⟩⟩
                    · replace c49 := Bool.eq_false_iff.mpr c49
                      subst c49
                      have H1 : (laws_FnExactPlayObject.j1 kj12 a0 l1 l2 t278 t279 t288 true) = some r := by rw [if_neg (show ¬ (false = true) by decide)] at H; exact H
                      clear H; have H := H1; clear H1
                      have H' := a_ H
                      clear H
                      obtain ⟨Ao52, co52, eo52⟩ := Kd.R_slice HO_12.out
                      subst eo52
                      obtain ⟨Ao53, co53, eo53⟩ := Kd.R_slice HO_8.out
                      subst eo53
                      go_wp2_with (first | (go_at_call 14; (with_reducible refine (laws_eqFloat64S.calls kj12 _ _ t288 _ _ t278 false _ ?side1 ?side2 ?side3 ?side4 A48.out).mono ?_); (case side1 => repeat (first | exact (Kd.R_reads' HO_12.out).2.2 | (with_reducible refine Kd.C_alloc ?_ _) | (with_reducible refine Kd.C_drewN ?_ _) | (with_reducible refine Kd.C_drew ?_))); (case side2 => exact (Kd.R_reads' HO_12.out).2.1); (case side3 => repeat (first | exact (Kd.R_reads' HO_8.out).2.2 | (with_reducible refine Kd.C_alloc ?_ _) | (with_reducible refine Kd.C_drewN ?_ _) | (with_reducible refine Kd.C_drew ?_))); (case side4 => exact (Kd.R_reads' HO_8.out).2.1); rintro e w' ⟨rfl, ⟨nd, rfl⟩⟩))
                      go_meet
                      case rel => exact ⟨_, (true), (by first | rfl | (simp; done) | (simp [*]; done)), H', ⟨by have := HJ12.out; first | omega | exact Nat.le_refl _⟩, ⟨by exact r_ HO_8.out⟩, ⟨by exact r_ HO_12.out⟩, ⟨b_⟩⟩
                case rest =>
                  clear HC39; (try clear c1); (try clear c2); (try clear p2); (try clear c3); (try clear c4); (try clear c4b0); (try clear c4b1); (try clear c6); (try clear c6b0); (try clear c9); (try clear c10); (try clear c11); (try clear c12); (try clear c13); (try clear c14); (try clear c15); (try clear c16); (try clear c17); (try clear c18); (try clear c25); (try clear c30); (try clear c33); (try clear c36); (try clear c47); (try clear c47b0); (try clear c49); (try clear p2)
                  obtain ⟨kq, x84_38, rfl, HA, HJ38, HO_8, HO_12, HB⟩ := hcut
                  cases kq with
                  | zero => exact absurd HA.out (by simp [laws_FnExactPlayObject.j1])
                  | succ kj38 =>
                    have H := HA.out; clear HA
                    simp only [laws_FnExactPlayObject.j1] at H
                    by_cases c54 : x84_38 = true
                    · subst c54
                      have H1 : (some false) = some r := by rw [if_pos rfl] at H; exact H
                      clear H; have H := H1; clear H1
                      obtain rfl := Option.some.inj H
                      go_wp2
                      go_ret
                      exact ⟨by first | rfl | (simp [errW_none, errW_some] <;> rfl) | (simp [*, errW_none, errW_some] <;> rfl), b_⟩
                    · replace c54 := Bool.eq_false_iff.mpr c54
                      subst c54
                      have H1 : ((laws_markFloat64S.f kj38 t288 1).bind fun bt306 => ((laws_heldFloat64S.f kj38 bt306.2 1).bind fun t308 => (if t308 < 0 then (some false) else (if t308 = bt306.1 then ((laws_toCallS.f kj38 l1).bind fun t309 => ((laws_toIntS.f kj38 l2).bind fun t312 => ((impl_PlayObject.f kj38 a0 t309 t312).bind fun bt315 => ((laws_eqFloat64S.f kj38 bt315.1 t278).bind fun t319 => (if t319 = true then (laws_FnExactPlayObject.j2 kj38 bt306.2 bt306.1 (bt315.2 != t279)) else (laws_FnExactPlayObject.j2 kj38 bt306.2 bt306.1 true)))))) else (some false))))) = some r := by rw [if_neg (show ¬ (false = true) by decide)] at H; exact H
                      clear H; have H := H1; clear H1
                      replace H := Option.bind_eq_some_iff.mp H
                      obtain ⟨⟨t306, t307⟩, A550, H⟩ := H
                      replace H : ((laws_heldFloat64S.f kj38 t307 1).bind fun t308 => (if t308 < 0 then (some false) else (if t308 = t306 then ((laws_toCallS.f kj38 l1).bind fun t309 => ((laws_toIntS.f kj38 l2).bind fun t312 => ((impl_PlayObject.f kj38 a0 t309 t312).bind fun bt315 => ((laws_eqFloat64S.f kj38 bt315.1 t278).bind fun t319 => (if t319 = true then (laws_FnExactPlayObject.j2 kj38 t307 t306 (bt315.2 != t279)) else (laws_FnExactPlayObject.j2 kj38 t307 t306 true)))))) else (some false)))) = some r := H
                      have A55 := a_ A550; clear A550
                      replace H := Option.bind_eq_some_iff.mp H
                      obtain ⟨t308, A560, H⟩ := H
                      replace H : (if t308 < 0 then (some false) else (if t308 = t306 then ((laws_toCallS.f kj38 l1).bind fun t309 => ((laws_toIntS.f kj38 l2).bind fun t312 => ((impl_PlayObject.f kj38 a0 t309 t312).bind fun bt315 => ((laws_eqFloat64S.f kj38 bt315.1 t278).bind fun t319 => (if t319 = true then (laws_FnExactPlayObject.j2 kj38 t307 t306 (bt315.2 != t279)) else (laws_FnExactPlayObject.j2 kj38 t307 t306 true)))))) else (some false))) = some r := H
                      have A56 := a_ A560; clear A560
                      by_cases c57 : t308 < 0
                      · rw [if_pos c57] at H
                        have c57b0 : decide (t308 < 0) = true := decide_eq_true c57
                        clear c57
                        obtain rfl := Option.some.inj H
                        obtain ⟨Ao58, co58, eo58⟩ := Kd.R_slice HO_12.out
                        subst eo58
                        go_wp2_with (first | ((with_reducible refine gate_callee (f := 19) rfl ?_); refine goesL_ (some 87) rfl rfl Try.func19 (by kernel_rfl) rfl #[.slice Ao58 t288.length co58, .int .i64 1] rfl la_ ?_; (with_reducible refine (laws_markFloat64S.calls kj38 (fun k_ => some k_ = (.slice Ao58 t288.length co58 : Value).ownBlock) (.slice Ao58 t288.length co58) t288 1 t306 t307 w _ ?side1 ?side2 A55.out).mono ?_); (case side1 => exact b_); (case side2 => exact Kd.R_tight rfl HO_12.out); rintro e w59 ⟨rfl, hy0, hb, hkp⟩; refine ⟨_, rfl, ?_⟩; have n0_ := a_ (Kd.R_mono (ok' := fun k_ => some k_ ≠ (.slice Ao58 t288.length co58 : Value).ownBlock) (Kd.R_keptB (HO_8.out) hkp (fun k_ hk_ hs_ => (hk_) hs_)) (fun k_ hk_ => hk_.1)); have n1_ := a_ (Kd.R_reok rfl hy0 (fun k_ e_ => HO_12.out.1 k_ e_)); have n2_ := a_ (hb); clear HO_8; clear HO_12; clear HB; have HO_8 := n0_; have HO_12 := n1_; have HB := n2_; clear n0_ n1_ n2_; (try clear hb); (try clear hkp); (try clear hy0)) | ((with_reducible refine gate_callee (f := 20) rfl ?_); refine goesL_ (some 90) rfl rfl Try.func20 (by kernel_rfl) rfl #[.slice Ao58 t307.length co58, .int .i64 1] rfl (by (try simp only [List.map_toArray, List.map_cons, List.map_nil]); first | done | (rw [show t307.length = t288.length from (Kd.R_reads' HO_12.out).1.symm] <;> rfl) | rfl | (simp only [List.length_drop, List.length_take]; rfl)) ?_; (with_reducible refine (laws_heldFloat64S.calls kj38 _ _ t307 1 t308 _ ?side1 ?side2 A56.out).mono ?_); (case side1 => repeat (first | exact (Kd.R_reads' HO_12.out).2.2 | (with_reducible refine Kd.C_alloc ?_ _) | (with_reducible refine Kd.C_drewN ?_ _) | (with_reducible refine Kd.C_drew ?_))); (case side2 => rw [show t307.length = t288.length from (Kd.R_reads' HO_12.out).1.symm]; exact (Kd.R_reads' HO_12.out).2.1); rintro e w' ⟨rfl, ⟨nd, rfl⟩⟩; refine ⟨_, rfl, ?_⟩))
                        go_ret
                        exact ⟨by first | rfl | (simp [errW_none, errW_some] <;> rfl) | (simp [*, errW_none, errW_some] <;> rfl), b_⟩
                      · rw [if_neg c57] at H
                        have c57b0 : decide (t308 < 0) = false := decide_eq_false c57
                        clear c57
                        by_cases c60 : t308 = t306
                        · rw [if_pos c60] at H
                          have c60b0 : (t308 == t306) = true := beq_iff_eq.mpr c60
                          have c60b1 : (t308 != t306) = false := bne_eq_false_iff_eq.mpr c60
                          clear c60
                          replace H := Option.bind_eq_some_iff.mp H
                          obtain ⟨t309, A610, H⟩ := H
                          replace H : ((laws_toIntS.f kj38 l2).bind fun t312 => ((impl_PlayObject.f kj38 a0 t309 t312).bind fun bt315 => ((laws_eqFloat64S.f kj38 bt315.1 t278).bind fun t319 => (if t319 = true then (laws_FnExactPlayObject.j2 kj38 t307 t306 (bt315.2 != t279)) else (laws_FnExactPlayObject.j2 kj38 t307 t306 true))))) = some r := H
                          have A61 := a_ A610; clear A610
                          replace H := Option.bind_eq_some_iff.mp H
                          obtain ⟨t312, A620, H⟩ := H
                          replace H : ((impl_PlayObject.f kj38 a0 t309 t312).bind fun bt315 => ((laws_eqFloat64S.f kj38 bt315.1 t278).bind fun t319 => (if t319 = true then (laws_FnExactPlayObject.j2 kj38 t307 t306 (bt315.2 != t279)) else (laws_FnExactPlayObject.j2 kj38 t307 t306 true)))) = some r := H
                          have A62 := a_ A620; clear A620
                          replace H := Option.bind_eq_some_iff.mp H
                          obtain ⟨⟨t315, t316⟩, A630, H⟩ := H
                          replace H : ((laws_eqFloat64S.f kj38 t315 t278).bind fun t319 => (if t319 = true then (laws_FnExactPlayObject.j2 kj38 t307 t306 (t316 != t279)) else (laws_FnExactPlayObject.j2 kj38 t307 t306 true))) = some r := H
                          have A63 := a_ A630; clear A630; have HC64 := a_ H; clear H
                          obtain ⟨Ao65, co65, eo65⟩ := Kd.R_slice HO_12.out
                          subst eo65
                          go_upto_region 31 with (first | ((with_reducible refine gate_callee (f := 19) rfl ?_); refine goesL_ (some 87) rfl rfl Try.func19 (by kernel_rfl) rfl #[.slice Ao65 t288.length co65, .int .i64 1] rfl la_ ?_; (with_reducible refine (laws_markFloat64S.calls kj38 (fun k_ => some k_ = (.slice Ao65 t288.length co65 : Value).ownBlock) (.slice Ao65 t288.length co65) t288 1 t306 t307 w _ ?side1 ?side2 A55.out).mono ?_); (case side1 => exact b_); (case side2 => exact Kd.R_tight rfl HO_12.out); rintro e w66 ⟨rfl, hy0, hb, hkp⟩; refine ⟨_, rfl, ?_⟩; have n0_ := a_ (Kd.R_mono (ok' := fun k_ => some k_ ≠ (.slice Ao65 t288.length co65 : Value).ownBlock) (Kd.R_keptB (HO_8.out) hkp (fun k_ hk_ hs_ => (hk_) hs_)) (fun k_ hk_ => hk_.1)); have n1_ := a_ (Kd.R_reok rfl hy0 (fun k_ e_ => HO_12.out.1 k_ e_)); have n2_ := a_ (hb); clear HO_8; clear HO_12; clear HB; have HO_8 := n0_; have HO_12 := n1_; have HB := n2_; clear n0_ n1_ n2_; (try clear hb); (try clear hkp); (try clear hy0)) | ((with_reducible refine gate_callee (f := 20) rfl ?_); refine goesL_ (some 90) rfl rfl Try.func20 (by kernel_rfl) rfl #[.slice Ao65 t307.length co65, .int .i64 1] rfl (by (try simp only [List.map_toArray, List.map_cons, List.map_nil]); first | done | (rw [show t307.length = t288.length from (Kd.R_reads' HO_12.out).1.symm] <;> rfl) | rfl | (simp only [List.length_drop, List.length_take]; rfl)) ?_; (with_reducible refine (laws_heldFloat64S.calls kj38 _ _ t307 1 t308 _ ?side1 ?side2 A56.out).mono ?_); (case side1 => repeat (first | exact (Kd.R_reads' HO_12.out).2.2 | (with_reducible refine Kd.C_alloc ?_ _) | (with_reducible refine Kd.C_drewN ?_ _) | (with_reducible refine Kd.C_drew ?_))); (case side2 => rw [show t307.length = t288.length from (Kd.R_reads' HO_12.out).1.symm]; exact (Kd.R_reads' HO_12.out).2.1); rintro e w' ⟨rfl, ⟨nd, rfl⟩⟩; refine ⟨_, rfl, ?_⟩) | ((with_reducible refine gate_callee (f := 11) rfl ?_); refine goesL_ (some 99) rfl rfl Try.func11 (by kernel_rfl) rfl #[.slice A1 l1.length c1] rfl la_ ?_; (with_reducible refine (laws_toCallS.calls kj38 _ _ l1 t309 _ ?side1 ?side2 A61.out).mono ?_); (case side1 => repeat (first | exact (Kd.C_below HR1.out b_) | (with_reducible refine Kd.C_alloc ?_ _) | (with_reducible refine Kd.C_drewN ?_ _) | (with_reducible refine Kd.C_drew ?_))); (case side2 => exact HC1.out); rintro e w67 ⟨v310, rfl, ho0, hb⟩; refine ⟨_, rfl, ?_⟩; have n0_ := a_ (Kd.R_below (r_ HO_8.out) hb); have n1_ := a_ (Kd.R_below (r_ HO_12.out) hb); have n2_ := a_ (Kd.R_lower ho0 (below_size b_)); have n3_ := a_ (below_step b_ hb); clear HO_8; clear HO_12; clear HB; have HO_8 := n0_; have HO_12 := n1_; have HO311 := n2_; have HB := n3_; clear n0_ n1_ n2_ n3_; (try clear hb); (try clear hb2); (try clear hk); (try clear hi); (try clear ho0)) | ((with_reducible refine gate_callee (f := 12) rfl ?_); refine goesL_ (some 101) rfl rfl Try.func12 (by kernel_rfl) rfl #[.slice A2 l2.length c2] rfl la_ ?_; (with_reducible refine (laws_toIntS.calls kj38 _ _ l2 t312 _ ?side1 ?side2 A62.out).mono ?_); (case side1 => repeat (first | exact (Kd.C_below HR2.out HB.out) | (with_reducible refine Kd.C_alloc ?_ _) | (with_reducible refine Kd.C_drewN ?_ _) | (with_reducible refine Kd.C_drew ?_))); (case side2 => exact HC2.out); rintro e w68 ⟨v313, rfl, ho0, hb⟩; refine ⟨_, rfl, ?_⟩; have n0_ := a_ (Kd.R_below (r_ HO_8.out) hb); have n1_ := a_ (Kd.R_below (r_ HO_12.out) hb); have n2_ := a_ (Kd.R_below (r_ HO311.out) hb); have n3_ := a_ (Kd.R_lower ho0 (below_size b_)); have n4_ := a_ (below_step b_ hb); clear HO_8; clear HO_12; clear HO311; clear HB; have HO_8 := n0_; have HO_12 := n1_; have HO311 := n2_; have HO314 := n3_; have HB := n4_; clear n0_ n1_ n2_ n3_ n4_; (try clear hb); (try clear hb2); (try clear hk); (try clear hi); (try clear ho0); obtain ⟨Ao69, co69, eo69⟩ := Kd.R_slice HO311.out; subst eo69; obtain ⟨Ao70, co70, eo70⟩ := Kd.R_slice HO314.out; subst eo70) | ((with_reducible refine gate_callee (f := 13) rfl ?_); refine goesL_ (some 102) rfl rfl Try.func13 (by kernel_rfl) rfl #[.int .i64 a0, .slice Ao69 t309.length co69, .slice Ao70 t312.length co70] rfl la_ ?_; (with_reducible refine (impl_PlayObject.calls kj38 a0 _ _ t309 _ _ t312 t315 t316 _ ?side1 ?side2 ?side3 ?side4 A63.out).mono ?_); (case side1 => repeat (first | exact (Kd.R_reads' HO311.out).2.2 | (with_reducible refine Kd.C_alloc ?_ _) | (with_reducible refine Kd.C_drewN ?_ _) | (with_reducible refine Kd.C_drew ?_))); (case side2 => exact (Kd.R_reads' HO311.out).2.1); (case side3 => repeat (first | exact (Kd.R_reads' HO314.out).2.2 | (with_reducible refine Kd.C_alloc ?_ _) | (with_reducible refine Kd.C_drewN ?_ _) | (with_reducible refine Kd.C_drew ?_))); (case side4 => exact (Kd.R_reads' HO314.out).2.1); rintro e w71 ⟨v317, rfl, ho0, hb⟩; refine ⟨_, rfl, ?_⟩; have n0_ := a_ (Kd.R_elder' (r_ HO_8.out) (by first | exact Kd.R_base ho0 | exact Kd.S_base ho0 | exact Kd.R_base ho0) hb); have n1_ := a_ (Kd.R_elder' (r_ HO_12.out) (by first | exact Kd.R_base ho0 | exact Kd.S_base ho0 | exact Kd.R_base ho0) hb); have n2_ := a_ (Kd.R_below (r_ HO311.out) hb); have n3_ := a_ (Kd.R_below (r_ HO314.out) hb); have n4_ := a_ (Kd.R_lower (Kd.R_new' (Kd.R_new' ho0 (Kd.R_lt (r_ HO_8.out))) (Kd.R_lt (r_ HO_12.out))) (below_size b_)); have n5_ := a_ (below_step b_ hb); clear HO_8; clear HO_12; clear HO311; clear HO314; clear HB; have HO_8 := n0_; have HO_12 := n1_; have HO311 := n2_; have HO314 := n3_; have HO318 := n4_; have HB := n5_; clear n0_ n1_ n2_ n3_ n4_ n5_; (try clear hb); (try clear hb2); (try clear hk); (try clear hi); (try clear ho0)))
                          (try simp only [Act.put, List.setIfInBounds_toArray, List.set_cons_zero, List.set_cons_succ])
                          go_cut [113] (fun v113 wc => ∃ (kq : Nat) (x113_63 : Bool), v113 = .bool x113_63 ∧ Aside0 (laws_FnExactPlayObject.j2 kq t307 t306 x113_63 = some r) ∧ Aside0 (kq ≤ kj38) ∧ Aside0 (Kd.R Kd.float 55 wc w.heap.size (fun _ => True) (.slice Ao65 t288.length co65) t307) ∧ Aside0 (Below w.heap.size w wc))
                          case first =>
                            have H := HC64.out; clear HC64
                            replace H := Option.bind_eq_some_iff.mp H
                            obtain ⟨t319, A720, H⟩ := H
                            replace H : (if t319 = true then (laws_FnExactPlayObject.j2 kj38 t307 t306 (t316 != t279)) else (laws_FnExactPlayObject.j2 kj38 t307 t306 true)) = some r := H
                            have A72 := a_ A720; clear A720
                            by_cases c73 : t319 = true
                            · subst c73
                              have H1 : (laws_FnExactPlayObject.j2 kj38 t307 t306 (t316 != t279)) = some r := by rw [if_pos rfl] at H; exact H
                              clear H; have H := H1; clear H1
                              have H' := a_ H
                              clear H
                              obtain ⟨Ao74, co74, eo74⟩ := Kd.R_slice HO318.out
                              subst eo74
                              obtain ⟨Ao75, co75, eo75⟩ := Kd.R_slice HO_8.out
                              subst eo75
                              go_wp2_with (first | ((with_reducible refine gate_callee (f := 14) rfl ?_); refine goesL_ (some 107) rfl rfl Try.func14 (by kernel_rfl) rfl #[.slice Ao74 t315.length co74, .slice Ao75 t278.length co75] rfl la_ ?_; (with_reducible refine (laws_eqFloat64S.calls kj38 _ _ t315 _ _ t278 true _ ?side1 ?side2 ?side3 ?side4 A72.out).mono ?_); (case side1 => repeat (first | exact (Kd.R_reads' HO318.out).2.2 | (with_reducible refine Kd.C_alloc ?_ _) | (with_reducible refine Kd.C_drewN ?_ _) | (with_reducible refine Kd.C_drew ?_))); (case side2 => exact (Kd.R_reads' HO318.out).2.1); (case side3 => repeat (first | exact (Kd.R_reads' HO_8.out).2.2 | (with_reducible refine Kd.C_alloc ?_ _) | (with_reducible refine Kd.C_drewN ?_ _) | (with_reducible refine Kd.C_drew ?_))); (case side4 => exact (Kd.R_reads' HO_8.out).2.1); rintro e w' ⟨rfl, ⟨nd, rfl⟩⟩; refine ⟨_, rfl, ?_⟩))
                              go_meet
                              case rel => exact ⟨_, ((t316 != t279)), (by first | rfl | (simp; done) | (simp [*]; done)), H', ⟨by have := HJ12.out; have := HJ38.out; first | omega | exact Nat.le_refl _⟩, ⟨by refine r_ ?_; exact Kd.R_mono HO_12.out (fun _ hk => trivial)⟩, ⟨b_⟩⟩
                            · replace c73 := Bool.eq_false_iff.mpr c73
                              subst c73
                              have H1 : (laws_FnExactPlayObject.j2 kj38 t307 t306 true) = some r := by rw [if_neg (show ¬ (false = true) by decide)] at H; exact H
                              clear H; have H := H1; clear H1
                              have H' := a_ H
                              clear H
                              obtain ⟨Ao76, co76, eo76⟩ := Kd.R_slice HO318.out
                              subst eo76
                              obtain ⟨Ao77, co77, eo77⟩ := Kd.R_slice HO_8.out
                              subst eo77
                              go_wp2_with (first | ((with_reducible refine gate_callee (f := 14) rfl ?_); refine goesL_ (some 107) rfl rfl Try.func14 (by kernel_rfl) rfl #[.slice Ao76 t315.length co76, .slice Ao77 t278.length co77] rfl la_ ?_; (with_reducible refine (laws_eqFloat64S.calls kj38 _ _ t315 _ _ t278 false _ ?side1 ?side2 ?side3 ?side4 A72.out).mono ?_); (case side1 => repeat (first | exact (Kd.R_reads' HO318.out).2.2 | (with_reducible refine Kd.C_alloc ?_ _) | (with_reducible refine Kd.C_drewN ?_ _) | (with_reducible refine Kd.C_drew ?_))); (case side2 => exact (Kd.R_reads' HO318.out).2.1); (case side3 => repeat (first | exact (Kd.R_reads' HO_8.out).2.2 | (with_reducible refine Kd.C_alloc ?_ _) | (with_reducible refine Kd.C_drewN ?_ _) | (with_reducible refine Kd.C_drew ?_))); (case side4 => exact (Kd.R_reads' HO_8.out).2.1); rintro e w' ⟨rfl, ⟨nd, rfl⟩⟩; refine ⟨_, rfl, ?_⟩))
                              go_meet
                              case rel => exact ⟨_, (true), (by first | rfl | (simp; done) | (simp [*]; done)), H', ⟨by have := HJ12.out; have := HJ38.out; first | omega | exact Nat.le_refl _⟩, ⟨by refine r_ ?_; exact Kd.R_mono HO_12.out (fun _ hk => trivial)⟩, ⟨b_⟩⟩
                          case rest =>
                            clear HC64; (try clear c1); (try clear c2); (try clear p2); (try clear c3); (try clear c4); (try clear c4b0); (try clear c4b1); (try clear c5); (try clear c6); (try clear c6b0); (try clear c7); (try clear c9); (try clear c10); (try clear c11); (try clear c12); (try clear c13); (try clear c14); (try clear c15); (try clear c16); (try clear c17); (try clear c18); (try clear c19); (try clear c20); (try clear c25); (try clear c30); (try clear c33); (try clear c36); (try clear c47); (try clear c47b0); (try clear c49); (try clear c54); (try clear c57); (try clear c57b0); (try clear c60); (try clear c60b0); (try clear c60b1); (try clear c73); (try clear p2)
                            obtain ⟨kq, x113_63, rfl, HA, HJ63, HO_12, HB⟩ := hcut
                            have hl12_63 := (Kd.R_reads' HO_12.out).1
                            rw [hl12_63] at HO_12
                            (try simp only [hl12_63])
                            cases kq with
                            | zero => exact absurd HA.out (by simp [laws_FnExactPlayObject.j2])
                            | succ kj63 =>
                              have H := HA.out; clear HA
                              simp only [laws_FnExactPlayObject.j2] at H
                              by_cases c78 : x113_63 = true
                              · subst c78
                                have H1 : (some false) = some r := by rw [if_pos rfl] at H; exact H
                                clear H; have H := H1; clear H1
                                obtain rfl := Option.some.inj H
                                go_wp2
                                go_ret
                                exact ⟨by first | rfl | (simp [errW_none, errW_some] <;> rfl) | (simp [*, errW_none, errW_some] <;> rfl), b_⟩
                              · replace c78 := Bool.eq_false_iff.mpr c78
                                subst c78
                                have H1 : ((laws_heldFloat64S.f kj63 t307 1).bind fun t320 => (if t320 < 0 then (some false) else (if t320 = t306 then (some true) else (some false)))) = some r := by rw [if_neg (show ¬ (false = true) by decide)] at H; exact H
                                clear H; have H := H1; clear H1
                                replace H := Option.bind_eq_some_iff.mp H
                                obtain ⟨t320, A790, H⟩ := H
                                replace H : (if t320 < 0 then (some false) else (if t320 = t306 then (some true) else (some false))) = some r := H
                                have A79 := a_ A790; clear A790
                                by_cases c80 : t320 < 0
                                · rw [if_pos c80] at H
                                  have c80b0 : decide (t320 < 0) = true := decide_eq_true c80
                                  clear c80
                                  obtain rfl := Option.some.inj H
                                  go_wp2_with (first | ((with_reducible refine gate_callee (f := 20) rfl ?_); refine goesL_ (some 116) rfl rfl Try.func20 (by kernel_rfl) rfl #[.slice Ao65 t307.length co65, .int .i64 1] rfl la_ ?_; (with_reducible refine (laws_heldFloat64S.calls kj63 _ _ t307 1 t320 _ ?side1 ?side2 A79.out).mono ?_); (case side1 => repeat (first | exact (Kd.R_reads' HO_12.out).2.2 | (with_reducible refine Kd.C_alloc ?_ _) | (with_reducible refine Kd.C_drewN ?_ _) | (with_reducible refine Kd.C_drew ?_))); (case side2 => exact (Kd.R_reads' HO_12.out).2.1); rintro e w' ⟨rfl, ⟨nd, rfl⟩⟩; refine ⟨_, rfl, ?_⟩))
                                  go_ret
                                  exact ⟨by first | rfl | (simp [errW_none, errW_some] <;> rfl) | (simp [*, errW_none, errW_some] <;> rfl), b_⟩
                                · rw [if_neg c80] at H
                                  have c80b0 : decide (t320 < 0) = false := decide_eq_false c80
                                  clear c80
                                  by_cases c81 : t320 = t306
                                  · rw [if_pos c81] at H
                                    have c81b0 : (t320 == t306) = true := beq_iff_eq.mpr c81
                                    have c81b1 : (t320 != t306) = false := bne_eq_false_iff_eq.mpr c81
                                    clear c81
                                    obtain rfl := Option.some.inj H
                                    go_wp2_with (first | ((with_reducible refine gate_callee (f := 20) rfl ?_); refine goesL_ (some 116) rfl rfl Try.func20 (by kernel_rfl) rfl #[.slice Ao65 t307.length co65, .int .i64 1] rfl la_ ?_; (with_reducible refine (laws_heldFloat64S.calls kj63 _ _ t307 1 t320 _ ?side1 ?side2 A79.out).mono ?_); (case side1 => repeat (first | exact (Kd.R_reads' HO_12.out).2.2 | (with_reducible refine Kd.C_alloc ?_ _) | (with_reducible refine Kd.C_drewN ?_ _) | (with_reducible refine Kd.C_drew ?_))); (case side2 => exact (Kd.R_reads' HO_12.out).2.1); rintro e w' ⟨rfl, ⟨nd, rfl⟩⟩; refine ⟨_, rfl, ?_⟩))
                                    go_ret
                                    exact ⟨by first | rfl | (simp [errW_none, errW_some] <;> rfl) | (simp [*, errW_none, errW_some] <;> rfl), b_⟩
                                  · rw [if_neg c81] at H
                                    have c81b0 : (t320 == t306) = false := beq_eq_false_iff_ne.mpr c81
                                    have c81b1 : (t320 != t306) = true := bne_iff_ne.mpr c81
                                    obtain rfl := Option.some.inj H
                                    go_wp2_with (first | ((with_reducible refine gate_callee (f := 20) rfl ?_); refine goesL_ (some 116) rfl rfl Try.func20 (by kernel_rfl) rfl #[.slice Ao65 t307.length co65, .int .i64 1] rfl la_ ?_; (with_reducible refine (laws_heldFloat64S.calls kj63 _ _ t307 1 t320 _ ?side1 ?side2 A79.out).mono ?_); (case side1 => repeat (first | exact (Kd.R_reads' HO_12.out).2.2 | (with_reducible refine Kd.C_alloc ?_ _) | (with_reducible refine Kd.C_drewN ?_ _) | (with_reducible refine Kd.C_drew ?_))); (case side2 => exact (Kd.R_reads' HO_12.out).2.1); rintro e w' ⟨rfl, ⟨nd, rfl⟩⟩; refine ⟨_, rfl, ?_⟩))
                                    go_ret
                                    exact ⟨by first | rfl | (simp [errW_none, errW_some] <;> rfl) | (simp [*, errW_none, errW_some] <;> rfl), b_⟩
                        · rw [if_neg c60] at H
                          have c60b0 : (t308 == t306) = false := beq_eq_false_iff_ne.mpr c60
                          have c60b1 : (t308 != t306) = true := bne_iff_ne.mpr c60
                          obtain rfl := Option.some.inj H
                          obtain ⟨Ao82, co82, eo82⟩ := Kd.R_slice HO_12.out
                          subst eo82
                          go_wp2_with (first | ((with_reducible refine gate_callee (f := 19) rfl ?_); refine goesL_ (some 87) rfl rfl Try.func19 (by kernel_rfl) rfl #[.slice Ao82 t288.length co82, .int .i64 1] rfl la_ ?_; (with_reducible refine (laws_markFloat64S.calls kj38 (fun k_ => some k_ = (.slice Ao82 t288.length co82 : Value).ownBlock) (.slice Ao82 t288.length co82) t288 1 t306 t307 w _ ?side1 ?side2 A55.out).mono ?_); (case side1 => exact b_); (case side2 => exact Kd.R_tight rfl HO_12.out); rintro e w83 ⟨rfl, hy0, hb, hkp⟩; refine ⟨_, rfl, ?_⟩; have n0_ := a_ (Kd.R_mono (ok' := fun k_ => some k_ ≠ (.slice Ao82 t288.length co82 : Value).ownBlock) (Kd.R_keptB (HO_8.out) hkp (fun k_ hk_ hs_ => (hk_) hs_)) (fun k_ hk_ => hk_.1)); have n1_ := a_ (Kd.R_reok rfl hy0 (fun k_ e_ => HO_12.out.1 k_ e_)); have n2_ := a_ (hb); clear HO_8; clear HO_12; clear HB; have HO_8 := n0_; have HO_12 := n1_; have HB := n2_; clear n0_ n1_ n2_; (try clear hb); (try clear hkp); (try clear hy0)) | ((with_reducible refine gate_callee (f := 20) rfl ?_); refine goesL_ (some 90) rfl rfl Try.func20 (by kernel_rfl) rfl #[.slice Ao82 t307.length co82, .int .i64 1] rfl (by (try simp only [List.map_toArray, List.map_cons, List.map_nil]); first | done | (rw [show t307.length = t288.length from (Kd.R_reads' HO_12.out).1.symm] <;> rfl) | rfl | (simp only [List.length_drop, List.length_take]; rfl)) ?_; (with_reducible refine (laws_heldFloat64S.calls kj38 _ _ t307 1 t308 _ ?side1 ?side2 A56.out).mono ?_); (case side1 => repeat (first | exact (Kd.R_reads' HO_12.out).2.2 | (with_reducible refine Kd.C_alloc ?_ _) | (with_reducible refine Kd.C_drewN ?_ _) | (with_reducible refine Kd.C_drew ?_))); (case side2 => rw [show t307.length = t288.length from (Kd.R_reads' HO_12.out).1.symm]; exact (Kd.R_reads' HO_12.out).2.1); rintro e w' ⟨rfl, ⟨nd, rfl⟩⟩; refine ⟨_, rfl, ?_⟩))
                          go_ret
                          exact ⟨by first | rfl | (simp [errW_none, errW_some] <;> rfl) | (simp [*, errW_none, errW_some] <;> rfl), b_⟩
              · replace c36 := Bool.eq_false_iff.mpr c36
                subst c36
                have H1 : (some false) = some r := by rw [if_neg (show ¬ (false = true) by decide)] at H; exact H
                clear H; have H := H1; clear H1
                obtain rfl := Option.some.inj H
                go_wp2_with (first | ((with_reducible refine gate_callee (f := 11) rfl ?_); refine goesL_ (some 58) rfl rfl Try.func11 (by kernel_rfl) rfl #[.slice A1 l1.length c1] rfl la_ ?_; (with_reducible refine (laws_toCallS.calls kj12 _ _ l1 t293 _ ?side1 ?side2 A31.out).mono ?_); (case side1 => repeat (first | exact (Kd.C_below HR1.out HB.out) | (with_reducible refine Kd.C_alloc ?_ _) | (with_reducible refine Kd.C_drewN ?_ _) | (with_reducible refine Kd.C_drew ?_))); (case side2 => exact HC1.out); rintro e w84 ⟨v294, rfl, ho0, hb⟩; refine ⟨_, rfl, ?_⟩; have n0_ := a_ (Kd.R_below (r_ HO_8.out) hb); have n1_ := a_ (Kd.R_elder' (r_ HO_10.out) (by first | exact Kd.R_base ho0 | exact Kd.S_base ho0 | exact Kd.R_base ho0) hb); have n2_ := a_ (Kd.R_below (r_ HO_11.out) hb); have n3_ := a_ (Kd.R_below (r_ HO_12.out) hb); have n4_ := a_ (Kd.R_lower (Kd.R_new' ho0 (Kd.R_lt (r_ HO_10.out))) (below_size b_)); have n5_ := a_ (below_step b_ hb); clear HO_8; clear HO_10; clear HO_11; clear HO_12; clear HB; have HO_8 := n0_; have HO_10 := n1_; have HO_11 := n2_; have HO_12 := n3_; have HO295 := n4_; have HB := n5_; clear n0_ n1_ n2_ n3_ n4_ n5_; (try clear hb); (try clear hb2); (try clear hk); (try clear hi); (try clear ho0); obtain ⟨Ao85, co85, eo85⟩ := Kd.R_slice HO295.out; subst eo85) | ((with_reducible refine gate_callee (f := 15) rfl ?_); refine goesL_ (some 59) rfl rfl Try.func15 (by kernel_rfl) rfl #[.slice Ao21 t282.length co21, .slice Ao85 t293.length co85] rfl la_ ?_; (with_reducible refine (laws_eqCallS.calls kj12 _ _ t282 _ _ t293 true _ ?side1 ?side2 ?side3 ?side4 A32.out).mono ?_); (case side1 => repeat (first | exact (Kd.R_reads' HO_10.out).2.2 | (with_reducible refine Kd.C_alloc ?_ _) | (with_reducible refine Kd.C_drewN ?_ _) | (with_reducible refine Kd.C_drew ?_))); (case side2 => exact (Kd.R_reads' HO_10.out).2.1); (case side3 => repeat (first | exact (Kd.R_reads' HO295.out).2.2 | (with_reducible refine Kd.C_alloc ?_ _) | (with_reducible refine Kd.C_drewN ?_ _) | (with_reducible refine Kd.C_drew ?_))); (case side4 => exact (Kd.R_reads' HO295.out).2.1); rintro e w86 ⟨rfl, hb⟩; refine ⟨_, rfl, ?_⟩; have n0_ := a_ (Kd.R_below (r_ HO_8.out) hb); have n1_ := a_ (Kd.R_below (r_ HO_10.out) hb); have n2_ := a_ (Kd.R_below (r_ HO_11.out) hb); have n3_ := a_ (Kd.R_below (r_ HO_12.out) hb); have n4_ := a_ (Kd.R_below (r_ HO295.out) hb); have n5_ := a_ (below_step b_ hb); clear HO_8; clear HO_10; clear HO_11; clear HO_12; clear HO295; clear HB; have HO_8 := n0_; have HO_10 := n1_; have HO_11 := n2_; have HO_12 := n3_; have HO295 := n4_; have HB := n5_; clear n0_ n1_ n2_ n3_ n4_ n5_; (try clear hb); (try clear hb2); (try clear hk); (try clear hi)) | ((with_reducible refine gate_callee (f := 12) rfl ?_); refine goesL_ (some 63) rfl rfl Try.func12 (by kernel_rfl) rfl #[.slice A2 l2.length c2] rfl la_ ?_; (with_reducible refine (laws_toIntS.calls kj12 _ _ l2 t297 _ ?side1 ?side2 A34.out).mono ?_); (case side1 => repeat (first | exact (Kd.C_below HR2.out HB.out) | (with_reducible refine Kd.C_alloc ?_ _) | (with_reducible refine Kd.C_drewN ?_ _) | (with_reducible refine Kd.C_drew ?_))); (case side2 => exact HC2.out); rintro e w87 ⟨v298, rfl, ho0, hb⟩; refine ⟨_, rfl, ?_⟩; have n0_ := a_ (Kd.R_below (r_ HO_8.out) hb); have n1_ := a_ (Kd.R_below (r_ HO_10.out) hb); have n2_ := a_ (Kd.R_elder' (r_ HO_11.out) (by first | exact Kd.R_base ho0 | exact Kd.S_base ho0 | exact Kd.R_base ho0) hb); have n3_ := a_ (Kd.R_below (r_ HO_12.out) hb); have n4_ := a_ (Kd.R_below (r_ HO295.out) hb); have n5_ := a_ (Kd.R_lower (Kd.R_new' ho0 (Kd.R_lt (r_ HO_11.out))) (below_size b_)); have n6_ := a_ (below_step b_ hb); clear HO_8; clear HO_10; clear HO_11; clear HO_12; clear HO295; clear HB; have HO_8 := n0_; have HO_10 := n1_; have HO_11 := n2_; have HO_12 := n3_; have HO295 := n4_; have HO299 := n5_; have HB := n6_; clear n0_ n1_ n2_ n3_ n4_ n5_ n6_; (try clear hb); (try clear hb2); (try clear hk); (try clear hi); (try clear ho0); obtain ⟨Ao88, co88, eo88⟩ := Kd.R_slice HO299.out; subst eo88) | ((with_reducible refine gate_callee (f := 16) rfl ?_); refine goesL_ (some 64) rfl rfl Try.func16 (by kernel_rfl) rfl #[.slice Ao22 t285.length co22, .slice Ao88 t297.length co88] rfl la_ ?_; (with_reducible refine (laws_eqIntS.calls kj12 _ _ t285 _ _ t297 false _ ?side1 ?side2 ?side3 ?side4 A35.out).mono ?_); (case side1 => repeat (first | exact (Kd.R_reads' HO_11.out).2.2 | (with_reducible refine Kd.C_alloc ?_ _) | (with_reducible refine Kd.C_drewN ?_ _) | (with_reducible refine Kd.C_drew ?_))); (case side2 => exact (Kd.R_reads' HO_11.out).2.1); (case side3 => repeat (first | exact (Kd.R_reads' HO299.out).2.2 | (with_reducible refine Kd.C_alloc ?_ _) | (with_reducible refine Kd.C_drewN ?_ _) | (with_reducible refine Kd.C_drew ?_))); (case side4 => exact (Kd.R_reads' HO299.out).2.1); rintro e w' ⟨rfl, ⟨nd, rfl⟩⟩; refine ⟨_, rfl, ?_⟩))
                go_ret
                exact ⟨by first | rfl | (simp [errW_none, errW_some] <;> rfl) | (simp [*, errW_none, errW_some] <;> rfl), b_⟩
            · replace c33 := Bool.eq_false_iff.mpr c33
              subst c33
              have H1 : (some false) = some r := by rw [if_neg (show ¬ (false = true) by decide)] at H; exact H
              clear H; have H := H1; clear H1
              obtain rfl := Option.some.inj H
              go_wp2_with (first | ((with_reducible refine gate_callee (f := 11) rfl ?_); refine goesL_ (some 58) rfl rfl Try.func11 (by kernel_rfl) rfl #[.slice A1 l1.length c1] rfl la_ ?_; (with_reducible refine (laws_toCallS.calls kj12 _ _ l1 t293 _ ?side1 ?side2 A31.out).mono ?_); (case side1 => repeat (first | exact (Kd.C_below HR1.out HB.out) | (with_reducible refine Kd.C_alloc ?_ _) | (with_reducible refine Kd.C_drewN ?_ _) | (with_reducible refine Kd.C_drew ?_))); (case side2 => exact HC1.out); rintro e w89 ⟨v294, rfl, ho0, hb⟩; refine ⟨_, rfl, ?_⟩; have n0_ := a_ (Kd.R_below (r_ HO_8.out) hb); have n1_ := a_ (Kd.R_elder' (r_ HO_10.out) (by first | exact Kd.R_base ho0 | exact Kd.S_base ho0 | exact Kd.R_base ho0) hb); have n2_ := a_ (Kd.R_below (r_ HO_11.out) hb); have n3_ := a_ (Kd.R_below (r_ HO_12.out) hb); have n4_ := a_ (Kd.R_lower (Kd.R_new' ho0 (Kd.R_lt (r_ HO_10.out))) (below_size b_)); have n5_ := a_ (below_step b_ hb); clear HO_8; clear HO_10; clear HO_11; clear HO_12; clear HB; have HO_8 := n0_; have HO_10 := n1_; have HO_11 := n2_; have HO_12 := n3_; have HO295 := n4_; have HB := n5_; clear n0_ n1_ n2_ n3_ n4_ n5_; (try clear hb); (try clear hb2); (try clear hk); (try clear hi); (try clear ho0); obtain ⟨Ao90, co90, eo90⟩ := Kd.R_slice HO295.out; subst eo90) | ((with_reducible refine gate_callee (f := 15) rfl ?_); refine goesL_ (some 59) rfl rfl Try.func15 (by kernel_rfl) rfl #[.slice Ao21 t282.length co21, .slice Ao90 t293.length co90] rfl la_ ?_; (with_reducible refine (laws_eqCallS.calls kj12 _ _ t282 _ _ t293 false _ ?side1 ?side2 ?side3 ?side4 A32.out).mono ?_); (case side1 => repeat (first | exact (Kd.R_reads' HO_10.out).2.2 | (with_reducible refine Kd.C_alloc ?_ _) | (with_reducible refine Kd.C_drewN ?_ _) | (with_reducible refine Kd.C_drew ?_))); (case side2 => exact (Kd.R_reads' HO_10.out).2.1); (case side3 => repeat (first | exact (Kd.R_reads' HO295.out).2.2 | (with_reducible refine Kd.C_alloc ?_ _) | (with_reducible refine Kd.C_drewN ?_ _) | (with_reducible refine Kd.C_drew ?_))); (case side4 => exact (Kd.R_reads' HO295.out).2.1); rintro e w91 ⟨rfl, hb⟩; refine ⟨_, rfl, ?_⟩; have n0_ := a_ (Kd.R_below (r_ HO_8.out) hb); have n1_ := a_ (Kd.R_below (r_ HO_10.out) hb); have n2_ := a_ (Kd.R_below (r_ HO_11.out) hb); have n3_ := a_ (Kd.R_below (r_ HO_12.out) hb); have n4_ := a_ (Kd.R_below (r_ HO295.out) hb); have n5_ := a_ (below_step b_ hb); clear HO_8; clear HO_10; clear HO_11; clear HO_12; clear HO295; clear HB; have HO_8 := n0_; have HO_10 := n1_; have HO_11 := n2_; have HO_12 := n3_; have HO295 := n4_; have HB := n5_; clear n0_ n1_ n2_ n3_ n4_ n5_; (try clear hb); (try clear hb2); (try clear hk); (try clear hi)))
              go_ret
              exact ⟨by first | rfl | (simp [errW_none, errW_some] <;> rfl) | (simp [*, errW_none, errW_some] <;> rfl), b_⟩

end Go.Proofs.Ythdpiceiemkjlaa.GPlayObject

-- Printed by wip/tools/print2.py out of the translation: walks and plain functions; Lean checks them.
import Derived.Test.YtpfbiopcfbokbaaGNewPairsx0
import Derived.Test.YtpfbiopcfbokbaaGNewPairsx2
import Derived.Test.YtpfbiopcfbokbaaGNewPairsx5
import Derived.Test.YtpfbiopcfbokbaaGNewPairsx7
import Derived.Test.YtpfbiopcfbokbaaGNewPairsx8
namespace Go.Proofs.Ytpfbiopcfbokbaa.GNewPairs
open Go.RowKit Go.Proofs.YtpfbiopcfbokbaaW.PrintWords Go.Proofs.YtpfbiopcfbokbaaW.PrintLast Go.Proofs.YtpfbiopcfbokbaaW.PrintMore
attribute [local go_sem] max2_int min2_int max_two min_two max_three min_three max_four min_four   -- for this text's walks alone
set_option linter.unusedVariables false
set_option linter.unusedSimpArgs false

/-! ### laws_FnExactNewPairs: function 6 -/
mutual
def laws_FnExactNewPairs.j0 : Nat → List (S107) → List (S107) → List (S105) → Bool → List (S105) → List (S105) → List (S105) → Bool → Bool → Option (Bool)
  | 0, _, _, _, _, _, _, _, _, _ => none
  | k + 1, x0, x1, x6, x7, x8, x9, x10, x11, x53 => if x53 = true then (some false) else ((laws_toPairS.f k x0).bind fun t221 => ((laws_eqPairS.f k x8 t221).bind fun t224 => (if t224 = true then ((laws_toPairS.f k x1).bind fun t225 => ((laws_eqPairS.f k x9 t225).bind fun t228 => (if t228 = true then ((laws_markPairS.f k x8 1).bind fun bt229 => ((laws_markPairS.f k x9 bt229.1).bind fun bt231 => (if bt231.1 < 0 then (laws_FnExactNewPairs.j1 k x0 x1 x6 x7 x10 true) else ((laws_eqPairS.f k x10 x6).bind fun t233 => (if t233 = true then (laws_FnExactNewPairs.j1 k x0 x1 x6 x7 x10 (x11 != x7)) else (laws_FnExactNewPairs.j1 k x0 x1 x6 x7 x10 true)))))) else (some false)))) else (some false))))
def laws_FnExactNewPairs.j1 : Nat → List (S107) → List (S107) → List (S105) → Bool → List (S105) → Bool → Option (Bool)
  | 0, _, _, _, _, _, _ => none
  | k + 1, x0, x1, x6, x7, x10, x82 => if x82 = true then (some false) else ((laws_markPairS.f k x10 1).bind fun bt234 => ((laws_heldPairS.f k bt234.2 1).bind fun t236 => (if t236 < 0 then (some false) else (if t236 = bt234.1 then ((laws_toPairS.f k x0).bind fun t237 => ((laws_toPairS.f k x1).bind fun t240 => ((impl_NewPairs.f k t237 t240).bind fun bt243 => ((laws_eqPairS.f k bt243.1 x6).bind fun t247 => (if t247 = true then (laws_FnExactNewPairs.j2 k bt234.2 bt234.1 (bt243.2 != x7)) else (laws_FnExactNewPairs.j2 k bt234.2 bt234.1 true)))))) else (some false)))))
def laws_FnExactNewPairs.j2 : Nat → List (S105) → Int → Bool → Option (Bool)
  | 0, _, _, _ => none
  | k + 1, x10, x13, x110 => if x110 = true then (some false) else ((laws_heldPairS.f k x10 1).bind fun t248 => (if t248 < 0 then (some false) else (if t248 = x13 then (some true) else (some false))))
end
def laws_FnExactNewPairs.f (k : Nat) (l0 : List (S107)) (l1 : List (S107)) : Option (Bool) := (laws_szPairS.f l0 1048576).bind fun t198 => (if t198 < 0 then (some true) else ((laws_szPairS.f l1 t198).bind fun t199 => (if t199 < 0 then (some true) else ((laws_toPairS.f k l0).bind fun t200 => ((laws_toPairS.f k l1).bind fun t203 => ((spec_NewPairs.f k t200 t203).bind fun bt206 => ((laws_toPairS.f k l0).bind fun t210 => ((laws_toPairS.f k l1).bind fun t213 => ((impl_NewPairs.f k t210 t213).bind fun bt216 => ((laws_eqPairS.f k bt216.1 bt206.1).bind fun t220 => (if t220 = true then (laws_FnExactNewPairs.j0 k l0 l1 bt206.1 bt206.2 t210 t213 bt216.1 bt216.2 (bt216.2 != bt206.2)) else (laws_FnExactNewPairs.j0 k l0 l1 bt206.1 bt206.2 t210 t213 bt216.1 bt216.2 true))))))))))))
theorem laws_FnExactNewPairs.mono_l : ∀ k, (∀ y0 y1 y2 y3 y4 y5 y6 y7 y8, LeO (laws_FnExactNewPairs.j0 k y0 y1 y2 y3 y4 y5 y6 y7 y8) (laws_FnExactNewPairs.j0 (k + 1) y0 y1 y2 y3 y4 y5 y6 y7 y8)) ∧ (∀ y0 y1 y2 y3 y4 y5, LeO (laws_FnExactNewPairs.j1 k y0 y1 y2 y3 y4 y5) (laws_FnExactNewPairs.j1 (k + 1) y0 y1 y2 y3 y4 y5)) ∧ (∀ y0 y1 y2, LeO (laws_FnExactNewPairs.j2 k y0 y1 y2) (laws_FnExactNewPairs.j2 (k + 1) y0 y1 y2))
  | 0 => ⟨fun _ _ _ _ _ _ _ _ _ r h => by simp [laws_FnExactNewPairs.j0] at h, fun _ _ _ _ _ _ r h => by simp [laws_FnExactNewPairs.j1] at h, fun _ _ _ r h => by simp [laws_FnExactNewPairs.j2] at h⟩
  | k + 1 => by
    obtain ⟨ih0, ih1, ih2⟩ := laws_FnExactNewPairs.mono_l k
    refine ⟨?_, ?_, ?_⟩
    · intro y0 y1 y2 y3 y4 y5 y6 y7 y8
      unfold laws_FnExactNewPairs.j0
      repeat' first
      | (with_reducible exact ih0 _ _ _ _ _ _ _ _ _)
      | (with_reducible exact ih1 _ _ _ _ _ _)
      | (with_reducible exact ih2 _ _ _)
      | (with_reducible exact impl_NewPairs.mono _ _ _)
      | (with_reducible exact laws_eqPairS.mono _ _ _)
      | (with_reducible exact laws_heldPairS.mono _ _ _)
      | (with_reducible exact laws_markPairS.mono _ _ _)
      | (with_reducible exact laws_toPairS.mono _ _)
      | (with_reducible exact spec_NewPairs.mono _ _ _)
      | (with_reducible exact LeO.refl _)
      | (with_reducible exact LeO.none _)
      | (with_reducible refine LeO.ite ?_ ?_)
      | (with_reducible refine LeO.bind ?_ (fun _ => ?_))
      | exact ih0 _ _ _ _ _ _ _ _ _
      | exact ih1 _ _ _ _ _ _
      | exact ih2 _ _ _
      | exact impl_NewPairs.mono _ _ _
      | exact laws_eqPairS.mono _ _ _
      | exact laws_heldPairS.mono _ _ _
      | exact laws_markPairS.mono _ _ _
      | exact laws_toPairS.mono _ _
      | exact spec_NewPairs.mono _ _ _
      | exact LeO.none _
      | refine LeO.ite ?_ ?_
      | refine LeO.bind ?_ (fun _ => ?_)
    · intro y0 y1 y2 y3 y4 y5
      unfold laws_FnExactNewPairs.j1
      repeat' first
      | (with_reducible exact ih0 _ _ _ _ _ _ _ _ _)
      | (with_reducible exact ih1 _ _ _ _ _ _)
      | (with_reducible exact ih2 _ _ _)
      | (with_reducible exact impl_NewPairs.mono _ _ _)
      | (with_reducible exact laws_eqPairS.mono _ _ _)
      | (with_reducible exact laws_heldPairS.mono _ _ _)
      | (with_reducible exact laws_markPairS.mono _ _ _)
      | (with_reducible exact laws_toPairS.mono _ _)
      | (with_reducible exact spec_NewPairs.mono _ _ _)
      | (with_reducible exact LeO.refl _)
      | (with_reducible exact LeO.none _)
      | (with_reducible refine LeO.ite ?_ ?_)
      | (with_reducible refine LeO.bind ?_ (fun _ => ?_))
      | exact ih0 _ _ _ _ _ _ _ _ _
      | exact ih1 _ _ _ _ _ _
      | exact ih2 _ _ _
      | exact impl_NewPairs.mono _ _ _
      | exact laws_eqPairS.mono _ _ _
      | exact laws_heldPairS.mono _ _ _
      | exact laws_markPairS.mono _ _ _
      | exact laws_toPairS.mono _ _
      | exact spec_NewPairs.mono _ _ _
      | exact LeO.none _
      | refine LeO.ite ?_ ?_
      | refine LeO.bind ?_ (fun _ => ?_)
    · intro y0 y1 y2
      unfold laws_FnExactNewPairs.j2
      repeat' first
      | (with_reducible exact ih0 _ _ _ _ _ _ _ _ _)
      | (with_reducible exact ih1 _ _ _ _ _ _)
      | (with_reducible exact ih2 _ _ _)
      | (with_reducible exact impl_NewPairs.mono _ _ _)
      | (with_reducible exact laws_eqPairS.mono _ _ _)
      | (with_reducible exact laws_heldPairS.mono _ _ _)
      | (with_reducible exact laws_markPairS.mono _ _ _)
      | (with_reducible exact laws_toPairS.mono _ _)
      | (with_reducible exact spec_NewPairs.mono _ _ _)
      | (with_reducible exact LeO.refl _)
      | (with_reducible exact LeO.none _)
      | (with_reducible refine LeO.ite ?_ ?_)
      | (with_reducible refine LeO.bind ?_ (fun _ => ?_))
      | exact ih0 _ _ _ _ _ _ _ _ _
      | exact ih1 _ _ _ _ _ _
      | exact ih2 _ _ _
      | exact impl_NewPairs.mono _ _ _
      | exact laws_eqPairS.mono _ _ _
      | exact laws_heldPairS.mono _ _ _
      | exact laws_markPairS.mono _ _ _
      | exact laws_toPairS.mono _ _
      | exact spec_NewPairs.mono _ _ _
      | exact LeO.none _
      | refine LeO.ite ?_ ?_
      | refine LeO.bind ?_ (fun _ => ?_)
theorem laws_FnExactNewPairs.mono : ∀ a0 a1 k, LeO (laws_FnExactNewPairs.f k a0 a1) (laws_FnExactNewPairs.f (k + 1) a0 a1) := by
  intro a0 a1 k
  obtain ⟨ih0, ih1, ih2⟩ := laws_FnExactNewPairs.mono_l k
  unfold laws_FnExactNewPairs.f
  repeat' first
      | (with_reducible exact ih0 _ _ _ _ _ _ _ _ _)
      | (with_reducible exact ih1 _ _ _ _ _ _)
      | (with_reducible exact ih2 _ _ _)
      | (with_reducible exact impl_NewPairs.mono _ _ _)
      | (with_reducible exact laws_eqPairS.mono _ _ _)
      | (with_reducible exact laws_heldPairS.mono _ _ _)
      | (with_reducible exact laws_markPairS.mono _ _ _)
      | (with_reducible exact laws_toPairS.mono _ _)
      | (with_reducible exact spec_NewPairs.mono _ _ _)
      | (with_reducible exact LeO.refl _)
      | (with_reducible exact LeO.none _)
      | (with_reducible refine LeO.ite ?_ ?_)
      | (with_reducible refine LeO.bind ?_ (fun _ => ?_))
      | exact ih0 _ _ _ _ _ _ _ _ _
      | exact ih1 _ _ _ _ _ _
      | exact ih2 _ _ _
      | exact impl_NewPairs.mono _ _ _
      | exact laws_eqPairS.mono _ _ _
      | exact laws_heldPairS.mono _ _ _
      | exact laws_markPairS.mono _ _ _
      | exact laws_toPairS.mono _ _
      | exact spec_NewPairs.mono _ _ _
      | exact LeO.none _
      | refine LeO.ite ?_ ?_
      | refine LeO.bind ?_ (fun _ => ?_)
set_option maxHeartbeats 8000000 in
set_option maxRecDepth 100000 in
theorem laws_FnExactNewPairs.calls (k : Nat) (A0 : Option Addr) (c0 : Nat) (l0 : List (S107)) (A1 : Option Addr) (c1 : Nat) (l1 : List (S107)) (r : Bool) (w : World) (hr0 : Kd.C k107 w A0 l0.length l0) (hc0 : l0.length ≤ c0) (hr1 : Kd.C k107 w A1 l1.length l1) (hc1 : l1.length ≤ c1) (h : laws_FnExactNewPairs.f k l0 l1 = some r) :
    Calls Try.prog 6 #[.slice A0 l0.length c0, .slice A1 l1.length c1] w fun e w' => e = .returned (.bool r) ∧ Below w.heap.size w w' := by
  have HR0 := Aside0.mk hr0
  have HC0 := Aside0.mk hc0
  clear hr0 hc0
  have HR1 := Aside0.mk hr1
  have HC1 := Aside0.mk hc1
  clear hr1 hc1
  have HB := Aside0.mk (Below.refl w.heap.size w)
  have H : ((laws_szPairS.f l0 1048576).bind fun t198 => (if t198 < 0 then (some true) else ((laws_szPairS.f l1 t198).bind fun t199 => (if t199 < 0 then (some true) else ((laws_toPairS.f k l0).bind fun t200 => ((laws_toPairS.f k l1).bind fun t203 => ((spec_NewPairs.f k t200 t203).bind fun bt206 => ((laws_toPairS.f k l0).bind fun t210 => ((laws_toPairS.f k l1).bind fun t213 => ((impl_NewPairs.f k t210 t213).bind fun bt216 => ((laws_eqPairS.f k bt216.1 bt206.1).bind fun t220 => (if t220 = true then (laws_FnExactNewPairs.j0 k l0 l1 bt206.1 bt206.2 t210 t213 bt216.1 bt216.2 (bt216.2 != bt206.2)) else (laws_FnExactNewPairs.j0 k l0 l1 bt206.1 bt206.2 t210 t213 bt216.1 bt216.2 true))))))))))))) = some r := h
  clear h
  replace H := Option.bind_eq_some_iff.mp H
  obtain ⟨t198, A30, H⟩ := H
  replace H : (if t198 < 0 then (some true) else ((laws_szPairS.f l1 t198).bind fun t199 => (if t199 < 0 then (some true) else ((laws_toPairS.f k l0).bind fun t200 => ((laws_toPairS.f k l1).bind fun t203 => ((spec_NewPairs.f k t200 t203).bind fun bt206 => ((laws_toPairS.f k l0).bind fun t210 => ((laws_toPairS.f k l1).bind fun t213 => ((impl_NewPairs.f k t210 t213).bind fun bt216 => ((laws_eqPairS.f k bt216.1 bt206.1).bind fun t220 => (if t220 = true then (laws_FnExactNewPairs.j0 k l0 l1 bt206.1 bt206.2 t210 t213 bt216.1 bt216.2 (bt216.2 != bt206.2)) else (laws_FnExactNewPairs.j0 k l0 l1 bt206.1 bt206.2 t210 t213 bt216.1 bt216.2 true)))))))))))) = some r := H
  have A3 := Aside0.mk A30
  clear A30
  by_cases c4 : t198 < 0
  · rw [if_pos c4] at H
    have c4b0 : decide (t198 < 0) = true := decide_eq_true c4
    clear c4
    obtain rfl := Option.some.inj H
    go_enter Try.func6, Try.ntmps6
    go_wp2_with (first | ((with_reducible refine gate_callee (f := 28) rfl ?_); refine goesL_ (some 19) rfl rfl Try.func28 (by kernel_rfl) rfl #[.slice A0 l0.length c0, .int .i64 1048576] rfl (by (try simp only [List.map_toArray, List.map_cons, List.map_nil]); first | done | rfl | (simp only [List.length_drop, List.length_take]; rfl)) ?_; (with_reducible refine (laws_szPairS.calls _ _ l0 1048576 t198 _ ?side1 ?side2 A3.out).mono ?_); (case side1 => repeat (first | exact HR0.out | with_reducible apply cA_|with_reducible apply cN_|with_reducible apply cD_)); (case side2 => exact HC0.out); rintro e w' ⟨rfl, ⟨nd, rfl⟩⟩; refine ⟨_, rfl, ?_⟩))
    go_ret
    exact ⟨by first | rfl | (simp [errW_none, errW_some] <;> rfl) | (simp [*, errW_none, errW_some] <;> rfl), by repeat (first | (with_reducible first|exact HB.out|apply vA_|apply vN_|apply vD_) | exact HB.out)⟩
  · rw [if_neg c4] at H
    have c4b0 : decide (t198 < 0) = false := decide_eq_false c4
    clear c4
    replace H := Option.bind_eq_some_iff.mp H
    obtain ⟨t199, A50, H⟩ := H
    replace H : (if t199 < 0 then (some true) else ((laws_toPairS.f k l0).bind fun t200 => ((laws_toPairS.f k l1).bind fun t203 => ((spec_NewPairs.f k t200 t203).bind fun bt206 => ((laws_toPairS.f k l0).bind fun t210 => ((laws_toPairS.f k l1).bind fun t213 => ((impl_NewPairs.f k t210 t213).bind fun bt216 => ((laws_eqPairS.f k bt216.1 bt206.1).bind fun t220 => (if t220 = true then (laws_FnExactNewPairs.j0 k l0 l1 bt206.1 bt206.2 t210 t213 bt216.1 bt216.2 (bt216.2 != bt206.2)) else (laws_FnExactNewPairs.j0 k l0 l1 bt206.1 bt206.2 t210 t213 bt216.1 bt216.2 true)))))))))) = some r := H
    have A5 := Aside0.mk A50
    clear A50
    by_cases c6 : t199 < 0
    · rw [if_pos c6] at H
      have c6b0 : decide (t199 < 0) = true := decide_eq_true c6
      clear c6
      obtain rfl := Option.some.inj H
      go_enter Try.func6, Try.ntmps6
      go_wp2_with (first | ((with_reducible refine gate_callee (f := 28) rfl ?_); refine goesL_ (some 19) rfl rfl Try.func28 (by kernel_rfl) rfl #[.slice A0 l0.length c0, .int .i64 1048576] rfl (by (try simp only [List.map_toArray, List.map_cons, List.map_nil]); first | done | rfl | (simp only [List.length_drop, List.length_take]; rfl)) ?_; (with_reducible refine (laws_szPairS.calls _ _ l0 1048576 t198 _ ?side1 ?side2 A3.out).mono ?_); (case side1 => repeat (first | exact HR0.out | with_reducible apply cA_|with_reducible apply cN_|with_reducible apply cD_)); (case side2 => exact HC0.out); rintro e w' ⟨rfl, ⟨nd, rfl⟩⟩; refine ⟨_, rfl, ?_⟩) | ((with_reducible refine gate_callee (f := 28) rfl ?_); refine goesL_ (some 24) rfl rfl Try.func28 (by kernel_rfl) rfl #[.slice A1 l1.length c1, .int .i64 t198] rfl (by (try simp only [List.map_toArray, List.map_cons, List.map_nil]); first | done | rfl | (simp only [List.length_drop, List.length_take]; rfl)) ?_; (with_reducible refine (laws_szPairS.calls _ _ l1 t198 t199 _ ?side1 ?side2 A5.out).mono ?_); (case side1 => repeat (first | exact HR1.out | with_reducible apply cA_|with_reducible apply cN_|with_reducible apply cD_)); (case side2 => exact HC1.out); rintro e w' ⟨rfl, ⟨nd, rfl⟩⟩; refine ⟨_, rfl, ?_⟩))
      go_ret
      exact ⟨by first | rfl | (simp [errW_none, errW_some] <;> rfl) | (simp [*, errW_none, errW_some] <;> rfl), by repeat (first | (with_reducible first|exact HB.out|apply vA_|apply vN_|apply vD_) | exact HB.out)⟩
    · rw [if_neg c6] at H
      have c6b0 : decide (t199 < 0) = false := decide_eq_false c6
      clear c6
      replace H := Option.bind_eq_some_iff.mp H
      obtain ⟨t200, A70, H⟩ := H
      replace H : ((laws_toPairS.f k l1).bind fun t203 => ((spec_NewPairs.f k t200 t203).bind fun bt206 => ((laws_toPairS.f k l0).bind fun t210 => ((laws_toPairS.f k l1).bind fun t213 => ((impl_NewPairs.f k t210 t213).bind fun bt216 => ((laws_eqPairS.f k bt216.1 bt206.1).bind fun t220 => (if t220 = true then (laws_FnExactNewPairs.j0 k l0 l1 bt206.1 bt206.2 t210 t213 bt216.1 bt216.2 (bt216.2 != bt206.2)) else (laws_FnExactNewPairs.j0 k l0 l1 bt206.1 bt206.2 t210 t213 bt216.1 bt216.2 true)))))))) = some r := H
      have A7 := Aside0.mk A70
      clear A70
      replace H := Option.bind_eq_some_iff.mp H
      obtain ⟨t203, A80, H⟩ := H
      replace H : ((spec_NewPairs.f k t200 t203).bind fun bt206 => ((laws_toPairS.f k l0).bind fun t210 => ((laws_toPairS.f k l1).bind fun t213 => ((impl_NewPairs.f k t210 t213).bind fun bt216 => ((laws_eqPairS.f k bt216.1 bt206.1).bind fun t220 => (if t220 = true then (laws_FnExactNewPairs.j0 k l0 l1 bt206.1 bt206.2 t210 t213 bt216.1 bt216.2 (bt216.2 != bt206.2)) else (laws_FnExactNewPairs.j0 k l0 l1 bt206.1 bt206.2 t210 t213 bt216.1 bt216.2 true))))))) = some r := H
      have A8 := Aside0.mk A80
      clear A80
      replace H := Option.bind_eq_some_iff.mp H
      obtain ⟨⟨t206, t207⟩, A90, H⟩ := H
      replace H : ((laws_toPairS.f k l0).bind fun t210 => ((laws_toPairS.f k l1).bind fun t213 => ((impl_NewPairs.f k t210 t213).bind fun bt216 => ((laws_eqPairS.f k bt216.1 t206).bind fun t220 => (if t220 = true then (laws_FnExactNewPairs.j0 k l0 l1 t206 t207 t210 t213 bt216.1 bt216.2 (bt216.2 != t207)) else (laws_FnExactNewPairs.j0 k l0 l1 t206 t207 t210 t213 bt216.1 bt216.2 true)))))) = some r := H
      have A9 := Aside0.mk A90
      clear A90
      replace H := Option.bind_eq_some_iff.mp H
      obtain ⟨t210, A100, H⟩ := H
      replace H : ((laws_toPairS.f k l1).bind fun t213 => ((impl_NewPairs.f k t210 t213).bind fun bt216 => ((laws_eqPairS.f k bt216.1 t206).bind fun t220 => (if t220 = true then (laws_FnExactNewPairs.j0 k l0 l1 t206 t207 t210 t213 bt216.1 bt216.2 (bt216.2 != t207)) else (laws_FnExactNewPairs.j0 k l0 l1 t206 t207 t210 t213 bt216.1 bt216.2 true))))) = some r := H
      have A10 := Aside0.mk A100
      clear A100
      replace H := Option.bind_eq_some_iff.mp H
      obtain ⟨t213, A110, H⟩ := H
      replace H : ((impl_NewPairs.f k t210 t213).bind fun bt216 => ((laws_eqPairS.f k bt216.1 t206).bind fun t220 => (if t220 = true then (laws_FnExactNewPairs.j0 k l0 l1 t206 t207 t210 t213 bt216.1 bt216.2 (bt216.2 != t207)) else (laws_FnExactNewPairs.j0 k l0 l1 t206 t207 t210 t213 bt216.1 bt216.2 true)))) = some r := H
      have A11 := Aside0.mk A110
      clear A110
      replace H := Option.bind_eq_some_iff.mp H
      obtain ⟨⟨t216, t217⟩, A120, H⟩ := H
      replace H : ((laws_eqPairS.f k t216 t206).bind fun t220 => (if t220 = true then (laws_FnExactNewPairs.j0 k l0 l1 t206 t207 t210 t213 t216 t217 (t217 != t207)) else (laws_FnExactNewPairs.j0 k l0 l1 t206 t207 t210 t213 t216 t217 true))) = some r := H
      have A12 := Aside0.mk A120
      clear A120
      have HC13 := Aside0.mk H
      clear H
      go_enter Try.func6, Try.ntmps6
      go_upto_region 12 with (first | ((with_reducible refine gate_callee (f := 28) rfl ?_); refine goesL_ (some 19) rfl rfl Try.func28 (by kernel_rfl) rfl #[.slice A0 l0.length c0, .int .i64 1048576] rfl (by (try simp only [List.map_toArray, List.map_cons, List.map_nil]); first | done | rfl | (simp only [List.length_drop, List.length_take]; rfl)) ?_; (with_reducible refine (laws_szPairS.calls _ _ l0 1048576 t198 _ ?side1 ?side2 A3.out).mono ?_); (case side1 => repeat (first | exact HR0.out | with_reducible apply cA_|with_reducible apply cN_|with_reducible apply cD_)); (case side2 => exact HC0.out); rintro e w' ⟨rfl, ⟨nd, rfl⟩⟩; refine ⟨_, rfl, ?_⟩) | ((with_reducible refine gate_callee (f := 28) rfl ?_); refine goesL_ (some 24) rfl rfl Try.func28 (by kernel_rfl) rfl #[.slice A1 l1.length c1, .int .i64 t198] rfl (by (try simp only [List.map_toArray, List.map_cons, List.map_nil]); first | done | rfl | (simp only [List.length_drop, List.length_take]; rfl)) ?_; (with_reducible refine (laws_szPairS.calls _ _ l1 t198 t199 _ ?side1 ?side2 A5.out).mono ?_); (case side1 => repeat (first | exact HR1.out | with_reducible apply cA_|with_reducible apply cN_|with_reducible apply cD_)); (case side2 => exact HC1.out); rintro e w' ⟨rfl, ⟨nd, rfl⟩⟩; refine ⟨_, rfl, ?_⟩) | ((with_reducible refine gate_callee (f := 30) rfl ?_); refine goesL_ (some 29) rfl rfl Try.func30 (by kernel_rfl) rfl #[.slice A0 l0.length c0] rfl (by (try simp only [List.map_toArray, List.map_cons, List.map_nil]); first | done | rfl | (simp only [List.length_drop, List.length_take]; rfl)) ?_; (with_reducible refine (laws_toPairS.calls k _ _ l0 t200 _ ?side1 ?side2 A7.out).mono ?_); (case side1 => repeat (first | exact HR0.out | with_reducible apply cA_|with_reducible apply cN_|with_reducible apply cD_)); (case side2 => exact HC0.out); rintro e w14 ⟨v201, rfl, ho0, hb⟩; refine ⟨_, rfl, ?_⟩; have n0_ := Aside0.mk (Kd.R_lower ho0 (below_size (by repeat (first | (with_reducible first|exact HB.out|apply vA_|apply vN_|apply vD_) | exact HB.out)))); have n1_ := Aside0.mk (below_step (by repeat (first | (with_reducible first|exact HB.out|apply vA_|apply vN_|apply vD_) | exact HB.out)) hb); clear HB; have HO202 := n0_; have HB := n1_; clear n0_ n1_; (try clear hb); (try clear hb2); (try clear hk); (try clear hi); (try clear ho0)) | ((with_reducible refine gate_callee (f := 30) rfl ?_); refine goesL_ (some 31) rfl rfl Try.func30 (by kernel_rfl) rfl #[.slice A1 l1.length c1] rfl (by (try simp only [List.map_toArray, List.map_cons, List.map_nil]); first | done | rfl | (simp only [List.length_drop, List.length_take]; rfl)) ?_; (with_reducible refine (laws_toPairS.calls k _ _ l1 t203 _ ?side1 ?side2 A8.out).mono ?_); (case side1 => repeat (first | exact (Kd.C_below HR1.out HB.out) | with_reducible apply cA_|with_reducible apply cN_|with_reducible apply cD_)); (case side2 => exact HC1.out); rintro e w15 ⟨v204, rfl, ho0, hb⟩; refine ⟨_, rfl, ?_⟩; have n0_ := Aside0.mk (Kd.R_elder' (by (with_reducible repeat first|apply rA_|apply rN_|apply rD_); exact HO202.out) (by first | exact Kd.R_base ho0 | exact Kd.S_base ho0 | exact Kd.R_base ho0) hb); have n1_ := Aside0.mk (Kd.R_lower (Kd.R_new' ho0 (Kd.R_lt (by (with_reducible repeat first|apply rA_|apply rN_|apply rD_); exact HO202.out))) (below_size (by repeat (first | (with_reducible first|exact HB.out|apply vA_|apply vN_|apply vD_) | exact HB.out)))); have n2_ := Aside0.mk (below_step (by repeat (first | (with_reducible first|exact HB.out|apply vA_|apply vN_|apply vD_) | exact HB.out)) hb); clear HO202; clear HB; have HO202 := n0_; have HO205 := n1_; have HB := n2_; clear n0_ n1_ n2_; (try clear hb); (try clear hb2); (try clear hk); (try clear hi); (try clear ho0); obtain ⟨Ao16, co16, eo16⟩ := Kd.R_slice HO202.out; subst eo16; obtain ⟨Ao17, co17, eo17⟩ := Kd.R_slice HO205.out; subst eo17) | ((with_reducible refine gate_callee (f := 29) rfl ?_); refine goesL_ (some 32) rfl rfl Try.func29 (by kernel_rfl) rfl #[.slice Ao16 t200.length co16, .slice Ao17 t203.length co17] rfl (by (try simp only [List.map_toArray, List.map_cons, List.map_nil]); first | done | rfl | (simp only [List.length_drop, List.length_take]; rfl)) ?_; (with_reducible refine (spec_NewPairs.calls k _ _ t200 _ _ t203 t206 t207 _ ?side1 ?side2 ?side3 ?side4 A9.out).mono ?_); (case side1 => repeat (first | exact (Kd.R_reads' HO202.out).2.2 | with_reducible apply cA_|with_reducible apply cN_|with_reducible apply cD_)); (case side2 => exact (Kd.R_reads' HO202.out).2.1); (case side3 => repeat (first | exact (Kd.R_reads' HO205.out).2.2 | with_reducible apply cA_|with_reducible apply cN_|with_reducible apply cD_)); (case side4 => exact (Kd.R_reads' HO205.out).2.1); rintro e w18 ⟨v208, rfl, ho0, hb⟩; refine ⟨_, rfl, ?_⟩; have n0_ := Aside0.mk (Kd.R_elder' (by (with_reducible repeat first|apply rA_|apply rN_|apply rD_); exact HO202.out) (by first | exact Kd.R_base ho0 | exact Kd.S_base ho0 | exact Kd.R_base ho0) hb); have n1_ := Aside0.mk (Kd.R_elder' (by (with_reducible repeat first|apply rA_|apply rN_|apply rD_); exact HO205.out) (by first | exact Kd.R_base ho0 | exact Kd.S_base ho0 | exact Kd.R_base ho0) hb); have n2_ := Aside0.mk (Kd.R_lower (Kd.R_new' (Kd.R_new' ho0 (Kd.R_lt (by (with_reducible repeat first|apply rA_|apply rN_|apply rD_); exact HO202.out))) (Kd.R_lt (by (with_reducible repeat first|apply rA_|apply rN_|apply rD_); exact HO205.out))) (below_size (by repeat (first | (with_reducible first|exact HB.out|apply vA_|apply vN_|apply vD_) | exact HB.out)))); have n3_ := Aside0.mk (below_step (by repeat (first | (with_reducible first|exact HB.out|apply vA_|apply vN_|apply vD_) | exact HB.out)) hb); clear HO202; clear HO205; clear HB; have HO202 := n0_; have HO205 := n1_; have HO209 := n2_; have HB := n3_; clear n0_ n1_ n2_ n3_; (try clear hb); (try clear hb2); (try clear hk); (try clear hi); (try clear ho0)) | ((with_reducible refine gate_callee (f := 30) rfl ?_); refine goesL_ (some 36) rfl rfl Try.func30 (by kernel_rfl) rfl #[.slice A0 l0.length c0] rfl (by (try simp only [List.map_toArray, List.map_cons, List.map_nil]); first | done | rfl | (simp only [List.length_drop, List.length_take]; rfl)) ?_; (with_reducible refine (laws_toPairS.calls k _ _ l0 t210 _ ?side1 ?side2 A10.out).mono ?_); (case side1 => repeat (first | exact (Kd.C_below HR0.out HB.out) | with_reducible apply cA_|with_reducible apply cN_|with_reducible apply cD_)); (case side2 => exact HC0.out); rintro e w19 ⟨v211, rfl, ho0, hb⟩; refine ⟨_, rfl, ?_⟩; have n0_ := Aside0.mk (Kd.R_elder' (by (with_reducible repeat first|apply rA_|apply rN_|apply rD_); exact HO202.out) (by first | exact Kd.R_base ho0 | exact Kd.S_base ho0 | exact Kd.R_base ho0) hb); have n1_ := Aside0.mk (Kd.R_elder' (by (with_reducible repeat first|apply rA_|apply rN_|apply rD_); exact HO205.out) (by first | exact Kd.R_base ho0 | exact Kd.S_base ho0 | exact Kd.R_base ho0) hb); have n2_ := Aside0.mk (Kd.R_elder' (by (with_reducible repeat first|apply rA_|apply rN_|apply rD_); exact HO209.out) (by first | exact Kd.R_base ho0 | exact Kd.S_base ho0 | exact Kd.R_base ho0) hb); have n3_ := Aside0.mk (Kd.R_lower (Kd.R_new' (Kd.R_new' (Kd.R_new' ho0 (Kd.R_lt (by (with_reducible repeat first|apply rA_|apply rN_|apply rD_); exact HO202.out))) (Kd.R_lt (by (with_reducible repeat first|apply rA_|apply rN_|apply rD_); exact HO205.out))) (Kd.R_lt (by (with_reducible repeat first|apply rA_|apply rN_|apply rD_); exact HO209.out))) (below_size (by repeat (first | (with_reducible first|exact HB.out|apply vA_|apply vN_|apply vD_) | exact HB.out)))); have n4_ := Aside0.mk (below_step (by repeat (first | (with_reducible first|exact HB.out|apply vA_|apply vN_|apply vD_) | exact HB.out)) hb); clear HO202; clear HO205; clear HO209; clear HB; have HO202 := n0_; have HO205 := n1_; have HO209 := n2_; have HO212 := n3_; have HB := n4_; clear n0_ n1_ n2_ n3_ n4_; (try clear hb); (try clear hb2); (try clear hk); (try clear hi); (try clear ho0)) | ((with_reducible refine gate_callee (f := 30) rfl ?_); refine goesL_ (some 38) rfl rfl Try.func30 (by kernel_rfl) rfl #[.slice A1 l1.length c1] rfl (by (try simp only [List.map_toArray, List.map_cons, List.map_nil]); first | done | rfl | (simp only [List.length_drop, List.length_take]; rfl)) ?_; (with_reducible refine (laws_toPairS.calls k _ _ l1 t213 _ ?side1 ?side2 A11.out).mono ?_); (case side1 => repeat (first | exact (Kd.C_below HR1.out HB.out) | with_reducible apply cA_|with_reducible apply cN_|with_reducible apply cD_)); (case side2 => exact HC1.out); rintro e w20 ⟨v214, rfl, ho0, hb⟩; refine ⟨_, rfl, ?_⟩; have n0_ := Aside0.mk (Kd.R_elder' (by (with_reducible repeat first|apply rA_|apply rN_|apply rD_); exact HO202.out) (by first | exact Kd.R_base ho0 | exact Kd.S_base ho0 | exact Kd.R_base ho0) hb); have n1_ := Aside0.mk (Kd.R_elder' (by (with_reducible repeat first|apply rA_|apply rN_|apply rD_); exact HO205.out) (by first | exact Kd.R_base ho0 | exact Kd.S_base ho0 | exact Kd.R_base ho0) hb); have n2_ := Aside0.mk (Kd.R_elder' (by (with_reducible repeat first|apply rA_|apply rN_|apply rD_); exact HO209.out) (by first | exact Kd.R_base ho0 | exact Kd.S_base ho0 | exact Kd.R_base ho0) hb); have n3_ := Aside0.mk (Kd.R_elder' (by (with_reducible repeat first|apply rA_|apply rN_|apply rD_); exact HO212.out) (by first | exact Kd.R_base ho0 | exact Kd.S_base ho0 | exact Kd.R_base ho0) hb); have n4_ := Aside0.mk (Kd.R_lower (Kd.R_new' (Kd.R_new' (Kd.R_new' (Kd.R_new' ho0 (Kd.R_lt (by (with_reducible repeat first|apply rA_|apply rN_|apply rD_); exact HO202.out))) (Kd.R_lt (by (with_reducible repeat first|apply rA_|apply rN_|apply rD_); exact HO205.out))) (Kd.R_lt (by (with_reducible repeat first|apply rA_|apply rN_|apply rD_); exact HO209.out))) (Kd.R_lt (by (with_reducible repeat first|apply rA_|apply rN_|apply rD_); exact HO212.out))) (below_size (by repeat (first | (with_reducible first|exact HB.out|apply vA_|apply vN_|apply vD_) | exact HB.out)))); have n5_ := Aside0.mk (below_step (by repeat (first | (with_reducible first|exact HB.out|apply vA_|apply vN_|apply vD_) | exact HB.out)) hb); clear HO202; clear HO205; clear HO209; clear HO212; clear HB; have HO202 := n0_; have HO205 := n1_; have HO209 := n2_; have HO212 := n3_; have HO215 := n4_; have HB := n5_; clear n0_ n1_ n2_ n3_ n4_ n5_; (try clear hb); (try clear hb2); (try clear hk); (try clear hi); (try clear ho0); obtain ⟨Ao21, co21, eo21⟩ := Kd.R_slice HO212.out; subst eo21; obtain ⟨Ao22, co22, eo22⟩ := Kd.R_slice HO215.out; subst eo22) | ((with_reducible refine gate_callee (f := 31) rfl ?_); refine goesL_ (some 42) rfl rfl Try.func31 (by kernel_rfl) rfl #[.slice Ao21 t210.length co21, .slice Ao22 t213.length co22] rfl (by (try simp only [List.map_toArray, List.map_cons, List.map_nil]); first | done | rfl | (simp only [List.length_drop, List.length_take]; rfl)) ?_; (with_reducible refine (impl_NewPairs.calls k _ _ t210 _ _ t213 t216 t217 _ ?side1 ?side2 ?side3 ?side4 A12.out).mono ?_); (case side1 => repeat (first | exact (Kd.R_reads' HO212.out).2.2 | with_reducible apply cA_|with_reducible apply cN_|with_reducible apply cD_)); (case side2 => exact (Kd.R_reads' HO212.out).2.1); (case side3 => repeat (first | exact (Kd.R_reads' HO215.out).2.2 | with_reducible apply cA_|with_reducible apply cN_|with_reducible apply cD_)); (case side4 => exact (Kd.R_reads' HO215.out).2.1); rintro e w23 ⟨v218, rfl, ho0, hb⟩; refine ⟨_, rfl, ?_⟩; have n0_ := Aside0.mk (Kd.R_elder' (by (with_reducible repeat first|apply rA_|apply rN_|apply rD_); exact HO202.out) (by first | exact Kd.R_base ho0 | exact Kd.S_base ho0 | exact Kd.R_base ho0) hb); have n1_ := Aside0.mk (Kd.R_elder' (by (with_reducible repeat first|apply rA_|apply rN_|apply rD_); exact HO205.out) (by first | exact Kd.R_base ho0 | exact Kd.S_base ho0 | exact Kd.R_base ho0) hb); have n2_ := Aside0.mk (Kd.R_elder' (by (with_reducible repeat first|apply rA_|apply rN_|apply rD_); exact HO209.out) (by first | exact Kd.R_base ho0 | exact Kd.S_base ho0 | exact Kd.R_base ho0) hb); have n3_ := Aside0.mk (Kd.R_elder' (by (with_reducible repeat first|apply rA_|apply rN_|apply rD_); exact HO212.out) (by first | exact Kd.R_base ho0 | exact Kd.S_base ho0 | exact Kd.R_base ho0) hb); have n4_ := Aside0.mk (Kd.R_elder' (by (with_reducible repeat first|apply rA_|apply rN_|apply rD_); exact HO215.out) (by first | exact Kd.R_base ho0 | exact Kd.S_base ho0 | exact Kd.R_base ho0) hb); have n5_ := Aside0.mk (Kd.R_lower (Kd.R_new' (Kd.R_new' (Kd.R_new' (Kd.R_new' (Kd.R_new' ho0 (Kd.R_lt (by (with_reducible repeat first|apply rA_|apply rN_|apply rD_); exact HO202.out))) (Kd.R_lt (by (with_reducible repeat first|apply rA_|apply rN_|apply rD_); exact HO205.out))) (Kd.R_lt (by (with_reducible repeat first|apply rA_|apply rN_|apply rD_); exact HO209.out))) (Kd.R_lt (by (with_reducible repeat first|apply rA_|apply rN_|apply rD_); exact HO212.out))) (Kd.R_lt (by (with_reducible repeat first|apply rA_|apply rN_|apply rD_); exact HO215.out))) (below_size (by repeat (first | (with_reducible first|exact HB.out|apply vA_|apply vN_|apply vD_) | exact HB.out)))); have n6_ := Aside0.mk (below_step (by repeat (first | (with_reducible first|exact HB.out|apply vA_|apply vN_|apply vD_) | exact HB.out)) hb); clear HO202; clear HO205; clear HO209; clear HO212; clear HO215; clear HB; have HO202 := n0_; have HO205 := n1_; have HO209 := n2_; have HO212 := n3_; have HO215 := n4_; have HO219 := n5_; have HB := n6_; clear n0_ n1_ n2_ n3_ n4_ n5_ n6_; (try clear hb); (try clear hb2); (try clear hk); (try clear hi); (try clear ho0)))
      (try simp only [Act.put, List.setIfInBounds_toArray, List.set_cons_zero, List.set_cons_succ])
      go_cut [53] (fun v53 wc => ∃ (kq : Nat) (x53_12 : Bool), v53 = .bool x53_12 ∧ Aside0 (laws_FnExactNewPairs.j0 kq l0 l1 t206 t207 t210 t213 t216 t217 x53_12 = some r) ∧ Aside0 (kq ≤ k) ∧ Aside0 (Kd.R k105 105 wc w.heap.size (fun k_ => some k_ ≠ ((.slice Ao21 t210.length co21) : Value).ownBlock ∧ some k_ ≠ ((.slice Ao22 t213.length co22) : Value).ownBlock ∧ some k_ ≠ (v218 : Value).ownBlock) v208 t206) ∧ Aside0 (Kd.R k105 105 wc w.heap.size (fun k_ => some k_ ≠ (v208 : Value).ownBlock ∧ some k_ ≠ ((.slice Ao22 t213.length co22) : Value).ownBlock ∧ some k_ ≠ (v218 : Value).ownBlock) (.slice Ao21 t210.length co21) t210) ∧ Aside0 (Kd.R k105 105 wc w.heap.size (fun k_ => some k_ ≠ (v208 : Value).ownBlock ∧ some k_ ≠ ((.slice Ao21 t210.length co21) : Value).ownBlock ∧ some k_ ≠ (v218 : Value).ownBlock) (.slice Ao22 t213.length co22) t213) ∧ Aside0 (Kd.R k105 105 wc w.heap.size (fun k_ => some k_ ≠ (v208 : Value).ownBlock ∧ some k_ ≠ ((.slice Ao21 t210.length co21) : Value).ownBlock ∧ some k_ ≠ ((.slice Ao22 t213.length co22) : Value).ownBlock) v218 t216) ∧ Aside0 (Below w.heap.size w wc))
      case first =>
        have H := HC13.out
        clear HC13
        replace H := Option.bind_eq_some_iff.mp H
        obtain ⟨t220, A240, H⟩ := H
        replace H : (if t220 = true then (laws_FnExactNewPairs.j0 k l0 l1 t206 t207 t210 t213 t216 t217 (t217 != t207)) else (laws_FnExactNewPairs.j0 k l0 l1 t206 t207 t210 t213 t216 t217 true)) = some r := H
        have A24 := Aside0.mk A240
        clear A240
        by_cases c25 : t220 = true
        · subst c25
          have H1 : (laws_FnExactNewPairs.j0 k l0 l1 t206 t207 t210 t213 t216 t217 (t217 != t207)) = some r := by rw [if_pos rfl] at H; exact H
          clear H
          have H := H1
          clear H1
          have H' := Aside0.mk H
          clear H
          obtain ⟨Ao26, co26, eo26⟩ := Kd.R_slice HO219.out
          subst eo26
          obtain ⟨Ao27, co27, eo27⟩ := Kd.R_slice HO209.out
          subst eo27
          go_wp2_with (first | ((with_reducible refine gate_callee (f := 32) rfl ?_); refine goesL_ (some 47) rfl rfl Try.func32 (by kernel_rfl) rfl #[.slice Ao26 t216.length co26, .slice Ao27 t206.length co27] rfl (by (try simp only [List.map_toArray, List.map_cons, List.map_nil]); first | done | rfl | (simp only [List.length_drop, List.length_take]; rfl)) ?_; (with_reducible refine (laws_eqPairS.calls k _ _ t216 _ _ t206 true _ ?side1 ?side2 ?side3 ?side4 A24.out).mono ?_); (case side1 => repeat (first | exact (Kd.R_reads' HO219.out).2.2 | with_reducible apply cA_|with_reducible apply cN_|with_reducible apply cD_)); (case side2 => exact (Kd.R_reads' HO219.out).2.1); (case side3 => repeat (first | exact (Kd.R_reads' HO209.out).2.2 | with_reducible apply cA_|with_reducible apply cN_|with_reducible apply cD_)); (case side4 => exact (Kd.R_reads' HO209.out).2.1); rintro e w28 ⟨rfl, hb⟩; refine ⟨_, rfl, ?_⟩; have n0_ := Aside0.mk (Kd.R_below (by (with_reducible repeat first|apply rA_|apply rN_|apply rD_); exact HO202.out) hb); have n1_ := Aside0.mk (Kd.R_below (by (with_reducible repeat first|apply rA_|apply rN_|apply rD_); exact HO205.out) hb); have n2_ := Aside0.mk (Kd.R_below (by (with_reducible repeat first|apply rA_|apply rN_|apply rD_); exact HO209.out) hb); have n3_ := Aside0.mk (Kd.R_below (by (with_reducible repeat first|apply rA_|apply rN_|apply rD_); exact HO212.out) hb); have n4_ := Aside0.mk (Kd.R_below (by (with_reducible repeat first|apply rA_|apply rN_|apply rD_); exact HO215.out) hb); have n5_ := Aside0.mk (Kd.R_below (by (with_reducible repeat first|apply rA_|apply rN_|apply rD_); exact HO219.out) hb); have n6_ := Aside0.mk (below_step (by repeat (first | (with_reducible first|exact HB.out|apply vA_|apply vN_|apply vD_) | exact HB.out)) hb); clear HO202; clear HO205; clear HO209; clear HO212; clear HO215; clear HO219; clear HB; have HO202 := n0_; have HO205 := n1_; have HO209 := n2_; have HO212 := n3_; have HO215 := n4_; have HO219 := n5_; have HB := n6_; clear n0_ n1_ n2_ n3_ n4_ n5_ n6_; (try clear hb); (try clear hb2); (try clear hk); (try clear hi)))
          go_meet
          case rel => exact ⟨_, ((t217 != t207)), (by first | rfl | (simp; done) | (simp [*]; done)), H', ⟨by first | omega | exact Nat.le_refl _⟩, ⟨by (with_reducible repeat first|apply rA_|apply rN_|apply rD_); exact Kd.R_mono HO209.out (fun _ hk => ⟨hk.1.1.2, ⟨hk.1.2, hk.2⟩⟩)⟩, ⟨by (with_reducible repeat first|apply rA_|apply rN_|apply rD_); exact Kd.R_mono HO212.out (fun _ hk => ⟨hk.1.1.2, ⟨hk.1.2, hk.2⟩⟩)⟩, ⟨by (with_reducible repeat first|apply rA_|apply rN_|apply rD_); exact Kd.R_mono HO215.out (fun _ hk => ⟨hk.1.1.2, ⟨hk.1.2, hk.2⟩⟩)⟩, ⟨by (with_reducible repeat first|apply rA_|apply rN_|apply rD_); exact Kd.R_mono HO219.out (fun _ hk => ⟨hk.1.1.2, ⟨hk.1.2, hk.2⟩⟩)⟩, ⟨by repeat (first | (with_reducible first|exact HB.out|apply vA_|apply vN_|apply vD_) | exact HB.out)⟩⟩
        · replace c25 := Bool.eq_false_iff.mpr c25
          subst c25
          have H1 : (laws_FnExactNewPairs.j0 k l0 l1 t206 t207 t210 t213 t216 t217 true) = some r := by rw [if_neg (show ¬ (false = true) by decide)] at H; exact H
          clear H
          have H := H1
          clear H1
          have H' := Aside0.mk H
          clear H
          obtain ⟨Ao29, co29, eo29⟩ := Kd.R_slice HO219.out
          subst eo29
          obtain ⟨Ao30, co30, eo30⟩ := Kd.R_slice HO209.out
          subst eo30
          go_wp2_with (first | ((with_reducible refine gate_callee (f := 32) rfl ?_); refine goesL_ (some 47) rfl rfl Try.func32 (by kernel_rfl) rfl #[.slice Ao29 t216.length co29, .slice Ao30 t206.length co30] rfl (by (try simp only [List.map_toArray, List.map_cons, List.map_nil]); first | done | rfl | (simp only [List.length_drop, List.length_take]; rfl)) ?_; (with_reducible refine (laws_eqPairS.calls k _ _ t216 _ _ t206 false _ ?side1 ?side2 ?side3 ?side4 A24.out).mono ?_); (case side1 => repeat (first | exact (Kd.R_reads' HO219.out).2.2 | with_reducible apply cA_|with_reducible apply cN_|with_reducible apply cD_)); (case side2 => exact (Kd.R_reads' HO219.out).2.1); (case side3 => repeat (first | exact (Kd.R_reads' HO209.out).2.2 | with_reducible apply cA_|with_reducible apply cN_|with_reducible apply cD_)); (case side4 => exact (Kd.R_reads' HO209.out).2.1); rintro e w31 ⟨rfl, hb⟩; refine ⟨_, rfl, ?_⟩; have n0_ := Aside0.mk (Kd.R_below (by (with_reducible repeat first|apply rA_|apply rN_|apply rD_); exact HO202.out) hb); have n1_ := Aside0.mk (Kd.R_below (by (with_reducible repeat first|apply rA_|apply rN_|apply rD_); exact HO205.out) hb); have n2_ := Aside0.mk (Kd.R_below (by (with_reducible repeat first|apply rA_|apply rN_|apply rD_); exact HO209.out) hb); have n3_ := Aside0.mk (Kd.R_below (by (with_reducible repeat first|apply rA_|apply rN_|apply rD_); exact HO212.out) hb); have n4_ := Aside0.mk (Kd.R_below (by (with_reducible repeat first|apply rA_|apply rN_|apply rD_); exact HO215.out) hb); have n5_ := Aside0.mk (Kd.R_below (by (with_reducible repeat first|apply rA_|apply rN_|apply rD_); exact HO219.out) hb); have n6_ := Aside0.mk (below_step (by repeat (first | (with_reducible first|exact HB.out|apply vA_|apply vN_|apply vD_) | exact HB.out)) hb); clear HO202; clear HO205; clear HO209; clear HO212; clear HO215; clear HO219; clear HB; have HO202 := n0_; have HO205 := n1_; have HO209 := n2_; have HO212 := n3_; have HO215 := n4_; have HO219 := n5_; have HB := n6_; clear n0_ n1_ n2_ n3_ n4_ n5_ n6_; (try clear hb); (try clear hb2); (try clear hk); (try clear hi)))
          go_meet
          case rel => exact ⟨_, (true), (by first | rfl | (simp; done) | (simp [*]; done)), H', ⟨by first | omega | exact Nat.le_refl _⟩, ⟨by (with_reducible repeat first|apply rA_|apply rN_|apply rD_); exact Kd.R_mono HO209.out (fun _ hk => ⟨hk.1.1.2, ⟨hk.1.2, hk.2⟩⟩)⟩, ⟨by (with_reducible repeat first|apply rA_|apply rN_|apply rD_); exact Kd.R_mono HO212.out (fun _ hk => ⟨hk.1.1.2, ⟨hk.1.2, hk.2⟩⟩)⟩, ⟨by (with_reducible repeat first|apply rA_|apply rN_|apply rD_); exact Kd.R_mono HO215.out (fun _ hk => ⟨hk.1.1.2, ⟨hk.1.2, hk.2⟩⟩)⟩, ⟨by (with_reducible repeat first|apply rA_|apply rN_|apply rD_); exact Kd.R_mono HO219.out (fun _ hk => ⟨hk.1.1.2, ⟨hk.1.2, hk.2⟩⟩)⟩, ⟨by repeat (first | (with_reducible first|exact HB.out|apply vA_|apply vN_|apply vD_) | exact HB.out)⟩⟩
      case rest =>
        clear HC13
        try clear c1
        try clear c2
        try clear p2
        try clear c3
        try clear c4
        try clear c4b0
        try clear c6
        try clear c6b0
        try clear c25
        try clear c28
        try clear c29
        try clear c30
        try clear c31
        obtain ⟨kq, x53_12, rfl, HA, HJ12, HO_6, HO_8, HO_9, HO_10, HB⟩ := hcut
        cases kq with
        | zero => exact absurd HA.out (by simp [laws_FnExactNewPairs.j0])
        | succ kj12 =>
          have H := HA.out
          clear HA
          simp only [laws_FnExactNewPairs.j0] at H
          by_cases c32 : x53_12 = true
          · subst c32
            have H1 : (some false) = some r := by rw [if_pos rfl] at H; exact H
            clear H
            have H := H1
            clear H1
            obtain rfl := Option.some.inj H
            go_wp2
            go_ret
            exact ⟨by first | rfl | (simp [errW_none, errW_some] <;> rfl) | (simp [*, errW_none, errW_some] <;> rfl), by repeat (first | (with_reducible first|exact HB.out|apply vA_|apply vN_|apply vD_) | exact HB.out)⟩
          · replace c32 := Bool.eq_false_iff.mpr c32
            subst c32
            have H1 : ((laws_toPairS.f kj12 l0).bind fun t221 => ((laws_eqPairS.f kj12 t210 t221).bind fun t224 => (if t224 = true then ((laws_toPairS.f kj12 l1).bind fun t225 => ((laws_eqPairS.f kj12 t213 t225).bind fun t228 => (if t228 = true then ((laws_markPairS.f kj12 t210 1).bind fun bt229 => ((laws_markPairS.f kj12 t213 bt229.1).bind fun bt231 => (if bt231.1 < 0 then (laws_FnExactNewPairs.j1 kj12 l0 l1 t206 t207 t216 true) else ((laws_eqPairS.f kj12 t216 t206).bind fun t233 => (if t233 = true then (laws_FnExactNewPairs.j1 kj12 l0 l1 t206 t207 t216 (t217 != t207)) else (laws_FnExactNewPairs.j1 kj12 l0 l1 t206 t207 t216 true)))))) else (some false)))) else (some false)))) = some r := by rw [if_neg (show ¬ (false = true) by decide)] at H; exact H
            clear H
            have H := H1
            clear H1
            replace H := Option.bind_eq_some_iff.mp H
            obtain ⟨t221, A330, H⟩ := H
            replace H : ((laws_eqPairS.f kj12 t210 t221).bind fun t224 => (if t224 = true then ((laws_toPairS.f kj12 l1).bind fun t225 => ((laws_eqPairS.f kj12 t213 t225).bind fun t228 => (if t228 = true then ((laws_markPairS.f kj12 t210 1).bind fun bt229 => ((laws_markPairS.f kj12 t213 bt229.1).bind fun bt231 => (if bt231.1 < 0 then (laws_FnExactNewPairs.j1 kj12 l0 l1 t206 t207 t216 true) else ((laws_eqPairS.f kj12 t216 t206).bind fun t233 => (if t233 = true then (laws_FnExactNewPairs.j1 kj12 l0 l1 t206 t207 t216 (t217 != t207)) else (laws_FnExactNewPairs.j1 kj12 l0 l1 t206 t207 t216 true)))))) else (some false)))) else (some false))) = some r := H
            have A33 := Aside0.mk A330
            clear A330
            replace H := Option.bind_eq_some_iff.mp H
            obtain ⟨t224, A340, H⟩ := H
            replace H : (if t224 = true then ((laws_toPairS.f kj12 l1).bind fun t225 => ((laws_eqPairS.f kj12 t213 t225).bind fun t228 => (if t228 = true then ((laws_markPairS.f kj12 t210 1).bind fun bt229 => ((laws_markPairS.f kj12 t213 bt229.1).bind fun bt231 => (if bt231.1 < 0 then (laws_FnExactNewPairs.j1 kj12 l0 l1 t206 t207 t216 true) else ((laws_eqPairS.f kj12 t216 t206).bind fun t233 => (if t233 = true then (laws_FnExactNewPairs.j1 kj12 l0 l1 t206 t207 t216 (t217 != t207)) else (laws_FnExactNewPairs.j1 kj12 l0 l1 t206 t207 t216 true)))))) else (some false)))) else (some false)) = some r := H
            have A34 := Aside0.mk A340
            clear A340
            by_cases c35 : t224 = true
            · subst c35
              have H1 : ((laws_toPairS.f kj12 l1).bind fun t225 => ((laws_eqPairS.f kj12 t213 t225).bind fun t228 => (if t228 = true then ((laws_markPairS.f kj12 t210 1).bind fun bt229 => ((laws_markPairS.f kj12 t213 bt229.1).bind fun bt231 => (if bt231.1 < 0 then (laws_FnExactNewPairs.j1 kj12 l0 l1 t206 t207 t216 true) else ((laws_eqPairS.f kj12 t216 t206).bind fun t233 => (if t233 = true then (laws_FnExactNewPairs.j1 kj12 l0 l1 t206 t207 t216 (t217 != t207)) else (laws_FnExactNewPairs.j1 kj12 l0 l1 t206 t207 t216 true)))))) else (some false)))) = some r := by rw [if_pos rfl] at H; exact H
              clear H
              have H := H1
              clear H1
              replace H := Option.bind_eq_some_iff.mp H
              obtain ⟨t225, A360, H⟩ := H
              replace H : ((laws_eqPairS.f kj12 t213 t225).bind fun t228 => (if t228 = true then ((laws_markPairS.f kj12 t210 1).bind fun bt229 => ((laws_markPairS.f kj12 t213 bt229.1).bind fun bt231 => (if bt231.1 < 0 then (laws_FnExactNewPairs.j1 kj12 l0 l1 t206 t207 t216 true) else ((laws_eqPairS.f kj12 t216 t206).bind fun t233 => (if t233 = true then (laws_FnExactNewPairs.j1 kj12 l0 l1 t206 t207 t216 (t217 != t207)) else (laws_FnExactNewPairs.j1 kj12 l0 l1 t206 t207 t216 true)))))) else (some false))) = some r := H
              have A36 := Aside0.mk A360
              clear A360
              replace H := Option.bind_eq_some_iff.mp H
              obtain ⟨t228, A370, H⟩ := H
              replace H : (if t228 = true then ((laws_markPairS.f kj12 t210 1).bind fun bt229 => ((laws_markPairS.f kj12 t213 bt229.1).bind fun bt231 => (if bt231.1 < 0 then (laws_FnExactNewPairs.j1 kj12 l0 l1 t206 t207 t216 true) else ((laws_eqPairS.f kj12 t216 t206).bind fun t233 => (if t233 = true then (laws_FnExactNewPairs.j1 kj12 l0 l1 t206 t207 t216 (t217 != t207)) else (laws_FnExactNewPairs.j1 kj12 l0 l1 t206 t207 t216 true)))))) else (some false)) = some r := H
              have A37 := Aside0.mk A370
              clear A370
              by_cases c38 : t228 = true
              · subst c38
                have H1 : ((laws_markPairS.f kj12 t210 1).bind fun bt229 => ((laws_markPairS.f kj12 t213 bt229.1).bind fun bt231 => (if bt231.1 < 0 then (laws_FnExactNewPairs.j1 kj12 l0 l1 t206 t207 t216 true) else ((laws_eqPairS.f kj12 t216 t206).bind fun t233 => (if t233 = true then (laws_FnExactNewPairs.j1 kj12 l0 l1 t206 t207 t216 (t217 != t207)) else (laws_FnExactNewPairs.j1 kj12 l0 l1 t206 t207 t216 true)))))) = some r := by rw [if_pos rfl] at H; exact H
                clear H
                have H := H1
                clear H1
                replace H := Option.bind_eq_some_iff.mp H
                obtain ⟨⟨t229, t230⟩, A390, H⟩ := H
                replace H : ((laws_markPairS.f kj12 t213 t229).bind fun bt231 => (if bt231.1 < 0 then (laws_FnExactNewPairs.j1 kj12 l0 l1 t206 t207 t216 true) else ((laws_eqPairS.f kj12 t216 t206).bind fun t233 => (if t233 = true then (laws_FnExactNewPairs.j1 kj12 l0 l1 t206 t207 t216 (t217 != t207)) else (laws_FnExactNewPairs.j1 kj12 l0 l1 t206 t207 t216 true))))) = some r := H
                have A39 := Aside0.mk A390
                clear A390
                replace H := Option.bind_eq_some_iff.mp H
                obtain ⟨⟨t231, t232⟩, A400, H⟩ := H
                replace H : (if t231 < 0 then (laws_FnExactNewPairs.j1 kj12 l0 l1 t206 t207 t216 true) else ((laws_eqPairS.f kj12 t216 t206).bind fun t233 => (if t233 = true then (laws_FnExactNewPairs.j1 kj12 l0 l1 t206 t207 t216 (t217 != t207)) else (laws_FnExactNewPairs.j1 kj12 l0 l1 t206 t207 t216 true)))) = some r := H
                have A40 := Aside0.mk A400
                clear A400
                have HC41 := Aside0.mk H
                clear H
                go_upto_region 21 with (first | ((with_reducible refine gate_callee (f := 30) rfl ?_); refine goesL_ (some 56) rfl rfl Try.func30 (by kernel_rfl) rfl #[.slice A0 l0.length c0] rfl (by (try simp only [List.map_toArray, List.map_cons, List.map_nil]); first | done | rfl | (simp only [List.length_drop, List.length_take]; rfl)) ?_; (with_reducible refine (laws_toPairS.calls kj12 _ _ l0 t221 _ ?side1 ?side2 A33.out).mono ?_); (case side1 => repeat (first | exact (Kd.C_below HR0.out HB.out) | with_reducible apply cA_|with_reducible apply cN_|with_reducible apply cD_)); (case side2 => exact HC0.out); rintro e w42 ⟨v222, rfl, ho0, hb⟩; refine ⟨_, rfl, ?_⟩; have n0_ := Aside0.mk (Kd.R_elder' (by (with_reducible repeat first|apply rA_|apply rN_|apply rD_); exact HO_6.out) (by first | exact Kd.R_base ho0 | exact Kd.S_base ho0 | exact Kd.R_base ho0) hb); have n1_ := Aside0.mk (Kd.R_elder' (by (with_reducible repeat first|apply rA_|apply rN_|apply rD_); exact HO_8.out) (by first | exact Kd.R_base ho0 | exact Kd.S_base ho0 | exact Kd.R_base ho0) hb); have n2_ := Aside0.mk (Kd.R_elder' (by (with_reducible repeat first|apply rA_|apply rN_|apply rD_); exact HO_9.out) (by first | exact Kd.R_base ho0 | exact Kd.S_base ho0 | exact Kd.R_base ho0) hb); have n3_ := Aside0.mk (Kd.R_elder' (by (with_reducible repeat first|apply rA_|apply rN_|apply rD_); exact HO_10.out) (by first | exact Kd.R_base ho0 | exact Kd.S_base ho0 | exact Kd.R_base ho0) hb); have n4_ := Aside0.mk (Kd.R_lower (Kd.R_new' (Kd.R_new' (Kd.R_new' (Kd.R_new' ho0 (Kd.R_lt (by (with_reducible repeat first|apply rA_|apply rN_|apply rD_); exact HO_6.out))) (Kd.R_lt (by (with_reducible repeat first|apply rA_|apply rN_|apply rD_); exact HO_8.out))) (Kd.R_lt (by (with_reducible repeat first|apply rA_|apply rN_|apply rD_); exact HO_9.out))) (Kd.R_lt (by (with_reducible repeat first|apply rA_|apply rN_|apply rD_); exact HO_10.out))) (below_size (by repeat (first | (with_reducible first|exact HB.out|apply vA_|apply vN_|apply vD_) | exact HB.out)))); have n5_ := Aside0.mk (below_step (by repeat (first | (with_reducible first|exact HB.out|apply vA_|apply vN_|apply vD_) | exact HB.out)) hb); clear HO_6; clear HO_8; clear HO_9; clear HO_10; clear HB; have HO_6 := n0_; have HO_8 := n1_; have HO_9 := n2_; have HO_10 := n3_; have HO223 := n4_; have HB := n5_; clear n0_ n1_ n2_ n3_ n4_ n5_; (try clear hb); (try clear hb2); (try clear hk); (try clear hi); (try clear ho0); obtain ⟨Ao43, co43, eo43⟩ := Kd.R_slice HO223.out; subst eo43) | ((with_reducible refine gate_callee (f := 32) rfl ?_); refine goesL_ (some 57) rfl rfl Try.func32 (by kernel_rfl) rfl #[.slice Ao21 t210.length co21, .slice Ao43 t221.length co43] rfl (by (try simp only [List.map_toArray, List.map_cons, List.map_nil]); first | done | rfl | (simp only [List.length_drop, List.length_take]; rfl)) ?_; (with_reducible refine (laws_eqPairS.calls kj12 _ _ t210 _ _ t221 true _ ?side1 ?side2 ?side3 ?side4 A34.out).mono ?_); (case side1 => repeat (first | exact (Kd.R_reads' HO_8.out).2.2 | with_reducible apply cA_|with_reducible apply cN_|with_reducible apply cD_)); (case side2 => exact (Kd.R_reads' HO_8.out).2.1); (case side3 => repeat (first | exact (Kd.R_reads' HO223.out).2.2 | with_reducible apply cA_|with_reducible apply cN_|with_reducible apply cD_)); (case side4 => exact (Kd.R_reads' HO223.out).2.1); rintro e w44 ⟨rfl, hb⟩; refine ⟨_, rfl, ?_⟩; have n0_ := Aside0.mk (Kd.R_below (by (with_reducible repeat first|apply rA_|apply rN_|apply rD_); exact HO_6.out) hb); have n1_ := Aside0.mk (Kd.R_below (by (with_reducible repeat first|apply rA_|apply rN_|apply rD_); exact HO_8.out) hb); have n2_ := Aside0.mk (Kd.R_below (by (with_reducible repeat first|apply rA_|apply rN_|apply rD_); exact HO_9.out) hb); have n3_ := Aside0.mk (Kd.R_below (by (with_reducible repeat first|apply rA_|apply rN_|apply rD_); exact HO_10.out) hb); have n4_ := Aside0.mk (Kd.R_below (by (with_reducible repeat first|apply rA_|apply rN_|apply rD_); exact HO223.out) hb); have n5_ := Aside0.mk (below_step (by repeat (first | (with_reducible first|exact HB.out|apply vA_|apply vN_|apply vD_) | exact HB.out)) hb); clear HO_6; clear HO_8; clear HO_9; clear HO_10; clear HO223; clear HB; have HO_6 := n0_; have HO_8 := n1_; have HO_9 := n2_; have HO_10 := n3_; have HO223 := n4_; have HB := n5_; clear n0_ n1_ n2_ n3_ n4_ n5_; (try clear hb); (try clear hb2); (try clear hk); (try clear hi)) | ((with_reducible refine gate_callee (f := 30) rfl ?_); refine goesL_ (some 61) rfl rfl Try.func30 (by kernel_rfl) rfl #[.slice A1 l1.length c1] rfl (by (try simp only [List.map_toArray, List.map_cons, List.map_nil]); first | done | rfl | (simp only [List.length_drop, List.length_take]; rfl)) ?_; (with_reducible refine (laws_toPairS.calls kj12 _ _ l1 t225 _ ?side1 ?side2 A36.out).mono ?_); (case side1 => repeat (first | exact (Kd.C_below HR1.out HB.out) | with_reducible apply cA_|with_reducible apply cN_|with_reducible apply cD_)); (case side2 => exact HC1.out); rintro e w45 ⟨v226, rfl, ho0, hb⟩; refine ⟨_, rfl, ?_⟩; have n0_ := Aside0.mk (Kd.R_elder' (by (with_reducible repeat first|apply rA_|apply rN_|apply rD_); exact HO_6.out) (by first | exact Kd.R_base ho0 | exact Kd.S_base ho0 | exact Kd.R_base ho0) hb); have n1_ := Aside0.mk (Kd.R_elder' (by (with_reducible repeat first|apply rA_|apply rN_|apply rD_); exact HO_8.out) (by first | exact Kd.R_base ho0 | exact Kd.S_base ho0 | exact Kd.R_base ho0) hb); have n2_ := Aside0.mk (Kd.R_elder' (by (with_reducible repeat first|apply rA_|apply rN_|apply rD_); exact HO_9.out) (by first | exact Kd.R_base ho0 | exact Kd.S_base ho0 | exact Kd.R_base ho0) hb); have n3_ := Aside0.mk (Kd.R_elder' (by (with_reducible repeat first|apply rA_|apply rN_|apply rD_); exact HO_10.out) (by first | exact Kd.R_base ho0 | exact Kd.S_base ho0 | exact Kd.R_base ho0) hb); have n4_ := Aside0.mk (Kd.R_elder' (by (with_reducible repeat first|apply rA_|apply rN_|apply rD_); exact HO223.out) (by first | exact Kd.R_base ho0 | exact Kd.S_base ho0 | exact Kd.R_base ho0) hb); have n5_ := Aside0.mk (Kd.R_lower (Kd.R_new' (Kd.R_new' (Kd.R_new' (Kd.R_new' (Kd.R_new' ho0 (Kd.R_lt (by (with_reducible repeat first|apply rA_|apply rN_|apply rD_); exact HO_6.out))) (Kd.R_lt (by (with_reducible repeat first|apply rA_|apply rN_|apply rD_); exact HO_8.out))) (Kd.R_lt (by (with_reducible repeat first|apply rA_|apply rN_|apply rD_); exact HO_9.out))) (Kd.R_lt (by (with_reducible repeat first|apply rA_|apply rN_|apply rD_); exact HO_10.out))) (Kd.R_lt (by (with_reducible repeat first|apply rA_|apply rN_|apply rD_); exact HO223.out))) (below_size (by repeat (first | (with_reducible first|exact HB.out|apply vA_|apply vN_|apply vD_) | exact HB.out)))); have n6_ := Aside0.mk (below_step (by repeat (first | (with_reducible first|exact HB.out|apply vA_|apply vN_|apply vD_) | exact HB.out)) hb); clear HO_6; clear HO_8; clear HO_9; clear HO_10; clear HO223; clear HB; have HO_6 := n0_; have HO_8 := n1_; have HO_9 := n2_; have HO_10 := n3_; have HO223 := n4_; have HO227 := n5_; have HB := n6_; clear n0_ n1_ n2_ n3_ n4_ n5_ n6_; (try clear hb); (try clear hb2); (try clear hk); (try clear hi); (try clear ho0); obtain ⟨Ao46, co46, eo46⟩ := Kd.R_slice HO227.out; subst eo46) | ((with_reducible refine gate_callee (f := 32) rfl ?_); refine goesL_ (some 62) rfl rfl Try.func32 (by kernel_rfl) rfl #[.slice Ao22 t213.length co22, .slice Ao46 t225.length co46] rfl (by (try simp only [List.map_toArray, List.map_cons, List.map_nil]); first | done | rfl | (simp only [List.length_drop, List.length_take]; rfl)) ?_; (with_reducible refine (laws_eqPairS.calls kj12 _ _ t213 _ _ t225 true _ ?side1 ?side2 ?side3 ?side4 A37.out).mono ?_); (case side1 => repeat (first | exact (Kd.R_reads' HO_9.out).2.2 | with_reducible apply cA_|with_reducible apply cN_|with_reducible apply cD_)); (case side2 => exact (Kd.R_reads' HO_9.out).2.1); (case side3 => repeat (first | exact (Kd.R_reads' HO227.out).2.2 | with_reducible apply cA_|with_reducible apply cN_|with_reducible apply cD_)); (case side4 => exact (Kd.R_reads' HO227.out).2.1); rintro e w47 ⟨rfl, hb⟩; refine ⟨_, rfl, ?_⟩; have n0_ := Aside0.mk (Kd.R_below (by (with_reducible repeat first|apply rA_|apply rN_|apply rD_); exact HO_6.out) hb); have n1_ := Aside0.mk (Kd.R_below (by (with_reducible repeat first|apply rA_|apply rN_|apply rD_); exact HO_8.out) hb); have n2_ := Aside0.mk (Kd.R_below (by (with_reducible repeat first|apply rA_|apply rN_|apply rD_); exact HO_9.out) hb); have n3_ := Aside0.mk (Kd.R_below (by (with_reducible repeat first|apply rA_|apply rN_|apply rD_); exact HO_10.out) hb); have n4_ := Aside0.mk (Kd.R_below (by (with_reducible repeat first|apply rA_|apply rN_|apply rD_); exact HO223.out) hb); have n5_ := Aside0.mk (Kd.R_below (by (with_reducible repeat first|apply rA_|apply rN_|apply rD_); exact HO227.out) hb); have n6_ := Aside0.mk (below_step (by repeat (first | (with_reducible first|exact HB.out|apply vA_|apply vN_|apply vD_) | exact HB.out)) hb); clear HO_6; clear HO_8; clear HO_9; clear HO_10; clear HO223; clear HO227; clear HB; have HO_6 := n0_; have HO_8 := n1_; have HO_9 := n2_; have HO_10 := n3_; have HO223 := n4_; have HO227 := n5_; have HB := n6_; clear n0_ n1_ n2_ n3_ n4_ n5_ n6_; (try clear hb); (try clear hb2); (try clear hk); (try clear hi)) | ((with_reducible refine gate_callee (f := 33) rfl ?_); refine goesL_ (some 66) rfl rfl Try.func33 (by kernel_rfl) rfl #[.slice Ao21 t210.length co21, .int .i64 1] rfl (by (try simp only [List.map_toArray, List.map_cons, List.map_nil]); first | done | rfl | (simp only [List.length_drop, List.length_take]; rfl)) ?_; (with_reducible refine (laws_markPairS.calls kj12 (fun k_ => some k_ = (.slice Ao21 t210.length co21 : Value).ownBlock) (.slice Ao21 t210.length co21) t210 1 t229 t230 w _ ?side1 ?side2 A39.out).mono ?_); (case side1 => repeat (first | (with_reducible first|exact HB.out|apply vA_|apply vN_|apply vD_) | exact HB.out)); (case side2 => exact Kd.R_tight rfl HO_8.out); rintro e w48 ⟨rfl, hy0, hb, hkp⟩; refine ⟨_, rfl, ?_⟩; have n0_ := Aside0.mk (Kd.R_mono (ok' := fun k_ => some k_ ≠ (.slice Ao21 t210.length co21 : Value).ownBlock ∧ some k_ ≠ (.slice Ao22 t213.length co22 : Value).ownBlock ∧ some k_ ≠ (v218 : Value).ownBlock ∧ some k_ ≠ (.slice Ao43 t221.length co43 : Value).ownBlock ∧ some k_ ≠ (.slice Ao46 t225.length co46 : Value).ownBlock) (Kd.R_keptB (HO_6.out) hkp (fun k_ hk_ hs_ => (hk_.1.1.1) hs_)) (fun k_ hk_ => ⟨hk_.1.1.1.1, hk_.1.1.1.2.1, hk_.1.1.1.2.2, hk_.1.1.2, hk_.1.2⟩)); have n1_ := Aside0.mk (Kd.R_reok rfl hy0 (fun k_ e_ => HO_8.out.1 k_ e_)); have n2_ := Aside0.mk (Kd.R_mono (ok' := fun k_ => some k_ ≠ (v208 : Value).ownBlock ∧ some k_ ≠ (.slice Ao21 t210.length co21 : Value).ownBlock ∧ some k_ ≠ (v218 : Value).ownBlock ∧ some k_ ≠ (.slice Ao43 t221.length co43 : Value).ownBlock ∧ some k_ ≠ (.slice Ao46 t225.length co46 : Value).ownBlock) (Kd.R_keptB (HO_9.out) hkp (fun k_ hk_ hs_ => (hk_.1.1.2.1) hs_)) (fun k_ hk_ => ⟨hk_.1.1.1.1, hk_.1.1.1.2.1, hk_.1.1.1.2.2, hk_.1.1.2, hk_.1.2⟩)); have n3_ := Aside0.mk (Kd.R_mono (ok' := fun k_ => some k_ ≠ (v208 : Value).ownBlock ∧ some k_ ≠ (.slice Ao21 t210.length co21 : Value).ownBlock ∧ some k_ ≠ (.slice Ao22 t213.length co22 : Value).ownBlock ∧ some k_ ≠ (.slice Ao43 t221.length co43 : Value).ownBlock ∧ some k_ ≠ (.slice Ao46 t225.length co46 : Value).ownBlock) (Kd.R_keptB (HO_10.out) hkp (fun k_ hk_ hs_ => (hk_.1.1.2.1) hs_)) (fun k_ hk_ => ⟨hk_.1.1.1.1, hk_.1.1.1.2.1, hk_.1.1.1.2.2, hk_.1.1.2, hk_.1.2⟩)); have n4_ := Aside0.mk (Kd.R_mono (ok' := fun k_ => some k_ ≠ (v208 : Value).ownBlock ∧ some k_ ≠ (.slice Ao21 t210.length co21 : Value).ownBlock ∧ some k_ ≠ (.slice Ao22 t213.length co22 : Value).ownBlock ∧ some k_ ≠ (v218 : Value).ownBlock ∧ some k_ ≠ (.slice Ao46 t225.length co46 : Value).ownBlock) (Kd.R_keptB (HO223.out) hkp (fun k_ hk_ hs_ => (hk_.1.1.1.2) hs_)) (fun k_ hk_ => ⟨hk_.1.1.1.1.1.2, hk_.1.1.1.1.2, hk_.1.1.1.2, hk_.1.1.2, hk_.1.2⟩)); have n5_ := Aside0.mk (Kd.R_mono (ok' := fun k_ => some k_ ≠ (v208 : Value).ownBlock ∧ some k_ ≠ (.slice Ao21 t210.length co21 : Value).ownBlock ∧ some k_ ≠ (.slice Ao22 t213.length co22 : Value).ownBlock ∧ some k_ ≠ (v218 : Value).ownBlock ∧ some k_ ≠ (.slice Ao43 t221.length co43 : Value).ownBlock) (Kd.R_keptB (HO227.out) hkp (fun k_ hk_ hs_ => (hk_.1.1.1.2) hs_)) (fun k_ hk_ => ⟨hk_.1.1.1.1.1.2, hk_.1.1.1.1.2, hk_.1.1.1.2, hk_.1.1.2, hk_.1.2⟩)); have n6_ := Aside0.mk (hb); clear HO_6; clear HO_8; clear HO_9; clear HO_10; clear HO223; clear HO227; clear HB; have HO_6 := n0_; have HO_8 := n1_; have HO_9 := n2_; have HO_10 := n3_; have HO223 := n4_; have HO227 := n5_; have HB := n6_; clear n0_ n1_ n2_ n3_ n4_ n5_ n6_; (try clear hb); (try clear hkp); (try clear hy0)) | ((with_reducible refine gate_callee (f := 33) rfl ?_); refine goesL_ (some 69) rfl rfl Try.func33 (by kernel_rfl) rfl #[.slice Ao22 t213.length co22, .int .i64 t229] rfl (by (try simp only [List.map_toArray, List.map_cons, List.map_nil]); first | done | rfl | (simp only [List.length_drop, List.length_take]; rfl)) ?_; (with_reducible refine (laws_markPairS.calls kj12 (fun k_ => some k_ = (.slice Ao22 t213.length co22 : Value).ownBlock) (.slice Ao22 t213.length co22) t213 t229 t231 t232 w _ ?side1 ?side2 A40.out).mono ?_); (case side1 => repeat (first | (with_reducible first|exact HB.out|apply vA_|apply vN_|apply vD_) | exact HB.out)); (case side2 => exact Kd.R_tight rfl HO_9.out); rintro e w49 ⟨rfl, hy0, hb, hkp⟩; refine ⟨_, rfl, ?_⟩; have n0_ := Aside0.mk (Kd.R_mono (ok' := fun k_ => some k_ ≠ (.slice Ao21 t210.length co21 : Value).ownBlock ∧ some k_ ≠ (.slice Ao22 t213.length co22 : Value).ownBlock ∧ some k_ ≠ (v218 : Value).ownBlock ∧ some k_ ≠ (.slice Ao43 t221.length co43 : Value).ownBlock ∧ some k_ ≠ (.slice Ao46 t225.length co46 : Value).ownBlock) (Kd.R_keptB (HO_6.out) hkp (fun k_ hk_ hs_ => (hk_.2.1) hs_)) (fun k_ hk_ => ⟨hk_.1.1, hk_.1.2.1, hk_.1.2.2.1, hk_.1.2.2.2.1, hk_.1.2.2.2.2⟩)); have n1_ := Aside0.mk (Kd.R_mono (ok' := fun k_ => some k_ ≠ (v208 : Value).ownBlock ∧ some k_ ≠ (.slice Ao22 t213.length co22 : Value).ownBlock ∧ some k_ ≠ (v218 : Value).ownBlock ∧ some k_ ≠ (.slice Ao43 t221.length co43 : Value).ownBlock ∧ some k_ ≠ (.slice Ao46 t225.length co46 : Value).ownBlock) (Kd.R_keptB (HO_8.out) hkp (fun k_ hk_ hs_ => (hk_.1.1.2.1) hs_)) (fun k_ hk_ => ⟨hk_.1.1.1.1, hk_.1.1.1.2.1, hk_.1.1.1.2.2, hk_.1.1.2, hk_.1.2⟩)); have n2_ := Aside0.mk (Kd.R_reok rfl hy0 (fun k_ e_ => HO_9.out.1 k_ e_)); have n3_ := Aside0.mk (Kd.R_mono (ok' := fun k_ => some k_ ≠ (v208 : Value).ownBlock ∧ some k_ ≠ (.slice Ao21 t210.length co21 : Value).ownBlock ∧ some k_ ≠ (.slice Ao22 t213.length co22 : Value).ownBlock ∧ some k_ ≠ (.slice Ao43 t221.length co43 : Value).ownBlock ∧ some k_ ≠ (.slice Ao46 t225.length co46 : Value).ownBlock) (Kd.R_keptB (HO_10.out) hkp (fun k_ hk_ hs_ => (hk_.2.2.1) hs_)) (fun k_ hk_ => ⟨hk_.1.1, hk_.1.2.1, hk_.1.2.2.1, hk_.1.2.2.2.1, hk_.1.2.2.2.2⟩)); have n4_ := Aside0.mk (Kd.R_mono (ok' := fun k_ => some k_ ≠ (v208 : Value).ownBlock ∧ some k_ ≠ (.slice Ao21 t210.length co21 : Value).ownBlock ∧ some k_ ≠ (.slice Ao22 t213.length co22 : Value).ownBlock ∧ some k_ ≠ (v218 : Value).ownBlock ∧ some k_ ≠ (.slice Ao46 t225.length co46 : Value).ownBlock) (Kd.R_keptB (HO223.out) hkp (fun k_ hk_ hs_ => (hk_.2.2.1) hs_)) (fun k_ hk_ => ⟨hk_.1.1, hk_.1.2.1, hk_.1.2.2.1, hk_.1.2.2.2.1, hk_.1.2.2.2.2⟩)); have n5_ := Aside0.mk (Kd.R_mono (ok' := fun k_ => some k_ ≠ (v208 : Value).ownBlock ∧ some k_ ≠ (.slice Ao21 t210.length co21 : Value).ownBlock ∧ some k_ ≠ (.slice Ao22 t213.length co22 : Value).ownBlock ∧ some k_ ≠ (v218 : Value).ownBlock ∧ some k_ ≠ (.slice Ao43 t221.length co43 : Value).ownBlock) (Kd.R_keptB (HO227.out) hkp (fun k_ hk_ hs_ => (hk_.2.2.1) hs_)) (fun k_ hk_ => ⟨hk_.1.1, hk_.1.2.1, hk_.1.2.2.1, hk_.1.2.2.2.1, hk_.1.2.2.2.2⟩)); have n6_ := Aside0.mk (hb); clear HO_6; clear HO_8; clear HO_9; clear HO_10; clear HO223; clear HO227; clear HB; have HO_6 := n0_; have HO_8 := n1_; have HO_9 := n2_; have HO_10 := n3_; have HO223 := n4_; have HO227 := n5_; have HB := n6_; clear n0_ n1_ n2_ n3_ n4_ n5_ n6_; (try clear hb); (try clear hkp); (try clear hy0)))
                (try simp only [Act.put, List.setIfInBounds_toArray, List.set_cons_zero, List.set_cons_succ])
                go_cut [82] (fun v82 wc => ∃ (kq : Nat) (x82_40 : Bool), v82 = .bool x82_40 ∧ Aside0 (laws_FnExactNewPairs.j1 kq l0 l1 t206 t207 t216 x82_40 = some r) ∧ Aside0 (kq ≤ kj12) ∧ Aside0 (Kd.R k105 105 wc w.heap.size (fun k_ => some k_ ≠ (v218 : Value).ownBlock) v208 t206) ∧ Aside0 (Kd.R k105 105 wc w.heap.size (fun k_ => some k_ ≠ (v208 : Value).ownBlock) v218 t216) ∧ Aside0 (Below w.heap.size w wc))
                case first =>
                  have H := HC41.out
                  clear HC41
                  by_cases c50 : t231 < 0
                  · rw [if_pos c50] at H
                    have c50b0 : decide (t231 < 0) = true := decide_eq_true c50
                    clear c50
                    (first | rw [c50b0] | (simp only [i64_w, i32_w]; rw [c50b0]) | skip)
                    have H' := Aside0.mk H
                    clear H
                    go_wp2
                    go_meet
                    case rel => exact ⟨_, (true), (by first | rfl | (simp; done) | (simp [*]; done)), H', ⟨by have := HJ12.out; first | omega | exact Nat.le_refl _⟩, ⟨by (with_reducible repeat first|apply rA_|apply rN_|apply rD_); exact Kd.R_mono HO_6.out (fun _ hk => hk.2.2.1)⟩, ⟨by (with_reducible repeat first|apply rA_|apply rN_|apply rD_); exact Kd.R_mono HO_10.out (fun _ hk => hk.1)⟩, ⟨by repeat (first | (with_reducible first|exact HB.out|apply vA_|apply vN_|apply vD_) | exact HB.out)⟩⟩
                  · rw [if_neg c50] at H
                    have c50b0 : decide (t231 < 0) = false := decide_eq_false c50
                    clear c50
                    (first | rw [c50b0] | (simp only [i64_w, i32_w]; rw [c50b0]) | skip)
                    replace H := Option.bind_eq_some_iff.mp H
                    obtain ⟨t233, A510, H⟩ := H
                    replace H : (if t233 = true then (laws_FnExactNewPairs.j1 kj12 l0 l1 t206 t207 t216 (t217 != t207)) else (laws_FnExactNewPairs.j1 kj12 l0 l1 t206 t207 t216 true)) = some r := H
                    have A51 := Aside0.mk A510
                    clear A510
                    by_cases c52 : t233 = true
                    · subst c52
                      have H1 : (laws_FnExactNewPairs.j1 kj12 l0 l1 t206 t207 t216 (t217 != t207)) = some r := by rw [if_pos rfl] at H; exact H
                      clear H
                      have H := H1
                      clear H1
                      have H' := Aside0.mk H
                      clear H
                      obtain ⟨Ao53, co53, eo53⟩ := Kd.R_slice HO_10.out
                      subst eo53
                      obtain ⟨Ao54, co54, eo54⟩ := Kd.R_slice HO_6.out
                      subst eo54
                      go_wp2_with (first | (go_at_call 32; (with_reducible refine (laws_eqPairS.calls kj12 _ _ t216 _ _ t206 true _ ?side1 ?side2 ?side3 ?side4 A51.out).mono ?_); (case side1 => repeat (first | exact (Kd.R_reads' HO_10.out).2.2 | with_reducible apply cA_|with_reducible apply cN_|with_reducible apply cD_)); (case side2 => exact (Kd.R_reads' HO_10.out).2.1); (case side3 => repeat (first | exact (Kd.R_reads' HO_6.out).2.2 | with_reducible apply cA_|with_reducible apply cN_|with_reducible apply cD_)); (case side4 => exact (Kd.R_reads' HO_6.out).2.1); rintro e w55 ⟨rfl, hb⟩; have n0_ := Aside0.mk (Kd.R_below (by (with_reducible repeat first|apply rA_|apply rN_|apply rD_); exact HO_6.out) hb); have n1_ := Aside0.mk (Kd.R_below (by (with_reducible repeat first|apply rA_|apply rN_|apply rD_); exact HO_8.out) hb); have n2_ := Aside0.mk (Kd.R_below (by (with_reducible repeat first|apply rA_|apply rN_|apply rD_); exact HO_9.out) hb); have n3_ := Aside0.mk (Kd.R_below (by (with_reducible repeat first|apply rA_|apply rN_|apply rD_); exact HO_10.out) hb); have n4_ := Aside0.mk (Kd.R_below (by (with_reducible repeat first|apply rA_|apply rN_|apply rD_); exact HO223.out) hb); have n5_ := Aside0.mk (Kd.R_below (by (with_reducible repeat first|apply rA_|apply rN_|apply rD_); exact HO227.out) hb); have n6_ := Aside0.mk (below_step (by repeat (first | (with_reducible first|exact HB.out|apply vA_|apply vN_|apply vD_) | exact HB.out)) hb); clear HO_6; clear HO_8; clear HO_9; clear HO_10; clear HO223; clear HO227; clear HB; have HO_6 := n0_; have HO_8 := n1_; have HO_9 := n2_; have HO_10 := n3_; have HO223 := n4_; have HO227 := n5_; have HB := n6_; clear n0_ n1_ n2_ n3_ n4_ n5_ n6_; (try clear hb); (try clear hb2); (try clear hk); (try clear hi)))
                      go_meet
                      case rel => exact ⟨_, ((t217 != t207)), (by first | rfl | (simp; done) | (simp [*]; done)), H', ⟨by have := HJ12.out; first | omega | exact Nat.le_refl _⟩, ⟨by (with_reducible repeat first|apply rA_|apply rN_|apply rD_); exact Kd.R_mono HO_6.out (fun _ hk => hk.2.2.1)⟩, ⟨by (with_reducible repeat first|apply rA_|apply rN_|apply rD_); exact Kd.R_mono HO_10.out (fun _ hk => hk.1)⟩, ⟨by repeat (first | (with_reducible first|exact HB.out|apply vA_|apply vN_|apply vD_) | exact HB.out)⟩⟩
                    · replace c52 := Bool.eq_false_iff.mpr c52
                      subst c52
                      have H1 : (laws_FnExactNewPairs.j1 kj12 l0 l1 t206 t207 t216 true) = some r := by rw [if_neg (show ¬ (false = true) by decide)] at H; exact H
                      clear H
                      have H := H1
                      clear H1
                      have H' := Aside0.mk H
                      clear H
                      obtain ⟨Ao56, co56, eo56⟩ := Kd.R_slice HO_10.out
                      subst eo56
                      obtain ⟨Ao57, co57, eo57⟩ := Kd.R_slice HO_6.out
                      subst eo57
                      go_wp2_with (first | (go_at_call 32; (with_reducible refine (laws_eqPairS.calls kj12 _ _ t216 _ _ t206 false _ ?side1 ?side2 ?side3 ?side4 A51.out).mono ?_); (case side1 => repeat (first | exact (Kd.R_reads' HO_10.out).2.2 | with_reducible apply cA_|with_reducible apply cN_|with_reducible apply cD_)); (case side2 => exact (Kd.R_reads' HO_10.out).2.1); (case side3 => repeat (first | exact (Kd.R_reads' HO_6.out).2.2 | with_reducible apply cA_|with_reducible apply cN_|with_reducible apply cD_)); (case side4 => exact (Kd.R_reads' HO_6.out).2.1); rintro e w58 ⟨rfl, hb⟩; have n0_ := Aside0.mk (Kd.R_below (by (with_reducible repeat first|apply rA_|apply rN_|apply rD_); exact HO_6.out) hb); have n1_ := Aside0.mk (Kd.R_below (by (with_reducible repeat first|apply rA_|apply rN_|apply rD_); exact HO_8.out) hb); have n2_ := Aside0.mk (Kd.R_below (by (with_reducible repeat first|apply rA_|apply rN_|apply rD_); exact HO_9.out) hb); have n3_ := Aside0.mk (Kd.R_below (by (with_reducible repeat first|apply rA_|apply rN_|apply rD_); exact HO_10.out) hb); have n4_ := Aside0.mk (Kd.R_below (by (with_reducible repeat first|apply rA_|apply rN_|apply rD_); exact HO223.out) hb); have n5_ := Aside0.mk (Kd.R_below (by (with_reducible repeat first|apply rA_|apply rN_|apply rD_); exact HO227.out) hb); have n6_ := Aside0.mk (below_step (by repeat (first | (with_reducible first|exact HB.out|apply vA_|apply vN_|apply vD_) | exact HB.out)) hb); clear HO_6; clear HO_8; clear HO_9; clear HO_10; clear HO223; clear HO227; clear HB; have HO_6 := n0_; have HO_8 := n1_; have HO_9 := n2_; have HO_10 := n3_; have HO223 := n4_; have HO227 := n5_; have HB := n6_; clear n0_ n1_ n2_ n3_ n4_ n5_ n6_; (try clear hb); (try clear hb2); (try clear hk); (try clear hi)))
                      go_meet
                      case rel => exact ⟨_, (true), (by first | rfl | (simp; done) | (simp [*]; done)), H', ⟨by have := HJ12.out; first | omega | exact Nat.le_refl _⟩, ⟨by (with_reducible repeat first|apply rA_|apply rN_|apply rD_); exact Kd.R_mono HO_6.out (fun _ hk => hk.2.2.1)⟩, ⟨by (with_reducible repeat first|apply rA_|apply rN_|apply rD_); exact Kd.R_mono HO_10.out (fun _ hk => hk.1)⟩, ⟨by repeat (first | (with_reducible first|exact HB.out|apply vA_|apply vN_|apply vD_) | exact HB.out)⟩⟩
                case rest =>
                  clear HC41
                  try clear c1
                  try clear c2
                  try clear p2
                  try clear c3
                  try clear c4
                  try clear c4b0
                  try clear c5
                  try clear c6
                  try clear c6b0
                  try clear c25
                  try clear c28
                  try clear c29
                  try clear c30
                  try clear c31
                  try clear c32
                  try clear c33
                  try clear c35
                  try clear c38
                  try clear c50
                  try clear c50b0
                  try clear c52
                  try clear p2
                  obtain ⟨kq, x82_40, rfl, HA, HJ40, HO_6, HO_10, HB⟩ := hcut
                  cases kq with
                  | zero => exact absurd HA.out (by simp [laws_FnExactNewPairs.j1])
                  | succ kj40 =>
                    have H := HA.out
                    clear HA
                    simp only [laws_FnExactNewPairs.j1] at H
                    by_cases c59 : x82_40 = true
                    · subst c59
                      have H1 : (some false) = some r := by rw [if_pos rfl] at H; exact H
                      clear H
                      have H := H1
                      clear H1
                      obtain rfl := Option.some.inj H
                      go_wp2
                      go_ret
                      exact ⟨by first | rfl | (simp [errW_none, errW_some] <;> rfl) | (simp [*, errW_none, errW_some] <;> rfl), by repeat (first | (with_reducible first|exact HB.out|apply vA_|apply vN_|apply vD_) | exact HB.out)⟩
                    · replace c59 := Bool.eq_false_iff.mpr c59
                      subst c59
                      have H1 : ((laws_markPairS.f kj40 t216 1).bind fun bt234 => ((laws_heldPairS.f kj40 bt234.2 1).bind fun t236 => (if t236 < 0 then (some false) else (if t236 = bt234.1 then ((laws_toPairS.f kj40 l0).bind fun t237 => ((laws_toPairS.f kj40 l1).bind fun t240 => ((impl_NewPairs.f kj40 t237 t240).bind fun bt243 => ((laws_eqPairS.f kj40 bt243.1 t206).bind fun t247 => (if t247 = true then (laws_FnExactNewPairs.j2 kj40 bt234.2 bt234.1 (bt243.2 != t207)) else (laws_FnExactNewPairs.j2 kj40 bt234.2 bt234.1 true)))))) else (some false))))) = some r := by rw [if_neg (show ¬ (false = true) by decide)] at H; exact H
                      clear H
                      have H := H1
                      clear H1
                      replace H := Option.bind_eq_some_iff.mp H
                      obtain ⟨⟨t234, t235⟩, A600, H⟩ := H
                      replace H : ((laws_heldPairS.f kj40 t235 1).bind fun t236 => (if t236 < 0 then (some false) else (if t236 = t234 then ((laws_toPairS.f kj40 l0).bind fun t237 => ((laws_toPairS.f kj40 l1).bind fun t240 => ((impl_NewPairs.f kj40 t237 t240).bind fun bt243 => ((laws_eqPairS.f kj40 bt243.1 t206).bind fun t247 => (if t247 = true then (laws_FnExactNewPairs.j2 kj40 t235 t234 (bt243.2 != t207)) else (laws_FnExactNewPairs.j2 kj40 t235 t234 true)))))) else (some false)))) = some r := H
                      have A60 := Aside0.mk A600
                      clear A600
                      replace H := Option.bind_eq_some_iff.mp H
                      obtain ⟨t236, A610, H⟩ := H
                      replace H : (if t236 < 0 then (some false) else (if t236 = t234 then ((laws_toPairS.f kj40 l0).bind fun t237 => ((laws_toPairS.f kj40 l1).bind fun t240 => ((impl_NewPairs.f kj40 t237 t240).bind fun bt243 => ((laws_eqPairS.f kj40 bt243.1 t206).bind fun t247 => (if t247 = true then (laws_FnExactNewPairs.j2 kj40 t235 t234 (bt243.2 != t207)) else (laws_FnExactNewPairs.j2 kj40 t235 t234 true)))))) else (some false))) = some r := H
                      have A61 := Aside0.mk A610
                      clear A610
                      by_cases c62 : t236 < 0
                      · rw [if_pos c62] at H
                        have c62b0 : decide (t236 < 0) = true := decide_eq_true c62
                        clear c62
                        obtain rfl := Option.some.inj H
                        obtain ⟨Ao63, co63, eo63⟩ := Kd.R_slice HO_10.out
                        subst eo63
                        go_wp2_with (first | ((with_reducible refine gate_callee (f := 33) rfl ?_); refine goesL_ (some 85) rfl rfl Try.func33 (by kernel_rfl) rfl #[.slice Ao63 t216.length co63, .int .i64 1] rfl (by (try simp only [List.map_toArray, List.map_cons, List.map_nil]); first | done | rfl | (simp only [List.length_drop, List.length_take]; rfl)) ?_; (with_reducible refine (laws_markPairS.calls kj40 (fun k_ => some k_ = (.slice Ao63 t216.length co63 : Value).ownBlock) (.slice Ao63 t216.length co63) t216 1 t234 t235 w _ ?side1 ?side2 A60.out).mono ?_); (case side1 => repeat (first | (with_reducible first|exact HB.out|apply vA_|apply vN_|apply vD_) | exact HB.out)); (case side2 => exact Kd.R_tight rfl HO_10.out); rintro e w64 ⟨rfl, hy0, hb, hkp⟩; refine ⟨_, rfl, ?_⟩; have n0_ := Aside0.mk (Kd.R_mono (ok' := fun k_ => some k_ ≠ (.slice Ao63 t216.length co63 : Value).ownBlock) (Kd.R_keptB (HO_6.out) hkp (fun k_ hk_ hs_ => (hk_) hs_)) (fun k_ hk_ => hk_.1)); have n1_ := Aside0.mk (Kd.R_reok rfl hy0 (fun k_ e_ => HO_10.out.1 k_ e_)); have n2_ := Aside0.mk (hb); clear HO_6; clear HO_10; clear HB; have HO_6 := n0_; have HO_10 := n1_; have HB := n2_; clear n0_ n1_ n2_; (try clear hb); (try clear hkp); (try clear hy0)) | ((with_reducible refine gate_callee (f := 34) rfl ?_); refine goesL_ (some 88) rfl rfl Try.func34 (by kernel_rfl) rfl #[.slice Ao63 t235.length co63, .int .i64 1] rfl (by (try simp only [List.map_toArray, List.map_cons, List.map_nil]); first | done | (rw [show t235.length = t216.length from (Kd.R_reads' HO_10.out).1.symm] <;> rfl) | rfl | (simp only [List.length_drop, List.length_take]; rfl)) ?_; (with_reducible refine (laws_heldPairS.calls kj40 _ _ t235 1 t236 _ ?side1 ?side2 A61.out).mono ?_); (case side1 => repeat (first | exact (Kd.R_reads' HO_10.out).2.2 | with_reducible apply cA_|with_reducible apply cN_|with_reducible apply cD_)); (case side2 => rw [show t235.length = t216.length from (Kd.R_reads' HO_10.out).1.symm]; exact (Kd.R_reads' HO_10.out).2.1); rintro e w' ⟨rfl, ⟨nd, rfl⟩⟩; refine ⟨_, rfl, ?_⟩))
                        go_ret
                        exact ⟨by first | rfl | (simp [errW_none, errW_some] <;> rfl) | (simp [*, errW_none, errW_some] <;> rfl), by repeat (first | (with_reducible first|exact HB.out|apply vA_|apply vN_|apply vD_) | exact HB.out)⟩
                      · rw [if_neg c62] at H
                        have c62b0 : decide (t236 < 0) = false := decide_eq_false c62
                        clear c62
                        by_cases c65 : t236 = t234
                        · rw [if_pos c65] at H
                          have c65b0 : (t236 == t234) = true := beq_iff_eq.mpr c65
                          have c65b1 : (t236 != t234) = false := bne_eq_false_iff_eq.mpr c65
                          clear c65
                          replace H := Option.bind_eq_some_iff.mp H
                          obtain ⟨t237, A660, H⟩ := H
                          replace H : ((laws_toPairS.f kj40 l1).bind fun t240 => ((impl_NewPairs.f kj40 t237 t240).bind fun bt243 => ((laws_eqPairS.f kj40 bt243.1 t206).bind fun t247 => (if t247 = true then (laws_FnExactNewPairs.j2 kj40 t235 t234 (bt243.2 != t207)) else (laws_FnExactNewPairs.j2 kj40 t235 t234 true))))) = some r := H
                          have A66 := Aside0.mk A660
                          clear A660
                          replace H := Option.bind_eq_some_iff.mp H
                          obtain ⟨t240, A670, H⟩ := H
                          replace H : ((impl_NewPairs.f kj40 t237 t240).bind fun bt243 => ((laws_eqPairS.f kj40 bt243.1 t206).bind fun t247 => (if t247 = true then (laws_FnExactNewPairs.j2 kj40 t235 t234 (bt243.2 != t207)) else (laws_FnExactNewPairs.j2 kj40 t235 t234 true)))) = some r := H
                          have A67 := Aside0.mk A670
                          clear A670
                          replace H := Option.bind_eq_some_iff.mp H
                          obtain ⟨⟨t243, t244⟩, A680, H⟩ := H
                          replace H : ((laws_eqPairS.f kj40 t243 t206).bind fun t247 => (if t247 = true then (laws_FnExactNewPairs.j2 kj40 t235 t234 (t244 != t207)) else (laws_FnExactNewPairs.j2 kj40 t235 t234 true))) = some r := H
                          have A68 := Aside0.mk A680
                          clear A680
                          have HC69 := Aside0.mk H
                          clear H
                          obtain ⟨Ao70, co70, eo70⟩ := Kd.R_slice HO_10.out
                          subst eo70
                          go_upto_region 32 with (first | ((with_reducible refine gate_callee (f := 33) rfl ?_); refine goesL_ (some 85) rfl rfl Try.func33 (by kernel_rfl) rfl #[.slice Ao70 t216.length co70, .int .i64 1] rfl (by (try simp only [List.map_toArray, List.map_cons, List.map_nil]); first | done | rfl | (simp only [List.length_drop, List.length_take]; rfl)) ?_; (with_reducible refine (laws_markPairS.calls kj40 (fun k_ => some k_ = (.slice Ao70 t216.length co70 : Value).ownBlock) (.slice Ao70 t216.length co70) t216 1 t234 t235 w _ ?side1 ?side2 A60.out).mono ?_); (case side1 => repeat (first | (with_reducible first|exact HB.out|apply vA_|apply vN_|apply vD_) | exact HB.out)); (case side2 => exact Kd.R_tight rfl HO_10.out); rintro e w71 ⟨rfl, hy0, hb, hkp⟩; refine ⟨_, rfl, ?_⟩; have n0_ := Aside0.mk (Kd.R_mono (ok' := fun k_ => some k_ ≠ (.slice Ao70 t216.length co70 : Value).ownBlock) (Kd.R_keptB (HO_6.out) hkp (fun k_ hk_ hs_ => (hk_) hs_)) (fun k_ hk_ => hk_.1)); have n1_ := Aside0.mk (Kd.R_reok rfl hy0 (fun k_ e_ => HO_10.out.1 k_ e_)); have n2_ := Aside0.mk (hb); clear HO_6; clear HO_10; clear HB; have HO_6 := n0_; have HO_10 := n1_; have HB := n2_; clear n0_ n1_ n2_; (try clear hb); (try clear hkp); (try clear hy0)) | ((with_reducible refine gate_callee (f := 34) rfl ?_); refine goesL_ (some 88) rfl rfl Try.func34 (by kernel_rfl) rfl #[.slice Ao70 t235.length co70, .int .i64 1] rfl (by (try simp only [List.map_toArray, List.map_cons, List.map_nil]); first | done | (rw [show t235.length = t216.length from (Kd.R_reads' HO_10.out).1.symm] <;> rfl) | rfl | (simp only [List.length_drop, List.length_take]; rfl)) ?_; (with_reducible refine (laws_heldPairS.calls kj40 _ _ t235 1 t236 _ ?side1 ?side2 A61.out).mono ?_); (case side1 => repeat (first | exact (Kd.R_reads' HO_10.out).2.2 | with_reducible apply cA_|with_reducible apply cN_|with_reducible apply cD_)); (case side2 => rw [show t235.length = t216.length from (Kd.R_reads' HO_10.out).1.symm]; exact (Kd.R_reads' HO_10.out).2.1); rintro e w' ⟨rfl, ⟨nd, rfl⟩⟩; refine ⟨_, rfl, ?_⟩) | ((with_reducible refine gate_callee (f := 30) rfl ?_); refine goesL_ (some 96) rfl rfl Try.func30 (by kernel_rfl) rfl #[.slice A0 l0.length c0] rfl (by (try simp only [List.map_toArray, List.map_cons, List.map_nil]); first | done | rfl | (simp only [List.length_drop, List.length_take]; rfl)) ?_; (with_reducible refine (laws_toPairS.calls kj40 _ _ l0 t237 _ ?side1 ?side2 A66.out).mono ?_); (case side1 => repeat (first | exact (Kd.C_below HR0.out (by repeat (first | (with_reducible first|exact HB.out|apply vA_|apply vN_|apply vD_) | exact HB.out))) | with_reducible apply cA_|with_reducible apply cN_|with_reducible apply cD_)); (case side2 => exact HC0.out); rintro e w72 ⟨v238, rfl, ho0, hb⟩; refine ⟨_, rfl, ?_⟩; have n0_ := Aside0.mk (Kd.R_elder' (by (with_reducible repeat first|apply rA_|apply rN_|apply rD_); exact HO_6.out) (by first | exact Kd.R_base ho0 | exact Kd.S_base ho0 | exact Kd.R_base ho0) hb); have n1_ := Aside0.mk (Kd.R_elder' (by (with_reducible repeat first|apply rA_|apply rN_|apply rD_); exact HO_10.out) (by first | exact Kd.R_base ho0 | exact Kd.S_base ho0 | exact Kd.R_base ho0) hb); have n2_ := Aside0.mk (Kd.R_lower (Kd.R_new' (Kd.R_new' ho0 (Kd.R_lt (by (with_reducible repeat first|apply rA_|apply rN_|apply rD_); exact HO_6.out))) (Kd.R_lt (by (with_reducible repeat first|apply rA_|apply rN_|apply rD_); exact HO_10.out))) (below_size (by repeat (first | (with_reducible first|exact HB.out|apply vA_|apply vN_|apply vD_) | exact HB.out)))); have n3_ := Aside0.mk (below_step (by repeat (first | (with_reducible first|exact HB.out|apply vA_|apply vN_|apply vD_) | exact HB.out)) hb); clear HO_6; clear HO_10; clear HB; have HO_6 := n0_; have HO_10 := n1_; have HO239 := n2_; have HB := n3_; clear n0_ n1_ n2_ n3_; (try clear hb); (try clear hb2); (try clear hk); (try clear hi); (try clear ho0)) | ((with_reducible refine gate_callee (f := 30) rfl ?_); refine goesL_ (some 98) rfl rfl Try.func30 (by kernel_rfl) rfl #[.slice A1 l1.length c1] rfl (by (try simp only [List.map_toArray, List.map_cons, List.map_nil]); first | done | rfl | (simp only [List.length_drop, List.length_take]; rfl)) ?_; (with_reducible refine (laws_toPairS.calls kj40 _ _ l1 t240 _ ?side1 ?side2 A67.out).mono ?_); (case side1 => repeat (first | exact (Kd.C_below HR1.out HB.out) | with_reducible apply cA_|with_reducible apply cN_|with_reducible apply cD_)); (case side2 => exact HC1.out); rintro e w73 ⟨v241, rfl, ho0, hb⟩; refine ⟨_, rfl, ?_⟩; have n0_ := Aside0.mk (Kd.R_elder' (by (with_reducible repeat first|apply rA_|apply rN_|apply rD_); exact HO_6.out) (by first | exact Kd.R_base ho0 | exact Kd.S_base ho0 | exact Kd.R_base ho0) hb); have n1_ := Aside0.mk (Kd.R_elder' (by (with_reducible repeat first|apply rA_|apply rN_|apply rD_); exact HO_10.out) (by first | exact Kd.R_base ho0 | exact Kd.S_base ho0 | exact Kd.R_base ho0) hb); have n2_ := Aside0.mk (Kd.R_elder' (by (with_reducible repeat first|apply rA_|apply rN_|apply rD_); exact HO239.out) (by first | exact Kd.R_base ho0 | exact Kd.S_base ho0 | exact Kd.R_base ho0) hb); have n3_ := Aside0.mk (Kd.R_lower (Kd.R_new' (Kd.R_new' (Kd.R_new' ho0 (Kd.R_lt (by (with_reducible repeat first|apply rA_|apply rN_|apply rD_); exact HO_6.out))) (Kd.R_lt (by (with_reducible repeat first|apply rA_|apply rN_|apply rD_); exact HO_10.out))) (Kd.R_lt (by (with_reducible repeat first|apply rA_|apply rN_|apply rD_); exact HO239.out))) (below_size (by repeat (first | (with_reducible first|exact HB.out|apply vA_|apply vN_|apply vD_) | exact HB.out)))); have n4_ := Aside0.mk (below_step (by repeat (first | (with_reducible first|exact HB.out|apply vA_|apply vN_|apply vD_) | exact HB.out)) hb); clear HO_6; clear HO_10; clear HO239; clear HB; have HO_6 := n0_; have HO_10 := n1_; have HO239 := n2_; have HO242 := n3_; have HB := n4_; clear n0_ n1_ n2_ n3_ n4_; (try clear hb); (try clear hb2); (try clear hk); (try clear hi); (try clear ho0); obtain ⟨Ao74, co74, eo74⟩ := Kd.R_slice HO239.out; subst eo74; obtain ⟨Ao75, co75, eo75⟩ := Kd.R_slice HO242.out; subst eo75) | ((with_reducible refine gate_callee (f := 31) rfl ?_); refine goesL_ (some 99) rfl rfl Try.func31 (by kernel_rfl) rfl #[.slice Ao74 t237.length co74, .slice Ao75 t240.length co75] rfl (by (try simp only [List.map_toArray, List.map_cons, List.map_nil]); first | done | rfl | (simp only [List.length_drop, List.length_take]; rfl)) ?_; (with_reducible refine (impl_NewPairs.calls kj40 _ _ t237 _ _ t240 t243 t244 _ ?side1 ?side2 ?side3 ?side4 A68.out).mono ?_); (case side1 => repeat (first | exact (Kd.R_reads' HO239.out).2.2 | with_reducible apply cA_|with_reducible apply cN_|with_reducible apply cD_)); (case side2 => exact (Kd.R_reads' HO239.out).2.1); (case side3 => repeat (first | exact (Kd.R_reads' HO242.out).2.2 | with_reducible apply cA_|with_reducible apply cN_|with_reducible apply cD_)); (case side4 => exact (Kd.R_reads' HO242.out).2.1); rintro e w76 ⟨v245, rfl, ho0, hb⟩; refine ⟨_, rfl, ?_⟩; have n0_ := Aside0.mk (Kd.R_elder' (by (with_reducible repeat first|apply rA_|apply rN_|apply rD_); exact HO_6.out) (by first | exact Kd.R_base ho0 | exact Kd.S_base ho0 | exact Kd.R_base ho0) hb); have n1_ := Aside0.mk (Kd.R_elder' (by (with_reducible repeat first|apply rA_|apply rN_|apply rD_); exact HO_10.out) (by first | exact Kd.R_base ho0 | exact Kd.S_base ho0 | exact Kd.R_base ho0) hb); have n2_ := Aside0.mk (Kd.R_elder' (by (with_reducible repeat first|apply rA_|apply rN_|apply rD_); exact HO239.out) (by first | exact Kd.R_base ho0 | exact Kd.S_base ho0 | exact Kd.R_base ho0) hb); have n3_ := Aside0.mk (Kd.R_elder' (by (with_reducible repeat first|apply rA_|apply rN_|apply rD_); exact HO242.out) (by first | exact Kd.R_base ho0 | exact Kd.S_base ho0 | exact Kd.R_base ho0) hb); have n4_ := Aside0.mk (Kd.R_lower (Kd.R_new' (Kd.R_new' (Kd.R_new' (Kd.R_new' ho0 (Kd.R_lt (by (with_reducible repeat first|apply rA_|apply rN_|apply rD_); exact HO_6.out))) (Kd.R_lt (by (with_reducible repeat first|apply rA_|apply rN_|apply rD_); exact HO_10.out))) (Kd.R_lt (by (with_reducible repeat first|apply rA_|apply rN_|apply rD_); exact HO239.out))) (Kd.R_lt (by (with_reducible repeat first|apply rA_|apply rN_|apply rD_); exact HO242.out))) (below_size (by repeat (first | (with_reducible first|exact HB.out|apply vA_|apply vN_|apply vD_) | exact HB.out)))); have n5_ := Aside0.mk (below_step (by repeat (first | (with_reducible first|exact HB.out|apply vA_|apply vN_|apply vD_) | exact HB.out)) hb); clear HO_6; clear HO_10; clear HO239; clear HO242; clear HB; have HO_6 := n0_; have HO_10 := n1_; have HO239 := n2_; have HO242 := n3_; have HO246 := n4_; have HB := n5_; clear n0_ n1_ n2_ n3_ n4_ n5_; (try clear hb); (try clear hb2); (try clear hk); (try clear hi); (try clear ho0)))
                          (try simp only [Act.put, List.setIfInBounds_toArray, List.set_cons_zero, List.set_cons_succ])
                          go_cut [110] (fun v110 wc => ∃ (kq : Nat) (x110_68 : Bool), v110 = .bool x110_68 ∧ Aside0 (laws_FnExactNewPairs.j2 kq t235 t234 x110_68 = some r) ∧ Aside0 (kq ≤ kj40) ∧ Aside0 (Kd.R k105 105 wc w.heap.size (fun _ => True) (.slice Ao70 t216.length co70) t235) ∧ Aside0 (Below w.heap.size w wc))
                          case first =>
                            have H := HC69.out
                            clear HC69
                            replace H := Option.bind_eq_some_iff.mp H
                            obtain ⟨t247, A770, H⟩ := H
                            replace H : (if t247 = true then (laws_FnExactNewPairs.j2 kj40 t235 t234 (t244 != t207)) else (laws_FnExactNewPairs.j2 kj40 t235 t234 true)) = some r := H
                            have A77 := Aside0.mk A770
                            clear A770
                            by_cases c78 : t247 = true
                            · subst c78
                              have H1 : (laws_FnExactNewPairs.j2 kj40 t235 t234 (t244 != t207)) = some r := by rw [if_pos rfl] at H; exact H
                              clear H
                              have H := H1
                              clear H1
                              have H' := Aside0.mk H
                              clear H
                              obtain ⟨Ao79, co79, eo79⟩ := Kd.R_slice HO246.out
                              subst eo79
                              obtain ⟨Ao80, co80, eo80⟩ := Kd.R_slice HO_6.out
                              subst eo80
                              go_wp2_with (first | ((with_reducible refine gate_callee (f := 32) rfl ?_); refine goesL_ (some 104) rfl rfl Try.func32 (by kernel_rfl) rfl #[.slice Ao79 t243.length co79, .slice Ao80 t206.length co80] rfl (by (try simp only [List.map_toArray, List.map_cons, List.map_nil]); first | done | rfl | (simp only [List.length_drop, List.length_take]; rfl)) ?_; (with_reducible refine (laws_eqPairS.calls kj40 _ _ t243 _ _ t206 true _ ?side1 ?side2 ?side3 ?side4 A77.out).mono ?_); (case side1 => repeat (first | exact (Kd.R_reads' HO246.out).2.2 | with_reducible apply cA_|with_reducible apply cN_|with_reducible apply cD_)); (case side2 => exact (Kd.R_reads' HO246.out).2.1); (case side3 => repeat (first | exact (Kd.R_reads' HO_6.out).2.2 | with_reducible apply cA_|with_reducible apply cN_|with_reducible apply cD_)); (case side4 => exact (Kd.R_reads' HO_6.out).2.1); rintro e w81 ⟨rfl, hb⟩; refine ⟨_, rfl, ?_⟩; have n0_ := Aside0.mk (Kd.R_below (by (with_reducible repeat first|apply rA_|apply rN_|apply rD_); exact HO_6.out) hb); have n1_ := Aside0.mk (Kd.R_below (by (with_reducible repeat first|apply rA_|apply rN_|apply rD_); exact HO_10.out) hb); have n2_ := Aside0.mk (Kd.R_below (by (with_reducible repeat first|apply rA_|apply rN_|apply rD_); exact HO239.out) hb); have n3_ := Aside0.mk (Kd.R_below (by (with_reducible repeat first|apply rA_|apply rN_|apply rD_); exact HO242.out) hb); have n4_ := Aside0.mk (Kd.R_below (by (with_reducible repeat first|apply rA_|apply rN_|apply rD_); exact HO246.out) hb); have n5_ := Aside0.mk (below_step (by repeat (first | (with_reducible first|exact HB.out|apply vA_|apply vN_|apply vD_) | exact HB.out)) hb); clear HO_6; clear HO_10; clear HO239; clear HO242; clear HO246; clear HB; have HO_6 := n0_; have HO_10 := n1_; have HO239 := n2_; have HO242 := n3_; have HO246 := n4_; have HB := n5_; clear n0_ n1_ n2_ n3_ n4_ n5_; (try clear hb); (try clear hb2); (try clear hk); (try clear hi)))
                              go_meet
                              case rel => exact ⟨_, ((t244 != t207)), (by first | rfl | (simp; done) | (simp [*]; done)), H', ⟨by have := HJ12.out; have := HJ40.out; first | omega | exact Nat.le_refl _⟩, ⟨by (with_reducible repeat first|apply rA_|apply rN_|apply rD_); exact Kd.R_mono HO_10.out (fun _ hk => trivial)⟩, ⟨by repeat (first | (with_reducible first|exact HB.out|apply vA_|apply vN_|apply vD_) | exact HB.out)⟩⟩
                            · replace c78 := Bool.eq_false_iff.mpr c78
                              subst c78
                              have H1 : (laws_FnExactNewPairs.j2 kj40 t235 t234 true) = some r := by rw [if_neg (show ¬ (false = true) by decide)] at H; exact H
                              clear H
                              have H := H1
                              clear H1
                              have H' := Aside0.mk H
                              clear H
                              obtain ⟨Ao82, co82, eo82⟩ := Kd.R_slice HO246.out
                              subst eo82
                              obtain ⟨Ao83, co83, eo83⟩ := Kd.R_slice HO_6.out
                              subst eo83
                              go_wp2_with (first | ((with_reducible refine gate_callee (f := 32) rfl ?_); refine goesL_ (some 104) rfl rfl Try.func32 (by kernel_rfl) rfl #[.slice Ao82 t243.length co82, .slice Ao83 t206.length co83] rfl (by (try simp only [List.map_toArray, List.map_cons, List.map_nil]); first | done | rfl | (simp only [List.length_drop, List.length_take]; rfl)) ?_; (with_reducible refine (laws_eqPairS.calls kj40 _ _ t243 _ _ t206 false _ ?side1 ?side2 ?side3 ?side4 A77.out).mono ?_); (case side1 => repeat (first | exact (Kd.R_reads' HO246.out).2.2 | with_reducible apply cA_|with_reducible apply cN_|with_reducible apply cD_)); (case side2 => exact (Kd.R_reads' HO246.out).2.1); (case side3 => repeat (first | exact (Kd.R_reads' HO_6.out).2.2 | with_reducible apply cA_|with_reducible apply cN_|with_reducible apply cD_)); (case side4 => exact (Kd.R_reads' HO_6.out).2.1); rintro e w84 ⟨rfl, hb⟩; refine ⟨_, rfl, ?_⟩; have n0_ := Aside0.mk (Kd.R_below (by (with_reducible repeat first|apply rA_|apply rN_|apply rD_); exact HO_6.out) hb); have n1_ := Aside0.mk (Kd.R_below (by (with_reducible repeat first|apply rA_|apply rN_|apply rD_); exact HO_10.out) hb); have n2_ := Aside0.mk (Kd.R_below (by (with_reducible repeat first|apply rA_|apply rN_|apply rD_); exact HO239.out) hb); have n3_ := Aside0.mk (Kd.R_below (by (with_reducible repeat first|apply rA_|apply rN_|apply rD_); exact HO242.out) hb); have n4_ := Aside0.mk (Kd.R_below (by (with_reducible repeat first|apply rA_|apply rN_|apply rD_); exact HO246.out) hb); have n5_ := Aside0.mk (below_step (by repeat (first | (with_reducible first|exact HB.out|apply vA_|apply vN_|apply vD_) | exact HB.out)) hb); clear HO_6; clear HO_10; clear HO239; clear HO242; clear HO246; clear HB; have HO_6 := n0_; have HO_10 := n1_; have HO239 := n2_; have HO242 := n3_; have HO246 := n4_; have HB := n5_; clear n0_ n1_ n2_ n3_ n4_ n5_; (try clear hb); (try clear hb2); (try clear hk); (try clear hi)))
                              go_meet
                              case rel => exact ⟨_, (true), (by first | rfl | (simp; done) | (simp [*]; done)), H', ⟨by have := HJ12.out; have := HJ40.out; first | omega | exact Nat.le_refl _⟩, ⟨by (with_reducible repeat first|apply rA_|apply rN_|apply rD_); exact Kd.R_mono HO_10.out (fun _ hk => trivial)⟩, ⟨by repeat (first | (with_reducible first|exact HB.out|apply vA_|apply vN_|apply vD_) | exact HB.out)⟩⟩
                          case rest =>
                            clear HC69
                            try clear c1
                            try clear c2
                            try clear p2
                            try clear c3
                            try clear c4
                            try clear c4b0
                            try clear c5
                            try clear c6
                            try clear c6b0
                            try clear c7
                            try clear c25
                            try clear c28
                            try clear c29
                            try clear c30
                            try clear c31
                            try clear c32
                            try clear c33
                            try clear c34
                            try clear c35
                            try clear c38
                            try clear c50
                            try clear c50b0
                            try clear c52
                            try clear c59
                            try clear c62
                            try clear c62b0
                            try clear c65
                            try clear c65b0
                            try clear c65b1
                            try clear c78
                            try clear p2
                            obtain ⟨kq, x110_68, rfl, HA, HJ68, HO_10, HB⟩ := hcut
                            have hl10_68 := (Kd.R_reads' HO_10.out).1
                            rw [hl10_68] at HO_10
                            (try simp only [hl10_68])
                            cases kq with
                            | zero => exact absurd HA.out (by simp [laws_FnExactNewPairs.j2])
                            | succ kj68 =>
                              have H := HA.out
                              clear HA
                              simp only [laws_FnExactNewPairs.j2] at H
                              by_cases c85 : x110_68 = true
                              · subst c85
                                have H1 : (some false) = some r := by rw [if_pos rfl] at H; exact H
                                clear H
                                have H := H1
                                clear H1
                                obtain rfl := Option.some.inj H
                                go_wp2
                                go_ret
                                exact ⟨by first | rfl | (simp [errW_none, errW_some] <;> rfl) | (simp [*, errW_none, errW_some] <;> rfl), by repeat (first | (with_reducible first|exact HB.out|apply vA_|apply vN_|apply vD_) | exact HB.out)⟩
                              · replace c85 := Bool.eq_false_iff.mpr c85
                                subst c85
                                have H1 : ((laws_heldPairS.f kj68 t235 1).bind fun t248 => (if t248 < 0 then (some false) else (if t248 = t234 then (some true) else (some false)))) = some r := by rw [if_neg (show ¬ (false = true) by decide)] at H; exact H
                                clear H
                                have H := H1
                                clear H1
                                replace H := Option.bind_eq_some_iff.mp H
                                obtain ⟨t248, A860, H⟩ := H
                                replace H : (if t248 < 0 then (some false) else (if t248 = t234 then (some true) else (some false))) = some r := H
                                have A86 := Aside0.mk A860
                                clear A860
                                by_cases c87 : t248 < 0
                                · rw [if_pos c87] at H
                                  have c87b0 : decide (t248 < 0) = true := decide_eq_true c87
                                  clear c87
                                  obtain rfl := Option.some.inj H
                                  go_wp2_with (first | ((with_reducible refine gate_callee (f := 34) rfl ?_); refine goesL_ (some 113) rfl rfl Try.func34 (by kernel_rfl) rfl #[.slice Ao70 t235.length co70, .int .i64 1] rfl (by (try simp only [List.map_toArray, List.map_cons, List.map_nil]); first | done | rfl | (simp only [List.length_drop, List.length_take]; rfl)) ?_; (with_reducible refine (laws_heldPairS.calls kj68 _ _ t235 1 t248 _ ?side1 ?side2 A86.out).mono ?_); (case side1 => repeat (first | exact (Kd.R_reads' HO_10.out).2.2 | with_reducible apply cA_|with_reducible apply cN_|with_reducible apply cD_)); (case side2 => exact (Kd.R_reads' HO_10.out).2.1); rintro e w' ⟨rfl, ⟨nd, rfl⟩⟩; refine ⟨_, rfl, ?_⟩))
                                  go_ret
                                  exact ⟨by first | rfl | (simp [errW_none, errW_some] <;> rfl) | (simp [*, errW_none, errW_some] <;> rfl), by repeat (first | (with_reducible first|exact HB.out|apply vA_|apply vN_|apply vD_) | exact HB.out)⟩
                                · rw [if_neg c87] at H
                                  have c87b0 : decide (t248 < 0) = false := decide_eq_false c87
                                  clear c87
                                  by_cases c88 : t248 = t234
                                  · rw [if_pos c88] at H
                                    have c88b0 : (t248 == t234) = true := beq_iff_eq.mpr c88
                                    have c88b1 : (t248 != t234) = false := bne_eq_false_iff_eq.mpr c88
                                    clear c88
                                    obtain rfl := Option.some.inj H
                                    go_wp2_with (first | ((with_reducible refine gate_callee (f := 34) rfl ?_); refine goesL_ (some 113) rfl rfl Try.func34 (by kernel_rfl) rfl #[.slice Ao70 t235.length co70, .int .i64 1] rfl (by (try simp only [List.map_toArray, List.map_cons, List.map_nil]); first | done | rfl | (simp only [List.length_drop, List.length_take]; rfl)) ?_; (with_reducible refine (laws_heldPairS.calls kj68 _ _ t235 1 t248 _ ?side1 ?side2 A86.out).mono ?_); (case side1 => repeat (first | exact (Kd.R_reads' HO_10.out).2.2 | with_reducible apply cA_|with_reducible apply cN_|with_reducible apply cD_)); (case side2 => exact (Kd.R_reads' HO_10.out).2.1); rintro e w' ⟨rfl, ⟨nd, rfl⟩⟩; refine ⟨_, rfl, ?_⟩))
                                    go_ret
                                    exact ⟨by first | rfl | (simp [errW_none, errW_some] <;> rfl) | (simp [*, errW_none, errW_some] <;> rfl), by repeat (first | (with_reducible first|exact HB.out|apply vA_|apply vN_|apply vD_) | exact HB.out)⟩
                                  · rw [if_neg c88] at H
                                    have c88b0 : (t248 == t234) = false := beq_eq_false_iff_ne.mpr c88
                                    have c88b1 : (t248 != t234) = true := bne_iff_ne.mpr c88
                                    obtain rfl := Option.some.inj H
                                    go_wp2_with (first | ((with_reducible refine gate_callee (f := 34) rfl ?_); refine goesL_ (some 113) rfl rfl Try.func34 (by kernel_rfl) rfl #[.slice Ao70 t235.length co70, .int .i64 1] rfl (by (try simp only [List.map_toArray, List.map_cons, List.map_nil]); first | done | rfl | (simp only [List.length_drop, List.length_take]; rfl)) ?_; (with_reducible refine (laws_heldPairS.calls kj68 _ _ t235 1 t248 _ ?side1 ?side2 A86.out).mono ?_); (case side1 => repeat (first | exact (Kd.R_reads' HO_10.out).2.2 | with_reducible apply cA_|with_reducible apply cN_|with_reducible apply cD_)); (case side2 => exact (Kd.R_reads' HO_10.out).2.1); rintro e w' ⟨rfl, ⟨nd, rfl⟩⟩; refine ⟨_, rfl, ?_⟩))
                                    go_ret
                                    exact ⟨by first | rfl | (simp [errW_none, errW_some] <;> rfl) | (simp [*, errW_none, errW_some] <;> rfl), by repeat (first | (with_reducible first|exact HB.out|apply vA_|apply vN_|apply vD_) | exact HB.out)⟩
                        · rw [if_neg c65] at H
                          have c65b0 : (t236 == t234) = false := beq_eq_false_iff_ne.mpr c65
                          have c65b1 : (t236 != t234) = true := bne_iff_ne.mpr c65
                          obtain rfl := Option.some.inj H
                          obtain ⟨Ao89, co89, eo89⟩ := Kd.R_slice HO_10.out
                          subst eo89
                          go_wp2_with (first | ((with_reducible refine gate_callee (f := 33) rfl ?_); refine goesL_ (some 85) rfl rfl Try.func33 (by kernel_rfl) rfl #[.slice Ao89 t216.length co89, .int .i64 1] rfl (by (try simp only [List.map_toArray, List.map_cons, List.map_nil]); first | done | rfl | (simp only [List.length_drop, List.length_take]; rfl)) ?_; (with_reducible refine (laws_markPairS.calls kj40 (fun k_ => some k_ = (.slice Ao89 t216.length co89 : Value).ownBlock) (.slice Ao89 t216.length co89) t216 1 t234 t235 w _ ?side1 ?side2 A60.out).mono ?_); (case side1 => repeat (first | (with_reducible first|exact HB.out|apply vA_|apply vN_|apply vD_) | exact HB.out)); (case side2 => exact Kd.R_tight rfl HO_10.out); rintro e w90 ⟨rfl, hy0, hb, hkp⟩; refine ⟨_, rfl, ?_⟩; have n0_ := Aside0.mk (Kd.R_mono (ok' := fun k_ => some k_ ≠ (.slice Ao89 t216.length co89 : Value).ownBlock) (Kd.R_keptB (HO_6.out) hkp (fun k_ hk_ hs_ => (hk_) hs_)) (fun k_ hk_ => hk_.1)); have n1_ := Aside0.mk (Kd.R_reok rfl hy0 (fun k_ e_ => HO_10.out.1 k_ e_)); have n2_ := Aside0.mk (hb); clear HO_6; clear HO_10; clear HB; have HO_6 := n0_; have HO_10 := n1_; have HB := n2_; clear n0_ n1_ n2_; (try clear hb); (try clear hkp); (try clear hy0)) | ((with_reducible refine gate_callee (f := 34) rfl ?_); refine goesL_ (some 88) rfl rfl Try.func34 (by kernel_rfl) rfl #[.slice Ao89 t235.length co89, .int .i64 1] rfl (by (try simp only [List.map_toArray, List.map_cons, List.map_nil]); first | done | (rw [show t235.length = t216.length from (Kd.R_reads' HO_10.out).1.symm] <;> rfl) | rfl | (simp only [List.length_drop, List.length_take]; rfl)) ?_; (with_reducible refine (laws_heldPairS.calls kj40 _ _ t235 1 t236 _ ?side1 ?side2 A61.out).mono ?_); (case side1 => repeat (first | exact (Kd.R_reads' HO_10.out).2.2 | with_reducible apply cA_|with_reducible apply cN_|with_reducible apply cD_)); (case side2 => rw [show t235.length = t216.length from (Kd.R_reads' HO_10.out).1.symm]; exact (Kd.R_reads' HO_10.out).2.1); rintro e w' ⟨rfl, ⟨nd, rfl⟩⟩; refine ⟨_, rfl, ?_⟩))
                          go_ret
                          exact ⟨by first | rfl | (simp [errW_none, errW_some] <;> rfl) | (simp [*, errW_none, errW_some] <;> rfl), by repeat (first | (with_reducible first|exact HB.out|apply vA_|apply vN_|apply vD_) | exact HB.out)⟩
              · replace c38 := Bool.eq_false_iff.mpr c38
                subst c38
                have H1 : (some false) = some r := by rw [if_neg (show ¬ (false = true) by decide)] at H; exact H
                clear H
                have H := H1
                clear H1
                obtain rfl := Option.some.inj H
                go_wp2_with (first | ((with_reducible refine gate_callee (f := 30) rfl ?_); refine goesL_ (some 56) rfl rfl Try.func30 (by kernel_rfl) rfl #[.slice A0 l0.length c0] rfl (by (try simp only [List.map_toArray, List.map_cons, List.map_nil]); first | done | rfl | (simp only [List.length_drop, List.length_take]; rfl)) ?_; (with_reducible refine (laws_toPairS.calls kj12 _ _ l0 t221 _ ?side1 ?side2 A33.out).mono ?_); (case side1 => repeat (first | exact (Kd.C_below HR0.out HB.out) | with_reducible apply cA_|with_reducible apply cN_|with_reducible apply cD_)); (case side2 => exact HC0.out); rintro e w91 ⟨v222, rfl, ho0, hb⟩; refine ⟨_, rfl, ?_⟩; have n0_ := Aside0.mk (Kd.R_elder' (by (with_reducible repeat first|apply rA_|apply rN_|apply rD_); exact HO_6.out) (by first | exact Kd.R_base ho0 | exact Kd.S_base ho0 | exact Kd.R_base ho0) hb); have n1_ := Aside0.mk (Kd.R_elder' (by (with_reducible repeat first|apply rA_|apply rN_|apply rD_); exact HO_8.out) (by first | exact Kd.R_base ho0 | exact Kd.S_base ho0 | exact Kd.R_base ho0) hb); have n2_ := Aside0.mk (Kd.R_elder' (by (with_reducible repeat first|apply rA_|apply rN_|apply rD_); exact HO_9.out) (by first | exact Kd.R_base ho0 | exact Kd.S_base ho0 | exact Kd.R_base ho0) hb); have n3_ := Aside0.mk (Kd.R_elder' (by (with_reducible repeat first|apply rA_|apply rN_|apply rD_); exact HO_10.out) (by first | exact Kd.R_base ho0 | exact Kd.S_base ho0 | exact Kd.R_base ho0) hb); have n4_ := Aside0.mk (Kd.R_lower (Kd.R_new' (Kd.R_new' (Kd.R_new' (Kd.R_new' ho0 (Kd.R_lt (by (with_reducible repeat first|apply rA_|apply rN_|apply rD_); exact HO_6.out))) (Kd.R_lt (by (with_reducible repeat first|apply rA_|apply rN_|apply rD_); exact HO_8.out))) (Kd.R_lt (by (with_reducible repeat first|apply rA_|apply rN_|apply rD_); exact HO_9.out))) (Kd.R_lt (by (with_reducible repeat first|apply rA_|apply rN_|apply rD_); exact HO_10.out))) (below_size (by repeat (first | (with_reducible first|exact HB.out|apply vA_|apply vN_|apply vD_) | exact HB.out)))); have n5_ := Aside0.mk (below_step (by repeat (first | (with_reducible first|exact HB.out|apply vA_|apply vN_|apply vD_) | exact HB.out)) hb); clear HO_6; clear HO_8; clear HO_9; clear HO_10; clear HB; have HO_6 := n0_; have HO_8 := n1_; have HO_9 := n2_; have HO_10 := n3_; have HO223 := n4_; have HB := n5_; clear n0_ n1_ n2_ n3_ n4_ n5_; (try clear hb); (try clear hb2); (try clear hk); (try clear hi); (try clear ho0); obtain ⟨Ao92, co92, eo92⟩ := Kd.R_slice HO223.out; subst eo92) | ((with_reducible refine gate_callee (f := 32) rfl ?_); refine goesL_ (some 57) rfl rfl Try.func32 (by kernel_rfl) rfl #[.slice Ao21 t210.length co21, .slice Ao92 t221.length co92] rfl (by (try simp only [List.map_toArray, List.map_cons, List.map_nil]); first | done | rfl | (simp only [List.length_drop, List.length_take]; rfl)) ?_; (with_reducible refine (laws_eqPairS.calls kj12 _ _ t210 _ _ t221 true _ ?side1 ?side2 ?side3 ?side4 A34.out).mono ?_); (case side1 => repeat (first | exact (Kd.R_reads' HO_8.out).2.2 | with_reducible apply cA_|with_reducible apply cN_|with_reducible apply cD_)); (case side2 => exact (Kd.R_reads' HO_8.out).2.1); (case side3 => repeat (first | exact (Kd.R_reads' HO223.out).2.2 | with_reducible apply cA_|with_reducible apply cN_|with_reducible apply cD_)); (case side4 => exact (Kd.R_reads' HO223.out).2.1); rintro e w93 ⟨rfl, hb⟩; refine ⟨_, rfl, ?_⟩; have n0_ := Aside0.mk (Kd.R_below (by (with_reducible repeat first|apply rA_|apply rN_|apply rD_); exact HO_6.out) hb); have n1_ := Aside0.mk (Kd.R_below (by (with_reducible repeat first|apply rA_|apply rN_|apply rD_); exact HO_8.out) hb); have n2_ := Aside0.mk (Kd.R_below (by (with_reducible repeat first|apply rA_|apply rN_|apply rD_); exact HO_9.out) hb); have n3_ := Aside0.mk (Kd.R_below (by (with_reducible repeat first|apply rA_|apply rN_|apply rD_); exact HO_10.out) hb); have n4_ := Aside0.mk (Kd.R_below (by (with_reducible repeat first|apply rA_|apply rN_|apply rD_); exact HO223.out) hb); have n5_ := Aside0.mk (below_step (by repeat (first | (with_reducible first|exact HB.out|apply vA_|apply vN_|apply vD_) | exact HB.out)) hb); clear HO_6; clear HO_8; clear HO_9; clear HO_10; clear HO223; clear HB; have HO_6 := n0_; have HO_8 := n1_; have HO_9 := n2_; have HO_10 := n3_; have HO223 := n4_; have HB := n5_; clear n0_ n1_ n2_ n3_ n4_ n5_; (try clear hb); (try clear hb2); (try clear hk); (try clear hi)) | ((with_reducible refine gate_callee (f := 30) rfl ?_); refine goesL_ (some 61) rfl rfl Try.func30 (by kernel_rfl) rfl #[.slice A1 l1.length c1] rfl (by (try simp only [List.map_toArray, List.map_cons, List.map_nil]); first | done | rfl | (simp only [List.length_drop, List.length_take]; rfl)) ?_; (with_reducible refine (laws_toPairS.calls kj12 _ _ l1 t225 _ ?side1 ?side2 A36.out).mono ?_); (case side1 => repeat (first | exact (Kd.C_below HR1.out HB.out) | with_reducible apply cA_|with_reducible apply cN_|with_reducible apply cD_)); (case side2 => exact HC1.out); rintro e w94 ⟨v226, rfl, ho0, hb⟩; refine ⟨_, rfl, ?_⟩; have n0_ := Aside0.mk (Kd.R_elder' (by (with_reducible repeat first|apply rA_|apply rN_|apply rD_); exact HO_6.out) (by first | exact Kd.R_base ho0 | exact Kd.S_base ho0 | exact Kd.R_base ho0) hb); have n1_ := Aside0.mk (Kd.R_elder' (by (with_reducible repeat first|apply rA_|apply rN_|apply rD_); exact HO_8.out) (by first | exact Kd.R_base ho0 | exact Kd.S_base ho0 | exact Kd.R_base ho0) hb); have n2_ := Aside0.mk (Kd.R_elder' (by (with_reducible repeat first|apply rA_|apply rN_|apply rD_); exact HO_9.out) (by first | exact Kd.R_base ho0 | exact Kd.S_base ho0 | exact Kd.R_base ho0) hb); have n3_ := Aside0.mk (Kd.R_elder' (by (with_reducible repeat first|apply rA_|apply rN_|apply rD_); exact HO_10.out) (by first | exact Kd.R_base ho0 | exact Kd.S_base ho0 | exact Kd.R_base ho0) hb); have n4_ := Aside0.mk (Kd.R_elder' (by (with_reducible repeat first|apply rA_|apply rN_|apply rD_); exact HO223.out) (by first | exact Kd.R_base ho0 | exact Kd.S_base ho0 | exact Kd.R_base ho0) hb); have n5_ := Aside0.mk (Kd.R_lower (Kd.R_new' (Kd.R_new' (Kd.R_new' (Kd.R_new' (Kd.R_new' ho0 (Kd.R_lt (by (with_reducible repeat first|apply rA_|apply rN_|apply rD_); exact HO_6.out))) (Kd.R_lt (by (with_reducible repeat first|apply rA_|apply rN_|apply rD_); exact HO_8.out))) (Kd.R_lt (by (with_reducible repeat first|apply rA_|apply rN_|apply rD_); exact HO_9.out))) (Kd.R_lt (by (with_reducible repeat first|apply rA_|apply rN_|apply rD_); exact HO_10.out))) (Kd.R_lt (by (with_reducible repeat first|apply rA_|apply rN_|apply rD_); exact HO223.out))) (below_size (by repeat (first | (with_reducible first|exact HB.out|apply vA_|apply vN_|apply vD_) | exact HB.out)))); have n6_ := Aside0.mk (below_step (by repeat (first | (with_reducible first|exact HB.out|apply vA_|apply vN_|apply vD_) | exact HB.out)) hb); clear HO_6; clear HO_8; clear HO_9; clear HO_10; clear HO223; clear HB; have HO_6 := n0_; have HO_8 := n1_; have HO_9 := n2_; have HO_10 := n3_; have HO223 := n4_; have HO227 := n5_; have HB := n6_; clear n0_ n1_ n2_ n3_ n4_ n5_ n6_; (try clear hb); (try clear hb2); (try clear hk); (try clear hi); (try clear ho0); obtain ⟨Ao95, co95, eo95⟩ := Kd.R_slice HO227.out; subst eo95) | ((with_reducible refine gate_callee (f := 32) rfl ?_); refine goesL_ (some 62) rfl rfl Try.func32 (by kernel_rfl) rfl #[.slice Ao22 t213.length co22, .slice Ao95 t225.length co95] rfl (by (try simp only [List.map_toArray, List.map_cons, List.map_nil]); first | done | rfl | (simp only [List.length_drop, List.length_take]; rfl)) ?_; (with_reducible refine (laws_eqPairS.calls kj12 _ _ t213 _ _ t225 false _ ?side1 ?side2 ?side3 ?side4 A37.out).mono ?_); (case side1 => repeat (first | exact (Kd.R_reads' HO_9.out).2.2 | with_reducible apply cA_|with_reducible apply cN_|with_reducible apply cD_)); (case side2 => exact (Kd.R_reads' HO_9.out).2.1); (case side3 => repeat (first | exact (Kd.R_reads' HO227.out).2.2 | with_reducible apply cA_|with_reducible apply cN_|with_reducible apply cD_)); (case side4 => exact (Kd.R_reads' HO227.out).2.1); rintro e w96 ⟨rfl, hb⟩; refine ⟨_, rfl, ?_⟩; have n0_ := Aside0.mk (Kd.R_below (by (with_reducible repeat first|apply rA_|apply rN_|apply rD_); exact HO_6.out) hb); have n1_ := Aside0.mk (Kd.R_below (by (with_reducible repeat first|apply rA_|apply rN_|apply rD_); exact HO_8.out) hb); have n2_ := Aside0.mk (Kd.R_below (by (with_reducible repeat first|apply rA_|apply rN_|apply rD_); exact HO_9.out) hb); have n3_ := Aside0.mk (Kd.R_below (by (with_reducible repeat first|apply rA_|apply rN_|apply rD_); exact HO_10.out) hb); have n4_ := Aside0.mk (Kd.R_below (by (with_reducible repeat first|apply rA_|apply rN_|apply rD_); exact HO223.out) hb); have n5_ := Aside0.mk (Kd.R_below (by (with_reducible repeat first|apply rA_|apply rN_|apply rD_); exact HO227.out) hb); have n6_ := Aside0.mk (below_step (by repeat (first | (with_reducible first|exact HB.out|apply vA_|apply vN_|apply vD_) | exact HB.out)) hb); clear HO_6; clear HO_8; clear HO_9; clear HO_10; clear HO223; clear HO227; clear HB; have HO_6 := n0_; have HO_8 := n1_; have HO_9 := n2_; have HO_10 := n3_; have HO223 := n4_; have HO227 := n5_; have HB := n6_; clear n0_ n1_ n2_ n3_ n4_ n5_ n6_; (try clear hb); (try clear hb2); (try clear hk); (try clear hi)))
                go_ret
                exact ⟨by first | rfl | (simp [errW_none, errW_some] <;> rfl) | (simp [*, errW_none, errW_some] <;> rfl), by repeat (first | (with_reducible first|exact HB.out|apply vA_|apply vN_|apply vD_) | exact HB.out)⟩
            · replace c35 := Bool.eq_false_iff.mpr c35
              subst c35
              have H1 : (some false) = some r := by rw [if_neg (show ¬ (false = true) by decide)] at H; exact H
              clear H
              have H := H1
              clear H1
              obtain rfl := Option.some.inj H
              go_wp2_with (first | ((with_reducible refine gate_callee (f := 30) rfl ?_); refine goesL_ (some 56) rfl rfl Try.func30 (by kernel_rfl) rfl #[.slice A0 l0.length c0] rfl (by (try simp only [List.map_toArray, List.map_cons, List.map_nil]); first | done | rfl | (simp only [List.length_drop, List.length_take]; rfl)) ?_; (with_reducible refine (laws_toPairS.calls kj12 _ _ l0 t221 _ ?side1 ?side2 A33.out).mono ?_); (case side1 => repeat (first | exact (Kd.C_below HR0.out HB.out) | with_reducible apply cA_|with_reducible apply cN_|with_reducible apply cD_)); (case side2 => exact HC0.out); rintro e w97 ⟨v222, rfl, ho0, hb⟩; refine ⟨_, rfl, ?_⟩; have n0_ := Aside0.mk (Kd.R_elder' (by (with_reducible repeat first|apply rA_|apply rN_|apply rD_); exact HO_6.out) (by first | exact Kd.R_base ho0 | exact Kd.S_base ho0 | exact Kd.R_base ho0) hb); have n1_ := Aside0.mk (Kd.R_elder' (by (with_reducible repeat first|apply rA_|apply rN_|apply rD_); exact HO_8.out) (by first | exact Kd.R_base ho0 | exact Kd.S_base ho0 | exact Kd.R_base ho0) hb); have n2_ := Aside0.mk (Kd.R_elder' (by (with_reducible repeat first|apply rA_|apply rN_|apply rD_); exact HO_9.out) (by first | exact Kd.R_base ho0 | exact Kd.S_base ho0 | exact Kd.R_base ho0) hb); have n3_ := Aside0.mk (Kd.R_elder' (by (with_reducible repeat first|apply rA_|apply rN_|apply rD_); exact HO_10.out) (by first | exact Kd.R_base ho0 | exact Kd.S_base ho0 | exact Kd.R_base ho0) hb); have n4_ := Aside0.mk (Kd.R_lower (Kd.R_new' (Kd.R_new' (Kd.R_new' (Kd.R_new' ho0 (Kd.R_lt (by (with_reducible repeat first|apply rA_|apply rN_|apply rD_); exact HO_6.out))) (Kd.R_lt (by (with_reducible repeat first|apply rA_|apply rN_|apply rD_); exact HO_8.out))) (Kd.R_lt (by (with_reducible repeat first|apply rA_|apply rN_|apply rD_); exact HO_9.out))) (Kd.R_lt (by (with_reducible repeat first|apply rA_|apply rN_|apply rD_); exact HO_10.out))) (below_size (by repeat (first | (with_reducible first|exact HB.out|apply vA_|apply vN_|apply vD_) | exact HB.out)))); have n5_ := Aside0.mk (below_step (by repeat (first | (with_reducible first|exact HB.out|apply vA_|apply vN_|apply vD_) | exact HB.out)) hb); clear HO_6; clear HO_8; clear HO_9; clear HO_10; clear HB; have HO_6 := n0_; have HO_8 := n1_; have HO_9 := n2_; have HO_10 := n3_; have HO223 := n4_; have HB := n5_; clear n0_ n1_ n2_ n3_ n4_ n5_; (try clear hb); (try clear hb2); (try clear hk); (try clear hi); (try clear ho0); obtain ⟨Ao98, co98, eo98⟩ := Kd.R_slice HO223.out; subst eo98) | ((with_reducible refine gate_callee (f := 32) rfl ?_); refine goesL_ (some 57) rfl rfl Try.func32 (by kernel_rfl) rfl #[.slice Ao21 t210.length co21, .slice Ao98 t221.length co98] rfl (by (try simp only [List.map_toArray, List.map_cons, List.map_nil]); first | done | rfl | (simp only [List.length_drop, List.length_take]; rfl)) ?_; (with_reducible refine (laws_eqPairS.calls kj12 _ _ t210 _ _ t221 false _ ?side1 ?side2 ?side3 ?side4 A34.out).mono ?_); (case side1 => repeat (first | exact (Kd.R_reads' HO_8.out).2.2 | with_reducible apply cA_|with_reducible apply cN_|with_reducible apply cD_)); (case side2 => exact (Kd.R_reads' HO_8.out).2.1); (case side3 => repeat (first | exact (Kd.R_reads' HO223.out).2.2 | with_reducible apply cA_|with_reducible apply cN_|with_reducible apply cD_)); (case side4 => exact (Kd.R_reads' HO223.out).2.1); rintro e w99 ⟨rfl, hb⟩; refine ⟨_, rfl, ?_⟩; have n0_ := Aside0.mk (Kd.R_below (by (with_reducible repeat first|apply rA_|apply rN_|apply rD_); exact HO_6.out) hb); have n1_ := Aside0.mk (Kd.R_below (by (with_reducible repeat first|apply rA_|apply rN_|apply rD_); exact HO_8.out) hb); have n2_ := Aside0.mk (Kd.R_below (by (with_reducible repeat first|apply rA_|apply rN_|apply rD_); exact HO_9.out) hb); have n3_ := Aside0.mk (Kd.R_below (by (with_reducible repeat first|apply rA_|apply rN_|apply rD_); exact HO_10.out) hb); have n4_ := Aside0.mk (Kd.R_below (by (with_reducible repeat first|apply rA_|apply rN_|apply rD_); exact HO223.out) hb); have n5_ := Aside0.mk (below_step (by repeat (first | (with_reducible first|exact HB.out|apply vA_|apply vN_|apply vD_) | exact HB.out)) hb); clear HO_6; clear HO_8; clear HO_9; clear HO_10; clear HO223; clear HB; have HO_6 := n0_; have HO_8 := n1_; have HO_9 := n2_; have HO_10 := n3_; have HO223 := n4_; have HB := n5_; clear n0_ n1_ n2_ n3_ n4_ n5_; (try clear hb); (try clear hb2); (try clear hk); (try clear hi)))
              go_ret
              exact ⟨by first | rfl | (simp [errW_none, errW_some] <;> rfl) | (simp [*, errW_none, errW_some] <;> rfl), by repeat (first | (with_reducible first|exact HB.out|apply vA_|apply vN_|apply vD_) | exact HB.out)⟩

end Go.Proofs.Ytpfbiopcfbokbaa.GNewPairs

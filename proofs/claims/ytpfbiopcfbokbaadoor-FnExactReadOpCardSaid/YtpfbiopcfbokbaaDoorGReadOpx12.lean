-- Printed by wip/tools/print2.py out of the translation: walks and plain functions; Lean checks them.
import Derived.Test.YtpfbiopcfbokbaaDoorGReadOpx0
import Derived.Test.YtpfbiopcfbokbaaDoorGReadOpx7
import Derived.Test.YtpfbiopcfbokbaaDoorGReadOpx8
import Derived.Test.YtpfbiopcfbokbaaDoorGReadOpx9
namespace Go.Proofs.YtpfbiopcfbokbaaDoor.GReadOp
open Go.RowKit Go.Proofs.YtpfbiopcfbokbaaDoorW.PrintWords Go.Proofs.YtpfbiopcfbokbaaDoorW.PrintLast Go.Proofs.YtpfbiopcfbokbaaDoorW.PrintMore
attribute [local go_sem] max2_int min2_int max_two min_two max_three min_three max_four min_four   -- for this text's walks alone
set_option linter.unusedVariables false
set_option linter.unusedSimpArgs false

/-! ### impl_ReadOp: function 17 -/
mutual
def impl_ReadOp.j0 : Nat → ByteArray → List ByteArray → Bool → Int → Int → Int → Nat → Option (Int × Int × Int × Nat × Bool)
  | 0, _, _, _, _, _, _, _ => none
  | k + 1, x0, x4, x26, x251000, x251001, x251002, x251003 => if x26 = true then (if 1 < (x4.length : Int) then ((impl_ReadNum.f k (rdOf ByteArray.empty x4 1)).bind fun bt252 => (impl_ReadOp.j1 k x0 x4 x251000 x251001 x251002 bt252.1)) else (none)) else (impl_ReadOp.j1 k x0 x4 x251000 x251001 x251002 x251003)
def impl_ReadOp.j1 : Nat → ByteArray → List ByteArray → Int → Int → Int → Nat → Option (Int × Int × Int × Nat × Bool)
  | 0, _, _, _, _, _, _ => none
  | k + 1, x0, x4, x251000, x251001, x251002, x251003 => if (x4.length : Int) > 1 then ((impl_Op_names.f k x251000 x251001 x251002 x251003).bind fun t254 => (impl_ReadOp.j2 k x0 x4 (decide (t254 > 0)) x251000 x251001 x251002 x251003)) else (impl_ReadOp.j2 k x0 x4 false x251000 x251001 x251002 x251003)
def impl_ReadOp.j2 : Nat → ByteArray → List ByteArray → Bool → Int → Int → Int → Nat → Option (Int × Int × Int × Nat × Bool)
  | 0, _, _, _, _, _, _, _ => none
  | k + 1, x0, x4, x42, x251000, x251001, x251002, x251003 => if x42 = true then (if 1 < (x4.length : Int) then ((impl_readNumber.f (rdOf ByteArray.empty x4 1) 999).bind fun bt256 => (impl_ReadOp.j3 k x0 x4 x251000 bt256.1 x251002 x251003)) else (none)) else (impl_ReadOp.j3 k x0 x4 x251000 x251001 x251002 x251003)
def impl_ReadOp.j3 : Nat → ByteArray → List ByteArray → Int → Int → Int → Nat → Option (Int × Int × Int × Nat × Bool)
  | 0, _, _, _, _, _, _ => none
  | k + 1, x0, x4, x251000, x251001, x251002, x251003 => if (x4.length : Int) > 2 then ((impl_Op_names.f k x251000 x251001 x251002 x251003).bind fun t258 => (impl_ReadOp.j4 k x0 x4 (decide (t258 > 1)) x251000 x251001 x251002 x251003)) else (impl_ReadOp.j4 k x0 x4 false x251000 x251001 x251002 x251003)
def impl_ReadOp.j4 : Nat → ByteArray → List ByteArray → Bool → Int → Int → Int → Nat → Option (Int × Int × Int × Nat × Bool)
  | 0, _, _, _, _, _, _, _ => none
  | k + 1, x0, x4, x58, x251000, x251001, x251002, x251003 => if x58 = true then (if 2 < (x4.length : Int) then ((impl_readNumber.f (rdOf ByteArray.empty x4 2) 999).bind fun bt260 => ((impl_OpText.f k x251000 x251001 bt260.1 x251003).bind fun bt262 => (if bt262.2 = true then (if bt262.1.toList = x0.toList then (some (x251000, x251001, bt260.1, x251003, true)) else (some (0, 0, 0, 0, false))) else (some (0, 0, 0, 0, false))))) else (none)) else ((impl_OpText.f k x251000 x251001 x251002 x251003).bind fun bt264 => (if bt264.2 = true then (if bt264.1.toList = x0.toList then (some (x251000, x251001, x251002, x251003, true)) else (some (0, 0, 0, 0, false))) else (some (0, 0, 0, 0, false))))
end
def impl_ReadOp.f (k : Nat) (a0 : ByteArray) : Option (Int × Int × Int × Nat × Bool) := (strings_Split.f a0 (⟨#[32]⟩ : ByteArray)).bind fun t242 => ((impl_opWords.f).bind fun t245 => (if 0 < (t242.length : Int) then ((slices_Index_string_string.f k (t245.drop 1) (rdOf ByteArray.empty t242 0)).bind fun t249 => (if (mx (wrap64 (t249 + 1)) 0) = 1 then (impl_ReadOp.j0 k a0 t242 ((t242.length : Int) == 2) (mx (wrap64 (t249 + 1)) 0) 0 0 0) else (impl_ReadOp.j0 k a0 t242 false (mx (wrap64 (t249 + 1)) 0) 0 0 0))) else (none)))
theorem impl_ReadOp.mono_l : ∀ k, (∀ y0 y1 y2 y3 y4 y5 y6, LeO (impl_ReadOp.j0 k y0 y1 y2 y3 y4 y5 y6) (impl_ReadOp.j0 (k + 1) y0 y1 y2 y3 y4 y5 y6)) ∧ (∀ y0 y1 y2 y3 y4 y5, LeO (impl_ReadOp.j1 k y0 y1 y2 y3 y4 y5) (impl_ReadOp.j1 (k + 1) y0 y1 y2 y3 y4 y5)) ∧ (∀ y0 y1 y2 y3 y4 y5 y6, LeO (impl_ReadOp.j2 k y0 y1 y2 y3 y4 y5 y6) (impl_ReadOp.j2 (k + 1) y0 y1 y2 y3 y4 y5 y6)) ∧ (∀ y0 y1 y2 y3 y4 y5, LeO (impl_ReadOp.j3 k y0 y1 y2 y3 y4 y5) (impl_ReadOp.j3 (k + 1) y0 y1 y2 y3 y4 y5)) ∧ (∀ y0 y1 y2 y3 y4 y5 y6, LeO (impl_ReadOp.j4 k y0 y1 y2 y3 y4 y5 y6) (impl_ReadOp.j4 (k + 1) y0 y1 y2 y3 y4 y5 y6))
  | 0 => ⟨fun _ _ _ _ _ _ _ r h => by simp [impl_ReadOp.j0] at h, fun _ _ _ _ _ _ r h => by simp [impl_ReadOp.j1] at h, fun _ _ _ _ _ _ _ r h => by simp [impl_ReadOp.j2] at h, fun _ _ _ _ _ _ r h => by simp [impl_ReadOp.j3] at h, fun _ _ _ _ _ _ _ r h => by simp [impl_ReadOp.j4] at h⟩
  | k + 1 => by
    obtain ⟨ih0, ih1, ih2, ih3, ih4⟩ := impl_ReadOp.mono_l k
    refine ⟨?_, ?_, ?_, ?_, ?_⟩
    · intro y0 y1 y2 y3 y4 y5 y6
      unfold impl_ReadOp.j0
      repeat' first
      | (with_reducible exact ih0 _ _ _ _ _ _ _)
      | (with_reducible exact ih1 _ _ _ _ _ _)
      | (with_reducible exact ih2 _ _ _ _ _ _ _)
      | (with_reducible exact ih3 _ _ _ _ _ _)
      | (with_reducible exact ih4 _ _ _ _ _ _ _)
      | (with_reducible exact impl_OpText.mono _ _ _ _ _)
      | (with_reducible exact impl_Op_names.mono _ _ _ _ _)
      | (with_reducible exact impl_ReadNum.mono _ _)
      | (with_reducible exact slices_Index_string_string.mono _ _ _)
      | (with_reducible exact LeO.refl _)
      | (with_reducible exact LeO.none _)
      | (with_reducible refine LeO.ite ?_ ?_)
      | (with_reducible refine LeO.bind ?_ (fun _ => ?_))
      | exact ih0 _ _ _ _ _ _ _
      | exact ih1 _ _ _ _ _ _
      | exact ih2 _ _ _ _ _ _ _
      | exact ih3 _ _ _ _ _ _
      | exact ih4 _ _ _ _ _ _ _
      | exact impl_OpText.mono _ _ _ _ _
      | exact impl_Op_names.mono _ _ _ _ _
      | exact impl_ReadNum.mono _ _
      | exact slices_Index_string_string.mono _ _ _
      | exact LeO.none _
      | refine LeO.ite ?_ ?_
      | refine LeO.bind ?_ (fun _ => ?_)
    · intro y0 y1 y2 y3 y4 y5
      unfold impl_ReadOp.j1
      repeat' first
      | (with_reducible exact ih0 _ _ _ _ _ _ _)
      | (with_reducible exact ih1 _ _ _ _ _ _)
      | (with_reducible exact ih2 _ _ _ _ _ _ _)
      | (with_reducible exact ih3 _ _ _ _ _ _)
      | (with_reducible exact ih4 _ _ _ _ _ _ _)
      | (with_reducible exact impl_OpText.mono _ _ _ _ _)
      | (with_reducible exact impl_Op_names.mono _ _ _ _ _)
      | (with_reducible exact impl_ReadNum.mono _ _)
      | (with_reducible exact slices_Index_string_string.mono _ _ _)
      | (with_reducible exact LeO.refl _)
      | (with_reducible exact LeO.none _)
      | (with_reducible refine LeO.ite ?_ ?_)
      | (with_reducible refine LeO.bind ?_ (fun _ => ?_))
      | exact ih0 _ _ _ _ _ _ _
      | exact ih1 _ _ _ _ _ _
      | exact ih2 _ _ _ _ _ _ _
      | exact ih3 _ _ _ _ _ _
      | exact ih4 _ _ _ _ _ _ _
      | exact impl_OpText.mono _ _ _ _ _
      | exact impl_Op_names.mono _ _ _ _ _
      | exact impl_ReadNum.mono _ _
      | exact slices_Index_string_string.mono _ _ _
      | exact LeO.none _
      | refine LeO.ite ?_ ?_
      | refine LeO.bind ?_ (fun _ => ?_)
    · intro y0 y1 y2 y3 y4 y5 y6
      unfold impl_ReadOp.j2
      repeat' first
      | (with_reducible exact ih0 _ _ _ _ _ _ _)
      | (with_reducible exact ih1 _ _ _ _ _ _)
      | (with_reducible exact ih2 _ _ _ _ _ _ _)
      | (with_reducible exact ih3 _ _ _ _ _ _)
      | (with_reducible exact ih4 _ _ _ _ _ _ _)
      | (with_reducible exact impl_OpText.mono _ _ _ _ _)
      | (with_reducible exact impl_Op_names.mono _ _ _ _ _)
      | (with_reducible exact impl_ReadNum.mono _ _)
      | (with_reducible exact slices_Index_string_string.mono _ _ _)
      | (with_reducible exact LeO.refl _)
      | (with_reducible exact LeO.none _)
      | (with_reducible refine LeO.ite ?_ ?_)
      | (with_reducible refine LeO.bind ?_ (fun _ => ?_))
      | exact ih0 _ _ _ _ _ _ _
      | exact ih1 _ _ _ _ _ _
      | exact ih2 _ _ _ _ _ _ _
      | exact ih3 _ _ _ _ _ _
      | exact ih4 _ _ _ _ _ _ _
      | exact impl_OpText.mono _ _ _ _ _
      | exact impl_Op_names.mono _ _ _ _ _
      | exact impl_ReadNum.mono _ _
      | exact slices_Index_string_string.mono _ _ _
      | exact LeO.none _
      | refine LeO.ite ?_ ?_
      | refine LeO.bind ?_ (fun _ => ?_)
    · intro y0 y1 y2 y3 y4 y5
      unfold impl_ReadOp.j3
      repeat' first
      | (with_reducible exact ih0 _ _ _ _ _ _ _)
      | (with_reducible exact ih1 _ _ _ _ _ _)
      | (with_reducible exact ih2 _ _ _ _ _ _ _)
      | (with_reducible exact ih3 _ _ _ _ _ _)
      | (with_reducible exact ih4 _ _ _ _ _ _ _)
      | (with_reducible exact impl_OpText.mono _ _ _ _ _)
      | (with_reducible exact impl_Op_names.mono _ _ _ _ _)
      | (with_reducible exact impl_ReadNum.mono _ _)
      | (with_reducible exact slices_Index_string_string.mono _ _ _)
      | (with_reducible exact LeO.refl _)
      | (with_reducible exact LeO.none _)
      | (with_reducible refine LeO.ite ?_ ?_)
      | (with_reducible refine LeO.bind ?_ (fun _ => ?_))
      | exact ih0 _ _ _ _ _ _ _
      | exact ih1 _ _ _ _ _ _
      | exact ih2 _ _ _ _ _ _ _
      | exact ih3 _ _ _ _ _ _
      | exact ih4 _ _ _ _ _ _ _
      | exact impl_OpText.mono _ _ _ _ _
      | exact impl_Op_names.mono _ _ _ _ _
      | exact impl_ReadNum.mono _ _
      | exact slices_Index_string_string.mono _ _ _
      | exact LeO.none _
      | refine LeO.ite ?_ ?_
      | refine LeO.bind ?_ (fun _ => ?_)
    · intro y0 y1 y2 y3 y4 y5 y6
      unfold impl_ReadOp.j4
      repeat' first
      | (with_reducible exact ih0 _ _ _ _ _ _ _)
      | (with_reducible exact ih1 _ _ _ _ _ _)
      | (with_reducible exact ih2 _ _ _ _ _ _ _)
      | (with_reducible exact ih3 _ _ _ _ _ _)
      | (with_reducible exact ih4 _ _ _ _ _ _ _)
      | (with_reducible exact impl_OpText.mono _ _ _ _ _)
      | (with_reducible exact impl_Op_names.mono _ _ _ _ _)
      | (with_reducible exact impl_ReadNum.mono _ _)
      | (with_reducible exact slices_Index_string_string.mono _ _ _)
      | (with_reducible exact LeO.refl _)
      | (with_reducible exact LeO.none _)
      | (with_reducible refine LeO.ite ?_ ?_)
      | (with_reducible refine LeO.bind ?_ (fun _ => ?_))
      | exact ih0 _ _ _ _ _ _ _
      | exact ih1 _ _ _ _ _ _
      | exact ih2 _ _ _ _ _ _ _
      | exact ih3 _ _ _ _ _ _
      | exact ih4 _ _ _ _ _ _ _
      | exact impl_OpText.mono _ _ _ _ _
      | exact impl_Op_names.mono _ _ _ _ _
      | exact impl_ReadNum.mono _ _
      | exact slices_Index_string_string.mono _ _ _
      | exact LeO.none _
      | refine LeO.ite ?_ ?_
      | refine LeO.bind ?_ (fun _ => ?_)
theorem impl_ReadOp.mono : ∀ a0 k, LeO (impl_ReadOp.f k a0) (impl_ReadOp.f (k + 1) a0) := by
  intro a0 k
  obtain ⟨ih0, ih1, ih2, ih3, ih4⟩ := impl_ReadOp.mono_l k
  unfold impl_ReadOp.f
  repeat' first
      | (with_reducible exact ih0 _ _ _ _ _ _ _)
      | (with_reducible exact ih1 _ _ _ _ _ _)
      | (with_reducible exact ih2 _ _ _ _ _ _ _)
      | (with_reducible exact ih3 _ _ _ _ _ _)
      | (with_reducible exact ih4 _ _ _ _ _ _ _)
      | (with_reducible exact impl_OpText.mono _ _ _ _ _)
      | (with_reducible exact impl_Op_names.mono _ _ _ _ _)
      | (with_reducible exact impl_ReadNum.mono _ _)
      | (with_reducible exact slices_Index_string_string.mono _ _ _)
      | (with_reducible exact LeO.refl _)
      | (with_reducible exact LeO.none _)
      | (with_reducible refine LeO.ite ?_ ?_)
      | (with_reducible refine LeO.bind ?_ (fun _ => ?_))
      | exact ih0 _ _ _ _ _ _ _
      | exact ih1 _ _ _ _ _ _
      | exact ih2 _ _ _ _ _ _ _
      | exact ih3 _ _ _ _ _ _
      | exact ih4 _ _ _ _ _ _ _
      | exact impl_OpText.mono _ _ _ _ _
      | exact impl_Op_names.mono _ _ _ _ _
      | exact impl_ReadNum.mono _ _
      | exact slices_Index_string_string.mono _ _ _
      | exact LeO.none _
      | refine LeO.ite ?_ ?_
      | refine LeO.bind ?_ (fun _ => ?_)
def impl_ReadOp.T2 : Bool × List (List Nat × List Nat) := (true, [([], []), ([0], [0]), ([], []), ([2], [2]), ([3], [3]), ([1, 4, 0], [1, 4]), ([5], [5]), ([6], [6]), ([7], [7]), ([], []), ([9, 8, 5, 0, 1, 2, 3, 4, 5, 6, 7, 8, 9], [8, 9])])
def impl_ReadOp.B2 : List Nat := [0, 1, 0, 4, 12, 31, 63, 127, 255, 0, 1023]
theorem impl_ReadOp.tab2 : rtab .any (opsOf Tryd.f17 2) = impl_ReadOp.T2 := by kernel_rfl
theorem impl_ReadOp.bits2 : waitsOk impl_ReadOp.T2.2 impl_ReadOp.B2 = true := by kernel_rfl
set_option maxHeartbeats 8000000 in
set_option maxRecDepth 100000 in
theorem impl_ReadOp.calls (k : Nat) (a0 : ByteArray) (r1 : Int) (r2 : Int) (r3 : Int) (r4 : Nat) (r5 : Bool) (w : World) (hT : Go.Proofs.YtpfbiopcfbokbaaDoor.MRead.Tabs2 w) (h : impl_ReadOp.f k a0 = some (r1, r2, r3, r4, r5)) :
    Calls Tryd.prog 17 #[.string a0] w fun e w' => e = .returned (.tuple #[.agg #[.int .i64 r1, .int .i64 r2, .int .i64 r3, .float .f64 r4], .bool r5]) ∧ Below w.heap.size w w' := by
  have HTab := Aside0.mk hT
  clear hT
  have hu38 := Tryd.underlying38
  have HB := Aside0.mk (Below.refl w.heap.size w)
  have H : ((strings_Split.f a0 (⟨#[32]⟩ : ByteArray)).bind fun t242 => ((impl_opWords.f).bind fun t245 => (if 0 < (t242.length : Int) then ((slices_Index_string_string.f k (t245.drop 1) (rdOf ByteArray.empty t242 0)).bind fun t249 => (if (mx (wrap64 (t249 + 1)) 0) = 1 then (impl_ReadOp.j0 k a0 t242 ((t242.length : Int) == 2) (mx (wrap64 (t249 + 1)) 0) 0 0 0) else (impl_ReadOp.j0 k a0 t242 false (mx (wrap64 (t249 + 1)) 0) 0 0 0))) else (none)))) = some (r1, r2, r3, r4, r5) := h
  clear h
  replace H := Option.bind_eq_some_iff.mp H
  obtain ⟨t242, A20, H⟩ := H
  replace H : ((impl_opWords.f).bind fun t245 => (if 0 < (t242.length : Int) then ((slices_Index_string_string.f k (t245.drop 1) (rdOf ByteArray.empty t242 0)).bind fun t249 => (if (mx (wrap64 (t249 + 1)) 0) = 1 then (impl_ReadOp.j0 k a0 t242 ((t242.length : Int) == 2) (mx (wrap64 (t249 + 1)) 0) 0 0 0) else (impl_ReadOp.j0 k a0 t242 false (mx (wrap64 (t249 + 1)) 0) 0 0 0))) else (none))) = some (r1, r2, r3, r4, r5) := H
  have A2 := Aside0.mk A20
  clear A20
  replace H := Option.bind_eq_some_iff.mp H
  obtain ⟨t245, A30, H⟩ := H
  replace H : (if 0 < (t242.length : Int) then ((slices_Index_string_string.f k (t245.drop 1) (rdOf ByteArray.empty t242 0)).bind fun t249 => (if (mx (wrap64 (t249 + 1)) 0) = 1 then (impl_ReadOp.j0 k a0 t242 ((t242.length : Int) == 2) (mx (wrap64 (t249 + 1)) 0) 0 0 0) else (impl_ReadOp.j0 k a0 t242 false (mx (wrap64 (t249 + 1)) 0) 0 0 0))) else (none)) = some (r1, r2, r3, r4, r5) := H
  have A3 := Aside0.mk A30
  have hl1_ : 1 ≤ t245.length := by have e_ := A30; unfold impl_opWords.f at e_; rw [← Option.some.inj e_]; decide
  clear A30
  by_cases c4 : 0 < (t242.length : Int)
  · rw [if_pos c4] at H
    have c4b0 : decide (0 < (t242.length : Int)) = true := decide_eq_true c4
    have c4b1 : decide (0 < t242.length) = true := decide_eq_true (by omega)
    clear c4
    replace H := Option.bind_eq_some_iff.mp H
    obtain ⟨t249, A50, H⟩ := H
    replace H : (if (mx (wrap64 (t249 + 1)) 0) = 1 then (impl_ReadOp.j0 k a0 t242 ((t242.length : Int) == 2) (mx (wrap64 (t249 + 1)) 0) 0 0 0) else (impl_ReadOp.j0 k a0 t242 false (mx (wrap64 (t249 + 1)) 0) 0 0 0)) = some (r1, r2, r3, r4, r5) := H
    have A5 := Aside0.mk A50
    clear A50
    obtain ⟨ji6, hji6⟩ : ∃ j_ : Int, (mx (wrap64 (t249 + 1)) 0) = j_ := ⟨_, rfl⟩
    replace H : (if (ji6) = 1 then (impl_ReadOp.j0 k a0 t242 ((t242.length : Int) == 2) ji6 0 0 0) else (impl_ReadOp.j0 k a0 t242 false ji6 0 0 0)) = some (r1, r2, r3, r4, r5) := by first | (rw [hji6] at H; exact H) | (simp only [hji6] at H ⊢; exact H)
    (try rw [hji6] at A2)
    (try rw [hji6] at A3)
    (try rw [hji6] at A5)
    (try (have hji6l : 0 ≤ ji6 := by (rw [← hji6]; unfold mx; (repeat' split) <;> omega)))
    (try (have hji6m : 0 ≤ ji6 := by omega))
    have hji6_ : (if (wrap64 (t249 + 1)) < 0 then 0 else (wrap64 (t249 + 1))) = ji6 := hji6
    have HC7 := Aside0.mk H
    clear H
    go_enter Tryd.func17, Tryd.ntmps17
    try go_wp2_with (first | ((with_reducible refine gate_dst (N := 2) rfl ?_); (try (refine gate_guard (by rfl) ?_; dsimp only)); refine box_event ?hg (N := 2) ?hd (cs := #[.int .i64 0, .int .i64 0, .int .i64 0, .float .f64 0]) (t := 38) ?hr ?_; (case hd => rfl); (case hg => rfl); (case hr => first | (go_simp; done) | (go_simp; rfl)); intro gb241 hg w8 hbox hb; have n0_ := Aside0.mk (below_step (by repeat (first | (with_reducible first|exact HB.out|apply vA_|apply vN_|apply vD_) | exact HB.out)) hb); have n1_ := Aside0.mk (hbox); have n2_ := Aside0.mk ((by rw [hg]; exact (below_size (by repeat (first | (with_reducible first|exact HB.out|apply vA_|apply vN_|apply vD_) | exact HB.out))) : w.heap.size ≤ gb241)); have n3_ := Aside0.mk ((by rw [hg]; exact (below_size (by repeat (first | (with_reducible first|exact HB.out|apply vA_|apply vN_|apply vD_) | exact HB.out))) : w.heap.size ≤ gb241)); clear HB; have HB := n0_; have BK241 := n1_; have GW241 := n2_; have GE241 := n3_; clear n0_ n1_ n2_ n3_; clear hb hbox hg) | ((with_reducible refine gate_callee (f := 40) rfl ?_); refine goesL_ (some 9) rfl rfl Tryd.func40 (by kernel_rfl) rfl #[.string a0, .string (⟨#[32]⟩ : ByteArray)] rfl (by (try simp only [List.map_toArray, List.map_cons, List.map_nil]); first | done | rfl | (simp only [List.length_drop, List.length_take]; rfl)) ?_; (with_reducible refine (strings_Split.calls (hT := ?sideT) a0 (⟨#[32]⟩ : ByteArray) t242 _ A2.out).mono ?_); (case sideT => exact Go.Proofs.YtpfbiopcfbokbaaDoor.MRead.tabs2_below HTab.out (by repeat (first | (with_reducible first|exact HB.out|apply vA_|apply vN_|apply vD_ | refine vS_ ?_ GE241.out) | exact HB.out))); rintro e w9 ⟨v243, rfl, ho0, hb⟩; refine ⟨_, rfl, ?_⟩; have n0_ := Aside0.mk (Kd.R_lower ho0 (below_size (by repeat (first | (with_reducible first|exact HB.out|apply vA_|apply vN_|apply vD_ | refine vS_ ?_ GE241.out) | exact HB.out)))); have n1_ := Aside0.mk (blk_below (by (with_reducible repeat first|apply qN_|apply qD_|apply qA_); exact BK241.out) hb); have n2_ := Aside0.mk (below_step (by repeat (first | (with_reducible first|exact HB.out|apply vA_|apply vN_|apply vD_ | refine vS_ ?_ GE241.out) | exact HB.out)) hb); clear BK241; clear HB; have HO244 := n0_; have BK241 := n1_; have HB := n2_; clear n0_ n1_ n2_; (try clear hb); (try clear hb2); (try clear hk); (try clear hi); (try clear ho0)))
    have n0_ := Aside0.mk (Kd.R_drew HO244.out)
    have n1_ := Aside0.mk (blk_drew BK241.out)
    have n2_ := Aside0.mk (below_drew1 HB.out)
    clear HO244
    clear BK241
    clear HB
    have HO244 := n0_
    have BK241 := n1_
    have HB := n2_
    clear n0_ n1_ n2_
    obtain ⟨Ao11, co11, eo11⟩ := Kd.R_slice HO244.out
    (first | subst eo11 | (injection eo11 with f1_ f2_ f3_; have f4_ := f1_.symm; have f5_ := f3_.symm; clear f1_ f2_ f3_; subst f4_; subst f5_))
    have p248 : 0 ≤ (0 : Int) := (by omega)
    have q248 : 0 < (t242.length : Int) := of_decide_eq_true (by first | (with_reducible assumption) | assumption)
    obtain ⟨ad248, e248, hx248_0⟩ := Kd.at_string (Kd.R_reads' HO244.out).2.2 0 p248 q248
    cases e248
    have qi248 : (0 < t242.length) = True := eq_true (by omega)
    (try rw [show ((0 : Int)).toNat = 0 from rfl] at hx248_0)
    (try rw [Addr.add_zero'] at hx248_0)
    replace p248 := eq_true p248
    replace q248 := eq_true q248
    refine start_ (n := 11) (S := fun w' => w'.cell? ad248 = some (.string (rdOf ByteArray.empty t242 0))) (ds := []) #[false, false, false, false, false, false, false, false, false, false, false] (by kernel_rfl) rfl rfl (hx248_0) (fun hHeld => ?_); refine with_tabW impl_ReadOp.tab2 impl_ReadOp.bits2 (fun HT_ HW_ => ?_)
    generalize w9.drew = w10 at HO244 BK241 HB hx248_0 hHeld ⊢
    refine pure_ (i := 2) (N := some 12) (v := ?_) (a' := ?_) #[false, false, true, false, false, false, false, false, false, false, false] rfl rfl (any_of HT_.out (by kernel_rfl)) (fun _ _ _ h => h) (Or.inl ⟨by rfl, ?_⟩) ?_ ?_
    rotate_left
    · intro w'
      go_simp
      with_reducible rfl
    rotate_left
    · simp only [Act.put, List.setIfInBounds_toArray, List.set_cons_zero, List.set_cons_succ, i64_w, i32_w]
      rfl
    refine pure_ (i := 3) (N := some 13) (v := ?_) (a' := ?_) #[false, false, true, true, false, false, false, false, false, false, false] rfl rfl (any_of HT_.out (by kernel_rfl)) (fun _ _ _ h => h) (Or.inl ⟨by rfl, ?_⟩) ?_ ?_
    rotate_left
    · intro w'
      go_simp
      with_reducible rfl
    rotate_left
    · simp only [Act.put, List.setIfInBounds_toArray, List.set_cons_zero, List.set_cons_succ, i64_w, i32_w]
      rfl
    refine take_ (i := 4) (N := some 14) (v := ?_) (a' := ?_) #[false, false, true, true, true, false, false, false, false, false, false] rfl rfl (take_ofW HT_.out HW_.out (by kernel_rfl)) (fun _ _ _ h => h) (Or.inl ⟨by rfl, ?_⟩) hHeld ?_ ?_
    rotate_left
    · intro w' s0
      go_simp
      with_reducible rfl
    rotate_left
    · simp only [Act.put, List.setIfInBounds_toArray, List.set_cons_zero, List.set_cons_succ, i64_w, i32_w]
      rfl
    refine join_ (σ := (Value × Value) × Nat) 1 #[true, true, true, true, true, true, true, true, true, true, false] (fun s_ => [(10, s_.1.1), (15, .int .i64 t249), (5, .pointer (some ⟨s_.2, 0, none⟩)), (11, s_.1.2), (16, .int .i64 (wrap64 (t249 + 1))), (17, .int .i64 ji6), (18, .agg #[.int .i64 ji6, .int .i64 0, .int .i64 0, .float .f64 0])]) (fun s_ w' => (w'.cell? ad248 = some (.string (rdOf ByteArray.empty t242 0))) ∧ (Kd.R Kd.string 9 w' w.heap.size (fun k_ => some k_ ≠ (s_.1.1 : Value).ownBlock) (.slice (some ad248) t242.length co11) t242) ∧ (Kd.R Kd.string 9 w' w.heap.size (fun k_ => some k_ ≠ (.slice (some ad248) t242.length co11 : Value).ownBlock) s_.1.1 t245) ∧ (w'.heap[gb241]? = some (.cells #[.int .i64 0, .int .i64 0, .int .i64 0, .float .f64 0] 38 (0, 0))) ∧ (w'.heap[s_.2]? = some (.cells #[.int .i64 0, .int .i64 0, .int .i64 0, .float .f64 0] 38 (0, 0))) ∧ (w.heap.size ≤ s_.2) ∧ (w.heap.size ≤ s_.2) ∧ (gb241 ≠ s_.2) ∧ (s_.2 ≠ gb241) ∧ (Below w.heap.size w w')) ?_ ?_
    rotate_left
    · intro hCont
      refine two_ (i := 0) (j := 9) (Ni := some 10) (Nj := some 5) #[true, false, true, true, true, false, false, false, false, false, false] #[false, false, true, true, true, false, false, false, false, true, false] rfl rfl rfl rfl (two_of HT_.out (by kernel_rfl)) (by decide) (by decide) (fun K hK => ?_) (fun K hK => ?_)
      · skip
        first | refine goes_ Tryd.func42 (by kernel_rfl) rfl #[] (by rfl) rfl rfl (by (try simp only [List.map_toArray, List.map_cons, List.map_nil]); first | done | rfl | (simp only [List.length_drop, List.length_take]; rfl)) ?_ | refine goesV_ Tryd.func42 (by kernel_rfl) rfl #[] (by rfl) rfl rfl (by rfl) (by first | rfl | (simp only [List.map_toArray, List.map_cons, List.map_nil]; rfl)) ?_
        with_reducible refine (impl_opWords.calls  t245 _ A3.out).mono ?_
        rintro e w12 ⟨v246, rfl, ho0, hb⟩
        have HS0_ := (hb.cell (World.block_lt_of_cell? _ _ (hHeld))).trans (hHeld)
        refine ⟨_, rfl, ?_⟩
        have n0_ := Aside0.mk (Kd.R_elder' (by (with_reducible repeat first|apply rA_|apply rN_|apply rD_); exact HO244.out) (by first | exact Kd.R_base ho0 | exact Kd.S_base ho0 | exact Kd.R_base ho0) hb)
        have n1_ := Aside0.mk (Kd.R_lower (Kd.R_new' ho0 (Kd.R_lt (by (with_reducible repeat first|apply rA_|apply rN_|apply rD_); exact HO244.out))) (below_size (by repeat (first | (with_reducible first|exact HB.out|apply vA_|apply vN_|apply vD_ | refine vS_ ?_ GE241.out) | exact HB.out))))
        have n2_ := Aside0.mk (blk_below (by (with_reducible repeat first|apply qN_|apply qD_|apply qA_); exact BK241.out) hb)
        have n3_ := Aside0.mk (below_step (by repeat (first | (with_reducible first|exact HB.out|apply vA_|apply vN_|apply vD_ | refine vS_ ?_ GE241.out) | exact HB.out)) hb)
        clear HO244
        clear BK241
        clear HB
        have HO244 := n0_
        have HO247 := n1_
        have BK241 := n2_
        have HB := n3_
        clear n0_ n1_ n2_ n3_
        (try clear hb)
        (try clear hb2)
        (try clear hk)
        (try clear hi)
        (try clear ho0)
        obtain ⟨Ao13, co13, eo13⟩ := Kd.R_slice HO247.out
        (first | subst eo13 | (injection eo13 with f1_ f2_ f3_; have f4_ := f1_.symm; have f5_ := f3_.symm; clear f1_ f2_ f3_; subst f4_; subst f5_))
        refine hK.out _ _ (HS0_) (fun hHeld => ?_)
        clear hK K
        refine norm_ (a' := ?_) ?_ ?_
        rotate_left
        · show Act.put _ (some 10) _ = _
          simp only [Act.put, List.setIfInBounds_toArray, List.set_cons_zero, List.set_cons_succ, i64_w, i32_w]
          rfl
        obtain ⟨i0_, hi0_, _, hsz_, _⟩ := info_parts info9
        have hR_ := Kd.R_reads' HO247.out
        have hcut_ : ∀ W_ : World, (Instr.slice 45 (.slice Ao13 t245.length co13) (some (.int .i64 1)) none none).run Tryd.prog W_ = .ok (.slice (if co13 = 1 then Ao13 else (Ao13 : Option Addr).map (·.add (1 * 1))) (t245.length - 1) (co13 - 1)) W_ := cut_from (P := Tryd.prog) 45 9 .i64 Tryd.underlying45 hi0_ 1 hsz_ Ao13 t245.length co13 1 (by omega) (by omega)
        obtain ⟨A1_, hA1_⟩ : ∃ A1, A1 = (if co13 = 1 then Ao13 else (Ao13 : Option Addr).map (·.add (1 * 1))) := ⟨_, rfl⟩
        obtain ⟨c1_, hc1_⟩ : ∃ c1, c1 = co13 - 1 := ⟨_, rfl⟩
        have hy1_ : (t245.drop 1).length = t245.length - 1 := List.length_drop
        clear hR_ hi0_ hsz_ hcut_
        refine pure_ (i := 1) (N := some 11) (v := ?_) (a' := ?_) #[true, true, true, true, true, false, false, false, false, false, false] rfl rfl (any_of HT_.out (by kernel_rfl)) (fun _ _ _ h => h) (Or.inl ⟨by rfl, ?_⟩) ?_ ?_
        rotate_left
        · intro w'
          go_simp
          refine (if_pos (show (1 : Int) ≤ (t245.length : Int) by omega)).trans ?_; refine (congrArg (fun v_ => Result.ok (Next.value v_) w') (show Value.slice (if co13 = 1 then Ao13 else Option.map (fun x : Addr => { block := x.block, off := x.off + 1, spot := none }) Ao13) (t245.length - 1) (co13 - 1) = Value.slice A1_ (t245.drop 1).length c1_ from by rw [hA1_, hc1_, hy1_]; first | done | rfl | (simp [Addr.add]; done))).trans ?_; with_reducible rfl
        rotate_left
        · simp only [Act.put, List.setIfInBounds_toArray, List.set_cons_zero, List.set_cons_succ, i64_w, i32_w]
          rfl
        refine two_ (i := 5) (j := 9) (Ni := some 15) (Nj := some 5) #[true, true, true, true, true, true, false, false, false, false, false] #[true, true, true, true, true, false, false, false, false, true, false] rfl rfl rfl rfl (two_of HT_.out (by kernel_rfl)) (by decide) (by decide) (fun K hK => ?_) (fun K hK => ?_)
        · skip
          first | refine goes_ Tryd.func41 (by kernel_rfl) rfl #[.slice A1_ (t245.drop 1).length c1_, .string (rdOf ByteArray.empty t242 0)] (by rfl) rfl rfl (by (try simp only [List.map_toArray, List.map_cons, List.map_nil]); first | done | rfl | (simp only [List.length_drop, List.length_take]; rfl)) ?_ | refine goesV_ Tryd.func41 (by kernel_rfl) rfl #[.slice A1_ (t245.drop 1).length c1_, .string (rdOf ByteArray.empty t242 0)] (by rfl) rfl rfl (by rfl) (by first | rfl | (simp only [List.map_toArray, List.map_cons, List.map_nil]; rfl)) ?_
          with_reducible refine (slices_Index_string_string.calls k _ _ (t245.drop 1) (rdOf ByteArray.empty t242 0) t249 _ ?side1 ?side2 A5.out).mono ?_
          (case side1 => rw [hA1_]; repeat (first | exact Kd.C_drop (m := 1) (Kd.R_reads' HO247.out).2.2 hl1_ (Kd.R_reads' HO247.out).2.1 | with_reducible apply cA_|with_reducible apply cN_|with_reducible apply cD_))
          (case side2 => rw [hc1_, hy1_]; exact Nat.sub_le_sub_right (Kd.R_reads' HO247.out).2.1 1)
          rintro e w' ⟨rfl, ⟨nd, rfl⟩⟩
          refine ⟨_, rfl, ?_⟩
          refine hK.out _ _ (hHeld) (fun hHeld => ?_)
          clear hK K
          refine norm_ (a' := ?_) ?_ ?_
          rotate_left
          · show Act.put _ (some 15) _ = _
            simp only [Act.put, List.setIfInBounds_toArray, List.set_cons_zero, List.set_cons_succ, i64_w, i32_w]
            rfl
          refine pure_ (i := 6) (N := some 16) (v := ?_) (a' := ?_) #[true, true, true, true, true, true, true, false, false, false, false] rfl rfl (any_of HT_.out (by kernel_rfl)) (fun _ _ _ h => h) (Or.inl ⟨by rfl, ?_⟩) ?_ ?_
          rotate_left
          · intro w'
            go_simp
            with_reducible rfl
          rotate_left
          · simp only [Act.put, List.setIfInBounds_toArray, List.set_cons_zero, List.set_cons_succ, i64_w, i32_w]
            rfl
          refine pure_ (i := 7) (N := some 17) (v := ?_) (a' := ?_) #[true, true, true, true, true, true, true, true, false, false, false] rfl rfl (any_of HT_.out (by kernel_rfl)) (fun _ _ _ h => h) (Or.inl ⟨by rfl, ?_⟩) ?_ ?_
          rotate_left
          · intro w'
            go_simp
            with_reducible rfl
          rotate_left
          · simp only [Act.put, List.setIfInBounds_toArray, List.set_cons_zero, List.set_cons_succ, i64_w, i32_w]
            rfl
          refine pure_ (i := 8) (N := some 18) (v := ?_) (a' := ?_) #[true, true, true, true, true, true, true, true, true, false, false] rfl rfl (any_of HT_.out (by kernel_rfl)) (fun _ _ _ h => h) (Or.inl ⟨by rfl, ?_⟩) ?_ ?_
          rotate_left
          · intro w'
            go_simp
            with_reducible rfl
          rotate_left
          · simp only [Act.put, List.setIfInBounds_toArray, List.set_cons_zero, List.set_cons_succ, i64_w, i32_w]
            rfl
          refine one_ (i := 9) (N := some 5) #[true, true, true, true, true, true, true, true, true, true, false] rfl rfl (one_of HT_.out (by kernel_rfl)) (by decide) (fun K hK => ?_)
          refine box_step ?hg (N := 5) ?hd (cs := #[.int .i64 0, .int .i64 0, .int .i64 0, .float .f64 0]) (t := 38) ?hr ?_; (case hd => rfl); (case hg => rfl); (case hr => first | (go_simp; done) | (go_simp; rfl))
          intro gb250 hg w14 hbox hb
          have HS0_ := (hb.cell (World.block_lt_of_cell? _ _ (hHeld))).trans (hHeld)
          have n0_ := Aside0.mk (Kd.R_below (by (with_reducible repeat first|apply rA_|apply rN_|apply rD_); exact HO244.out) hb)
          have n1_ := Aside0.mk (Kd.R_below (by (with_reducible repeat first|apply rA_|apply rN_|apply rD_); exact HO247.out) hb)
          have n2_ := Aside0.mk (blk_below (by (with_reducible repeat first|apply qN_|apply qD_|apply qA_); exact BK241.out) hb)
          have n3_ := Aside0.mk (below_step (by repeat (first | (with_reducible first|exact HB.out|apply vA_|apply vN_|apply vD_ | refine vS_ ?_ GE241.out) | exact HB.out)) hb)
          have n4_ := Aside0.mk (hbox)
          have n5_ := Aside0.mk ((by rw [hg]; exact (below_size (by repeat (first | (with_reducible first|exact HB.out|apply vA_|apply vN_|apply vD_ | refine vS_ ?_ GE241.out) | exact HB.out))) : w.heap.size ≤ gb250))
          have n6_ := Aside0.mk ((by rw [hg]; exact (below_size (by repeat (first | (with_reducible first|exact HB.out|apply vA_|apply vN_|apply vD_ | refine vS_ ?_ GE241.out) | exact HB.out))) : w.heap.size ≤ gb250))
          have n7_ := Aside0.mk ((by rw [hg]; exact Nat.ne_of_lt (blk_lt (g := gb241) (o := .cells #[.int .i64 0, .int .i64 0, .int .i64 0, .float .f64 0] 38 (0, 0)) (by (with_reducible repeat first|apply qN_|apply qD_|apply qA_); exact BK241.out)) : gb241 ≠ gb250))
          have n8_ := Aside0.mk ((by rw [hg]; exact Nat.ne_of_gt (blk_lt (g := gb241) (o := .cells #[.int .i64 0, .int .i64 0, .int .i64 0, .float .f64 0] 38 (0, 0)) (by (with_reducible repeat first|apply qN_|apply qD_|apply qA_); exact BK241.out)) : gb250 ≠ gb241))
          clear HO244
          clear HO247
          clear BK241
          clear HB
          have HO244 := n0_
          have HO247 := n1_
          have BK241 := n2_
          have HB := n3_
          have BK250 := n4_
          have GW250 := n5_
          have GE250 := n6_
          have NB241_250 := n7_
          have NB250_241 := n8_
          clear n0_ n1_ n2_ n3_ n4_ n5_ n6_ n7_ n8_
          clear hb hbox hg
          refine hK.out _ _ (HS0_) (fun hHeld => ?_)
          clear hK K
          refine norm_ (a' := ?_) ?_ ?_
          rotate_left
          · show Act.put _ (some 5) _ = _
            simp only [Act.put, List.setIfInBounds_toArray, List.set_cons_zero, List.set_cons_succ, i64_w, i32_w]
            rfl
          exact norm_ (by simp only [putAll, Act.put, List.setIfInBounds_toArray, List.set_cons_zero, List.set_cons_succ]) (hCont ((.slice Ao13 t245.length co13, .slice A1_ (t245.drop 1).length c1_), gb250) _ ⟨hHeld, (by (with_reducible repeat first|apply rA_|apply rN_|apply rD_); exact Kd.R_mono HO244.out (fun _ hk => hk.2)), (by (with_reducible repeat first|apply rA_|apply rN_|apply rD_); exact Kd.R_mono HO247.out (fun _ hk => hk.2)), (by (with_reducible repeat first|apply qN_|apply qD_|apply qA_); exact BK241.out), (by (with_reducible repeat first|apply qN_|apply qD_|apply qA_); exact BK250.out), GW250.out, GE250.out, NB241_250.out, NB250_241.out, (by repeat (first | (with_reducible first|exact HB.out|apply vA_|apply vN_|apply vD_ | refine vS_ ?_ GE241.out | refine vS_ ?_ GE250.out) | exact HB.out))⟩)
        · skip
          refine box_step ?hg (N := 5) ?hd (cs := #[.int .i64 0, .int .i64 0, .int .i64 0, .float .f64 0]) (t := 38) ?hr ?_; (case hd => rfl); (case hg => rfl); (case hr => first | (go_simp; done) | (go_simp; rfl))
          intro gb250 hg w13 hbox hb
          have HS0_ := (hb.cell (World.block_lt_of_cell? _ _ (hHeld))).trans (hHeld)
          have n0_ := Aside0.mk (Kd.R_below (by (with_reducible repeat first|apply rA_|apply rN_|apply rD_); exact HO244.out) hb)
          have n1_ := Aside0.mk (Kd.R_below (by (with_reducible repeat first|apply rA_|apply rN_|apply rD_); exact HO247.out) hb)
          have n2_ := Aside0.mk (blk_below (by (with_reducible repeat first|apply qN_|apply qD_|apply qA_); exact BK241.out) hb)
          have n3_ := Aside0.mk (below_step (by repeat (first | (with_reducible first|exact HB.out|apply vA_|apply vN_|apply vD_ | refine vS_ ?_ GE241.out) | exact HB.out)) hb)
          have n4_ := Aside0.mk (hbox)
          have n5_ := Aside0.mk ((by rw [hg]; exact (below_size (by repeat (first | (with_reducible first|exact HB.out|apply vA_|apply vN_|apply vD_ | refine vS_ ?_ GE241.out) | exact HB.out))) : w.heap.size ≤ gb250))
          have n6_ := Aside0.mk ((by rw [hg]; exact (below_size (by repeat (first | (with_reducible first|exact HB.out|apply vA_|apply vN_|apply vD_ | refine vS_ ?_ GE241.out) | exact HB.out))) : w.heap.size ≤ gb250))
          have n7_ := Aside0.mk ((by rw [hg]; exact Nat.ne_of_lt (blk_lt (g := gb241) (o := .cells #[.int .i64 0, .int .i64 0, .int .i64 0, .float .f64 0] 38 (0, 0)) (by (with_reducible repeat first|apply qN_|apply qD_|apply qA_); exact BK241.out)) : gb241 ≠ gb250))
          have n8_ := Aside0.mk ((by rw [hg]; exact Nat.ne_of_gt (blk_lt (g := gb241) (o := .cells #[.int .i64 0, .int .i64 0, .int .i64 0, .float .f64 0] 38 (0, 0)) (by (with_reducible repeat first|apply qN_|apply qD_|apply qA_); exact BK241.out)) : gb250 ≠ gb241))
          clear HO244
          clear HO247
          clear BK241
          clear HB
          have HO244 := n0_
          have HO247 := n1_
          have BK241 := n2_
          have HB := n3_
          have BK250 := n4_
          have GW250 := n5_
          have GE250 := n6_
          have NB241_250 := n7_
          have NB250_241 := n8_
          clear n0_ n1_ n2_ n3_ n4_ n5_ n6_ n7_ n8_
          clear hb hbox hg
          obtain ⟨Ao14, co14, eo14⟩ := Kd.R_slice HO247.out
          (first | subst eo14 | (injection eo14 with f1_ f2_ f3_; have f4_ := f1_.symm; have f5_ := f3_.symm; clear f1_ f2_ f3_; subst f4_; subst f5_))
          refine hK.out _ _ (HS0_) (fun hHeld => ?_)
          clear hK K
          refine norm_ (a' := ?_) ?_ ?_
          rotate_left
          · show Act.put _ (some 5) _ = _
            simp only [Act.put, List.setIfInBounds_toArray, List.set_cons_zero, List.set_cons_succ, i64_w, i32_w]
            rfl
          refine one_ (i := 5) (N := some 15) #[true, true, true, true, true, true, false, false, false, true, false] rfl rfl (one_of HT_.out (by kernel_rfl)) (by decide) (fun K hK => ?_)
          first | refine goes_ Tryd.func41 (by kernel_rfl) rfl #[.slice A1_ (t245.drop 1).length c1_, .string (rdOf ByteArray.empty t242 0)] (by rfl) rfl rfl (by (try simp only [List.map_toArray, List.map_cons, List.map_nil]); first | done | rfl | (simp only [List.length_drop, List.length_take]; rfl)) ?_ | refine goesV_ Tryd.func41 (by kernel_rfl) rfl #[.slice A1_ (t245.drop 1).length c1_, .string (rdOf ByteArray.empty t242 0)] (by rfl) rfl rfl (by rfl) (by first | rfl | (simp only [List.map_toArray, List.map_cons, List.map_nil]; rfl)) ?_
          with_reducible refine (slices_Index_string_string.calls k _ _ (t245.drop 1) (rdOf ByteArray.empty t242 0) t249 _ ?side1 ?side2 A5.out).mono ?_
          (case side1 => rw [hA1_]; repeat (first | exact Kd.C_drop (m := 1) (Kd.R_reads' HO247.out).2.2 hl1_ (Kd.R_reads' HO247.out).2.1 | with_reducible apply cA_|with_reducible apply cN_|with_reducible apply cD_))
          (case side2 => rw [hc1_, hy1_]; exact Nat.sub_le_sub_right (Kd.R_reads' HO247.out).2.1 1)
          rintro e w' ⟨rfl, ⟨nd, rfl⟩⟩
          refine ⟨_, rfl, ?_⟩
          refine hK.out _ _ (hHeld) (fun hHeld => ?_)
          clear hK K
          refine norm_ (a' := ?_) ?_ ?_
          rotate_left
          · show Act.put _ (some 15) _ = _
            simp only [Act.put, List.setIfInBounds_toArray, List.set_cons_zero, List.set_cons_succ, i64_w, i32_w]
            rfl
          refine pure_ (i := 6) (N := some 16) (v := ?_) (a' := ?_) #[true, true, true, true, true, true, true, false, false, true, false] rfl rfl (any_of HT_.out (by kernel_rfl)) (fun _ _ _ h => h) (Or.inl ⟨by rfl, ?_⟩) ?_ ?_
          rotate_left
          · intro w'
            go_simp
            with_reducible rfl
          rotate_left
          · simp only [Act.put, List.setIfInBounds_toArray, List.set_cons_zero, List.set_cons_succ, i64_w, i32_w]
            rfl
          refine pure_ (i := 7) (N := some 17) (v := ?_) (a' := ?_) #[true, true, true, true, true, true, true, true, false, true, false] rfl rfl (any_of HT_.out (by kernel_rfl)) (fun _ _ _ h => h) (Or.inl ⟨by rfl, ?_⟩) ?_ ?_
          rotate_left
          · intro w'
            go_simp
            with_reducible rfl
          rotate_left
          · simp only [Act.put, List.setIfInBounds_toArray, List.set_cons_zero, List.set_cons_succ, i64_w, i32_w]
            rfl
          refine pure_ (i := 8) (N := some 18) (v := ?_) (a' := ?_) #[true, true, true, true, true, true, true, true, true, true, false] rfl rfl (any_of HT_.out (by kernel_rfl)) (fun _ _ _ h => h) (Or.inl ⟨by rfl, ?_⟩) ?_ ?_
          rotate_left
          · intro w'
            go_simp
            with_reducible rfl
          rotate_left
          · simp only [Act.put, List.setIfInBounds_toArray, List.set_cons_zero, List.set_cons_succ, i64_w, i32_w]
            rfl
          exact norm_ (by simp only [putAll, Act.put, List.setIfInBounds_toArray, List.set_cons_zero, List.set_cons_succ]) (hCont ((.slice Ao14 t245.length co14, .slice A1_ (t245.drop 1).length c1_), gb250) _ ⟨hHeld, (by (with_reducible repeat first|apply rA_|apply rN_|apply rD_); exact Kd.R_mono HO244.out (fun _ hk => hk.2)), (by (with_reducible repeat first|apply rA_|apply rN_|apply rD_); exact Kd.R_mono HO247.out (fun _ hk => hk.2)), (by (with_reducible repeat first|apply qN_|apply qD_|apply qA_); exact BK241.out), (by (with_reducible repeat first|apply qN_|apply qD_|apply qA_); exact BK250.out), GW250.out, GE250.out, NB241_250.out, NB250_241.out, (by repeat (first | (with_reducible first|exact HB.out|apply vA_|apply vN_|apply vD_ | refine vS_ ?_ GE241.out | refine vS_ ?_ GE250.out) | exact HB.out))⟩)
      · skip
        refine box_step ?hg (N := 5) ?hd (cs := #[.int .i64 0, .int .i64 0, .int .i64 0, .float .f64 0]) (t := 38) ?hr ?_; (case hd => rfl); (case hg => rfl); (case hr => first | (go_simp; done) | (go_simp; rfl))
        intro gb250 hg w12 hbox hb
        have HS0_ := (hb.cell (World.block_lt_of_cell? _ _ (hHeld))).trans (hHeld)
        have n0_ := Aside0.mk (Kd.R_below (by (with_reducible repeat first|apply rA_|apply rN_|apply rD_); exact HO244.out) hb)
        have n1_ := Aside0.mk (blk_below (by (with_reducible repeat first|apply qN_|apply qD_|apply qA_); exact BK241.out) hb)
        have n2_ := Aside0.mk (below_step (by repeat (first | (with_reducible first|exact HB.out|apply vA_|apply vN_|apply vD_ | refine vS_ ?_ GE241.out) | exact HB.out)) hb)
        have n3_ := Aside0.mk (hbox)
        have n4_ := Aside0.mk ((by rw [hg]; exact (below_size (by repeat (first | (with_reducible first|exact HB.out|apply vA_|apply vN_|apply vD_ | refine vS_ ?_ GE241.out) | exact HB.out))) : w.heap.size ≤ gb250))
        have n5_ := Aside0.mk ((by rw [hg]; exact (below_size (by repeat (first | (with_reducible first|exact HB.out|apply vA_|apply vN_|apply vD_ | refine vS_ ?_ GE241.out) | exact HB.out))) : w.heap.size ≤ gb250))
        have n6_ := Aside0.mk ((by rw [hg]; exact Nat.ne_of_lt (blk_lt (g := gb241) (o := .cells #[.int .i64 0, .int .i64 0, .int .i64 0, .float .f64 0] 38 (0, 0)) (by (with_reducible repeat first|apply qN_|apply qD_|apply qA_); exact BK241.out)) : gb241 ≠ gb250))
        have n7_ := Aside0.mk ((by rw [hg]; exact Nat.ne_of_gt (blk_lt (g := gb241) (o := .cells #[.int .i64 0, .int .i64 0, .int .i64 0, .float .f64 0] 38 (0, 0)) (by (with_reducible repeat first|apply qN_|apply qD_|apply qA_); exact BK241.out)) : gb250 ≠ gb241))
        clear HO244
        clear BK241
        clear HB
        have HO244 := n0_
        have BK241 := n1_
        have HB := n2_
        have BK250 := n3_
        have GW250 := n4_
        have GE250 := n5_
        have NB241_250 := n6_
        have NB250_241 := n7_
        clear n0_ n1_ n2_ n3_ n4_ n5_ n6_ n7_
        clear hb hbox hg
        refine hK.out _ _ (HS0_) (fun hHeld => ?_)
        clear hK K
        refine norm_ (a' := ?_) ?_ ?_
        rotate_left
        · show Act.put _ (some 5) _ = _
          simp only [Act.put, List.setIfInBounds_toArray, List.set_cons_zero, List.set_cons_succ, i64_w, i32_w]
          rfl
        refine one_ (i := 0) (N := some 10) #[true, false, true, true, true, false, false, false, false, true, false] rfl rfl (one_of HT_.out (by kernel_rfl)) (by decide) (fun K hK => ?_)
        first | refine goes_ Tryd.func42 (by kernel_rfl) rfl #[] (by rfl) rfl rfl (by (try simp only [List.map_toArray, List.map_cons, List.map_nil]); first | done | rfl | (simp only [List.length_drop, List.length_take]; rfl)) ?_ | refine goesV_ Tryd.func42 (by kernel_rfl) rfl #[] (by rfl) rfl rfl (by rfl) (by first | rfl | (simp only [List.map_toArray, List.map_cons, List.map_nil]; rfl)) ?_
        with_reducible refine (impl_opWords.calls  t245 _ A3.out).mono ?_
        rintro e w13 ⟨v246, rfl, ho0, hb⟩
        have HS0_ := (hb.cell (World.block_lt_of_cell? _ _ (hHeld))).trans (hHeld)
        refine ⟨_, rfl, ?_⟩
        have n0_ := Aside0.mk (Kd.R_elder' (by (with_reducible repeat first|apply rA_|apply rN_|apply rD_); exact HO244.out) (by first | exact Kd.R_base ho0 | exact Kd.S_base ho0 | exact Kd.R_base ho0) hb)
        have n1_ := Aside0.mk (Kd.R_lower (Kd.R_new' ho0 (Kd.R_lt (by (with_reducible repeat first|apply rA_|apply rN_|apply rD_); exact HO244.out))) (below_size (by repeat (first | (with_reducible first|exact HB.out|apply vA_|apply vN_|apply vD_ | refine vS_ ?_ GE241.out | refine vS_ ?_ GE250.out) | exact HB.out))))
        have n2_ := Aside0.mk (blk_below (by (with_reducible repeat first|apply qN_|apply qD_|apply qA_); exact BK241.out) hb)
        have n3_ := Aside0.mk (blk_below (by (with_reducible repeat first|apply qN_|apply qD_|apply qA_); exact BK250.out) hb)
        have n4_ := Aside0.mk (below_step (by repeat (first | (with_reducible first|exact HB.out|apply vA_|apply vN_|apply vD_ | refine vS_ ?_ GE241.out | refine vS_ ?_ GE250.out) | exact HB.out)) hb)
        clear HO244
        clear BK241
        clear BK250
        clear HB
        have HO244 := n0_
        have HO247 := n1_
        have BK241 := n2_
        have BK250 := n3_
        have HB := n4_
        clear n0_ n1_ n2_ n3_ n4_
        (try clear hb)
        (try clear hb2)
        (try clear hk)
        (try clear hi)
        (try clear ho0)
        obtain ⟨Ao14, co14, eo14⟩ := Kd.R_slice HO247.out
        (first | subst eo14 | (injection eo14 with f1_ f2_ f3_; have f4_ := f1_.symm; have f5_ := f3_.symm; clear f1_ f2_ f3_; subst f4_; subst f5_))
        refine hK.out _ _ (HS0_) (fun hHeld => ?_)
        clear hK K
        refine norm_ (a' := ?_) ?_ ?_
        rotate_left
        · show Act.put _ (some 10) _ = _
          simp only [Act.put, List.setIfInBounds_toArray, List.set_cons_zero, List.set_cons_succ, i64_w, i32_w]
          rfl
        obtain ⟨i0_, hi0_, _, hsz_, _⟩ := info_parts info9
        have hR_ := Kd.R_reads' HO247.out
        have hcut_ : ∀ W_ : World, (Instr.slice 45 (.slice Ao14 t245.length co14) (some (.int .i64 1)) none none).run Tryd.prog W_ = .ok (.slice (if co14 = 1 then Ao14 else (Ao14 : Option Addr).map (·.add (1 * 1))) (t245.length - 1) (co14 - 1)) W_ := cut_from (P := Tryd.prog) 45 9 .i64 Tryd.underlying45 hi0_ 1 hsz_ Ao14 t245.length co14 1 (by omega) (by omega)
        obtain ⟨A1_, hA1_⟩ : ∃ A1, A1 = (if co14 = 1 then Ao14 else (Ao14 : Option Addr).map (·.add (1 * 1))) := ⟨_, rfl⟩
        obtain ⟨c1_, hc1_⟩ : ∃ c1, c1 = co14 - 1 := ⟨_, rfl⟩
        have hy1_ : (t245.drop 1).length = t245.length - 1 := List.length_drop
        clear hR_ hi0_ hsz_ hcut_
        refine pure_ (i := 1) (N := some 11) (v := ?_) (a' := ?_) #[true, true, true, true, true, false, false, false, false, true, false] rfl rfl (any_of HT_.out (by kernel_rfl)) (fun _ _ _ h => h) (Or.inl ⟨by rfl, ?_⟩) ?_ ?_
        rotate_left
        · intro w'
          go_simp
          refine (if_pos (show (1 : Int) ≤ (t245.length : Int) by omega)).trans ?_; refine (congrArg (fun v_ => Result.ok (Next.value v_) w') (show Value.slice (if co14 = 1 then Ao14 else Option.map (fun x : Addr => { block := x.block, off := x.off + 1, spot := none }) Ao14) (t245.length - 1) (co14 - 1) = Value.slice A1_ (t245.drop 1).length c1_ from by rw [hA1_, hc1_, hy1_]; first | done | rfl | (simp [Addr.add]; done))).trans ?_; with_reducible rfl
        rotate_left
        · simp only [Act.put, List.setIfInBounds_toArray, List.set_cons_zero, List.set_cons_succ, i64_w, i32_w]
          rfl
        refine one_ (i := 5) (N := some 15) #[true, true, true, true, true, true, false, false, false, true, false] rfl rfl (one_of HT_.out (by kernel_rfl)) (by decide) (fun K hK => ?_)
        first | refine goes_ Tryd.func41 (by kernel_rfl) rfl #[.slice A1_ (t245.drop 1).length c1_, .string (rdOf ByteArray.empty t242 0)] (by rfl) rfl rfl (by (try simp only [List.map_toArray, List.map_cons, List.map_nil]); first | done | rfl | (simp only [List.length_drop, List.length_take]; rfl)) ?_ | refine goesV_ Tryd.func41 (by kernel_rfl) rfl #[.slice A1_ (t245.drop 1).length c1_, .string (rdOf ByteArray.empty t242 0)] (by rfl) rfl rfl (by rfl) (by first | rfl | (simp only [List.map_toArray, List.map_cons, List.map_nil]; rfl)) ?_
        with_reducible refine (slices_Index_string_string.calls k _ _ (t245.drop 1) (rdOf ByteArray.empty t242 0) t249 _ ?side1 ?side2 A5.out).mono ?_
        (case side1 => rw [hA1_]; repeat (first | exact Kd.C_drop (m := 1) (Kd.R_reads' HO247.out).2.2 hl1_ (Kd.R_reads' HO247.out).2.1 | with_reducible apply cA_|with_reducible apply cN_|with_reducible apply cD_))
        (case side2 => rw [hc1_, hy1_]; exact Nat.sub_le_sub_right (Kd.R_reads' HO247.out).2.1 1)
        rintro e w' ⟨rfl, ⟨nd, rfl⟩⟩
        refine ⟨_, rfl, ?_⟩
        refine hK.out _ _ (hHeld) (fun hHeld => ?_)
        clear hK K
        refine norm_ (a' := ?_) ?_ ?_
        rotate_left
        · show Act.put _ (some 15) _ = _
          simp only [Act.put, List.setIfInBounds_toArray, List.set_cons_zero, List.set_cons_succ, i64_w, i32_w]
          rfl
        refine pure_ (i := 6) (N := some 16) (v := ?_) (a' := ?_) #[true, true, true, true, true, true, true, false, false, true, false] rfl rfl (any_of HT_.out (by kernel_rfl)) (fun _ _ _ h => h) (Or.inl ⟨by rfl, ?_⟩) ?_ ?_
        rotate_left
        · intro w'
          go_simp
          with_reducible rfl
        rotate_left
        · simp only [Act.put, List.setIfInBounds_toArray, List.set_cons_zero, List.set_cons_succ, i64_w, i32_w]
          rfl
        refine pure_ (i := 7) (N := some 17) (v := ?_) (a' := ?_) #[true, true, true, true, true, true, true, true, false, true, false] rfl rfl (any_of HT_.out (by kernel_rfl)) (fun _ _ _ h => h) (Or.inl ⟨by rfl, ?_⟩) ?_ ?_
        rotate_left
        · intro w'
          go_simp
          with_reducible rfl
        rotate_left
        · simp only [Act.put, List.setIfInBounds_toArray, List.set_cons_zero, List.set_cons_succ, i64_w, i32_w]
          rfl
        refine pure_ (i := 8) (N := some 18) (v := ?_) (a' := ?_) #[true, true, true, true, true, true, true, true, true, true, false] rfl rfl (any_of HT_.out (by kernel_rfl)) (fun _ _ _ h => h) (Or.inl ⟨by rfl, ?_⟩) ?_ ?_
        rotate_left
        · intro w'
          go_simp
          with_reducible rfl
        rotate_left
        · simp only [Act.put, List.setIfInBounds_toArray, List.set_cons_zero, List.set_cons_succ, i64_w, i32_w]
          rfl
        exact norm_ (by simp only [putAll, Act.put, List.setIfInBounds_toArray, List.set_cons_zero, List.set_cons_succ]) (hCont ((.slice Ao14 t245.length co14, .slice A1_ (t245.drop 1).length c1_), gb250) _ ⟨hHeld, (by (with_reducible repeat first|apply rA_|apply rN_|apply rD_); exact Kd.R_mono HO244.out (fun _ hk => hk.2)), (by (with_reducible repeat first|apply rA_|apply rN_|apply rD_); exact Kd.R_mono HO247.out (fun _ hk => hk.2)), (by (with_reducible repeat first|apply qN_|apply qD_|apply qA_); exact BK241.out), (by (with_reducible repeat first|apply qN_|apply qD_|apply qA_); exact BK250.out), GW250.out, GE250.out, NB241_250.out, NB250_241.out, (by repeat (first | (with_reducible first|exact HB.out|apply vA_|apply vN_|apply vD_ | refine vS_ ?_ GE241.out | refine vS_ ?_ GE250.out) | exact HB.out))⟩)
    rintro ⟨⟨v246, v11_⟩, gb250⟩ w15 ⟨hS_, h0_, h1_, h2_, h3_, h4_, h5_, h6_, h7_, h8_⟩
    have n0_ : Aside0 (Kd.R Kd.string 9 w15 w.heap.size (fun k_ => some k_ ≠ (v246 : Value).ownBlock) (.slice (some ad248) t242.length co11) t242) := ⟨h0_⟩
    have n1_ : Aside0 (Kd.R Kd.string 9 w15 w.heap.size (fun k_ => some k_ ≠ (.slice (some ad248) t242.length co11 : Value).ownBlock) v246 t245) := ⟨h1_⟩
    have n2_ : Aside0 (w15.heap[gb241]? = some (.cells #[.int .i64 0, .int .i64 0, .int .i64 0, .float .f64 0] 38 (0, 0))) := ⟨h2_⟩
    have n3_ : Aside0 (w15.heap[gb250]? = some (.cells #[.int .i64 0, .int .i64 0, .int .i64 0, .float .f64 0] 38 (0, 0))) := ⟨h3_⟩
    have n4_ : Aside0 (w.heap.size ≤ gb250) := ⟨h4_⟩
    have n5_ : Aside0 (w.heap.size ≤ gb250) := ⟨h5_⟩
    have n6_ : Aside0 (gb241 ≠ gb250) := ⟨h6_⟩
    have n7_ : Aside0 (gb250 ≠ gb241) := ⟨h7_⟩
    have n8_ : Aside0 (Below w.heap.size w w15) := ⟨h8_⟩
    clear HO244
    clear BK241
    clear HB
    clear h0_ h1_ h2_ h3_ h4_ h5_ h6_ h7_ h8_
    have HO244 := n0_
    have HO247 := n1_
    have BK241 := n2_
    have BK250 := n3_
    have GW250 := n4_
    have GE250 := n5_
    have NB241_250 := n6_
    have NB250_241 := n7_
    have HB := n8_
    clear n0_ n1_ n2_ n3_ n4_ n5_ n6_ n7_ n8_
    have hHeld : w15.cell? ad248 = some (.string (rdOf ByteArray.empty t242 0)) := hS_
    refine norm_ (a' := ?_) ?_ ?_
    rotate_left
    · simp only [putAll, Act.put, List.setIfInBounds_toArray, List.set_cons_zero, List.set_cons_succ]
      rfl
    refine one_ (i := 10) (N := none) #[true, true, true, true, true, true, true, true, true, true, true] rfl rfl (one_of HT_.out (by kernel_rfl)) (by decide) (fun K hK => ?_)
    have hs16 : w15.cell? ⟨gb250, 0, none⟩ = some (.int .i64 0) := (blk_cell BK250.out 0).trans rfl
    have hfs16 := blk_frozen BK250.out 0
    have hns16_0 := NB241_250.out
    have hms16_0 := NB250_241.out
    have hs17 : w15.cell? ⟨gb250, 1, none⟩ = some (.int .i64 0) := (blk_cell BK250.out 1).trans rfl
    have hfs17 := blk_frozen BK250.out 1
    have hns17_0 := NB241_250.out
    have hms17_0 := NB250_241.out
    have hs18 : w15.cell? ⟨gb250, 2, none⟩ = some (.int .i64 0) := (blk_cell BK250.out 2).trans rfl
    have hfs18 := blk_frozen BK250.out 2
    have hns18_0 := NB241_250.out
    have hms18_0 := NB250_241.out
    have hs19 : w15.cell? ⟨gb250, 3, none⟩ = some (.float .f64 0) := (blk_cell BK250.out 3).trans rfl
    have hfs19 := blk_frozen BK250.out 3
    have hns19_0 := NB241_250.out
    have hms19_0 := NB250_241.out
    refine skip_ (w1 := ?_) (by rfl) rfl ?_ ?_
    rotate_left
    · go_simp
      rfl
    refine hK.out _ _ (((cell_far (p := ⟨gb250, _, none⟩) (by first | exact Kd.own_blk (Kd.R_ne HO244.out BK250.out (by decide)) | (rw [add_block]; exact Kd.own_blk (Kd.R_ne HO244.out BK250.out (by decide))) | (show (Addr.add _ _).block ≠ _; rw [add_block]; exact Kd.own_blk (Kd.R_ne HO244.out BK250.out (by decide))) | (dsimp only; exact Kd.own_blk (Kd.R_ne HO244.out BK250.out (by decide)))) _).trans (((cell_far (p := ⟨gb250, _, none⟩) (by first | exact Kd.own_blk (Kd.R_ne HO244.out BK250.out (by decide)) | (rw [add_block]; exact Kd.own_blk (Kd.R_ne HO244.out BK250.out (by decide))) | (show (Addr.add _ _).block ≠ _; rw [add_block]; exact Kd.own_blk (Kd.R_ne HO244.out BK250.out (by decide))) | (dsimp only; exact Kd.own_blk (Kd.R_ne HO244.out BK250.out (by decide)))) _).trans (((cell_far (p := ⟨gb250, _, none⟩) (by first | exact Kd.own_blk (Kd.R_ne HO244.out BK250.out (by decide)) | (rw [add_block]; exact Kd.own_blk (Kd.R_ne HO244.out BK250.out (by decide))) | (show (Addr.add _ _).block ≠ _; rw [add_block]; exact Kd.own_blk (Kd.R_ne HO244.out BK250.out (by decide))) | (dsimp only; exact Kd.own_blk (Kd.R_ne HO244.out BK250.out (by decide)))) _).trans (((cell_far (p := ⟨gb250, _, none⟩) (by first | exact Kd.own_blk (Kd.R_ne HO244.out BK250.out (by decide)) | (rw [add_block]; exact Kd.own_blk (Kd.R_ne HO244.out BK250.out (by decide))) | (show (Addr.add _ _).block ≠ _; rw [add_block]; exact Kd.own_blk (Kd.R_ne HO244.out BK250.out (by decide))) | (dsimp only; exact Kd.own_blk (Kd.R_ne HO244.out BK250.out (by decide)))) _).trans (hHeld))))))))) (fun hHeld => ?_)
    clear hK K
    refine done_ (done_of HT_.out (by kernel_rfl)) ?_
    go_upto_region 3 with (fail)
    go_cut [26] (fun v26 wc => ∃ (kq : Nat) (x26_6 : Bool), v26 = .bool x26_6 ∧ Aside0 (impl_ReadOp.j0 kq a0 t242 x26_6 ji6 0 0 0 = some (r1, r2, r3, r4, r5)) ∧ Aside0 (kq ≤ k) ∧ Aside0 (Kd.R Kd.string 9 wc w.heap.size (fun _ => True) (.slice (some ad248) t242.length co11) t242) ∧ Aside0 (wc.heap[gb241]? = some (.cells #[.int .i64 0, .int .i64 0, .int .i64 0, .float .f64 0] 38 (0, 0))) ∧ Aside0 (wc.heap[gb250]? = some (.cells #[.int .i64 ji6, .int .i64 0, .int .i64 0, .float .f64 0] 38 (0, 0))) ∧ Aside0 (Below w.heap.size w wc))
    case first =>
      have H := HC7.out
      clear HC7
      by_cases c20 : (ji6) = 1
      · rw [if_pos c20] at H
        have c20b0 : ((ji6) == 1) = true := beq_iff_eq.mpr c20
        have c20b1 : ((ji6) != 1) = false := bne_eq_false_iff_eq.mpr c20
        clear c20
        (first | rw [c20b0] | (simp only [i64_w, i32_w]; rw [c20b0]) | skip)
        have H' := Aside0.mk H
        clear H
        have hnb21 := NB250_241.out
        have hnc21 := NB241_250.out
        have hcz22_0 : w15.cell? ⟨gb250, 0, none⟩ = some (.int .i64 0) := (blk_cell BK250.out 0).trans rfl
        have hcz22_1 : w15.cell? ⟨gb250, 1, none⟩ = some (.int .i64 0) := (blk_cell BK250.out 1).trans rfl
        have hcz22_2 : w15.cell? ⟨gb250, 2, none⟩ = some (.int .i64 0) := (blk_cell BK250.out 2).trans rfl
        have hcz22_3 : w15.cell? ⟨gb250, 3, none⟩ = some (.float .f64 0) := (blk_cell BK250.out 3).trans rfl
        have hfz22_0 := blk_frozen BK250.out 0
        have hfz22_1 := blk_frozen BK250.out 1
        have hfz22_2 := blk_frozen BK250.out 2
        have hfz22_3 := blk_frozen BK250.out 3
        go_wp2
        go_meet
        case rel => exact ⟨_, (((t242.length : Int) == 2)), (by first | rfl | (simp; done) | (simp [*]; done)), H', ⟨by first | omega | exact Nat.le_refl _⟩, ⟨by (with_reducible repeat first|apply rA_|apply rN_|apply rD_); exact Kd.R_mono (Kd.R_far (p := ⟨gb250, 3, none⟩) (Kd.R_far (p := ⟨gb250, 2, none⟩) (Kd.R_far (p := ⟨gb250, 1, none⟩) (Kd.R_far (p := ⟨gb250, 0, none⟩) (Kd.R_types HO244.out BK250.out (by decide)) (fun _ hk => hk.2) (.int .i64 ji6)) (fun _ hk => hk.2) (.int .i64 0)) (fun _ hk => hk.2) (.int .i64 0)) (fun _ hk => hk.2) (.float .f64 0)) (fun _ hk => trivial)⟩, ⟨by (with_reducible repeat first|apply qN_|apply qD_|apply qA_); refine blk_far ?_ NB241_250.out _; (with_reducible repeat first|apply qN_|apply qD_|apply qA_); refine blk_far ?_ NB241_250.out _; (with_reducible repeat first|apply qN_|apply qD_|apply qA_); refine blk_far ?_ NB241_250.out _; (with_reducible repeat first|apply qN_|apply qD_|apply qA_); refine blk_far ?_ NB241_250.out _; (with_reducible repeat first|apply qN_|apply qD_|apply qA_); exact BK241.out⟩, ⟨by (with_reducible repeat first|apply qN_|apply qD_|apply qA_); refine blk_put (cs := #[.int .i64 ji6, .int .i64 0, .int .i64 0, .float .f64 0]) ?_ 3 _ rfl; (with_reducible repeat first|apply qN_|apply qD_|apply qA_); refine blk_put (cs := #[.int .i64 ji6, .int .i64 0, .int .i64 0, .float .f64 0]) ?_ 2 _ rfl; (with_reducible repeat first|apply qN_|apply qD_|apply qA_); refine blk_put (cs := #[.int .i64 ji6, .int .i64 0, .int .i64 0, .float .f64 0]) ?_ 1 _ rfl; (with_reducible repeat first|apply qN_|apply qD_|apply qA_); refine blk_put (cs := #[.int .i64 0, .int .i64 0, .int .i64 0, .float .f64 0]) ?_ 0 _ rfl; (with_reducible repeat first|apply qN_|apply qD_|apply qA_); exact BK250.out⟩, ⟨by repeat (first | (with_reducible first|exact HB.out|apply vA_|apply vN_|apply vD_ | refine vS_ ?_ GE241.out | refine vS_ ?_ GE250.out) | exact HB.out)⟩⟩
      · rw [if_neg c20] at H
        have c20b0 : ((ji6) == 1) = false := beq_eq_false_iff_ne.mpr c20
        have c20b1 : ((ji6) != 1) = true := bne_iff_ne.mpr c20
        (first | rw [c20b0] | (simp only [i64_w, i32_w]; rw [c20b0]) | skip)
        have H' := Aside0.mk H
        clear H
        have hnb23 := NB250_241.out
        have hnc23 := NB241_250.out
        have hcz24_0 : w15.cell? ⟨gb250, 0, none⟩ = some (.int .i64 0) := (blk_cell BK250.out 0).trans rfl
        have hcz24_1 : w15.cell? ⟨gb250, 1, none⟩ = some (.int .i64 0) := (blk_cell BK250.out 1).trans rfl
        have hcz24_2 : w15.cell? ⟨gb250, 2, none⟩ = some (.int .i64 0) := (blk_cell BK250.out 2).trans rfl
        have hcz24_3 : w15.cell? ⟨gb250, 3, none⟩ = some (.float .f64 0) := (blk_cell BK250.out 3).trans rfl
        have hfz24_0 := blk_frozen BK250.out 0
        have hfz24_1 := blk_frozen BK250.out 1
        have hfz24_2 := blk_frozen BK250.out 2
        have hfz24_3 := blk_frozen BK250.out 3
        go_wp2
        go_meet
        case rel => exact ⟨_, (false), (by first | rfl | (simp; done) | (simp [*]; done)), H', ⟨by first | omega | exact Nat.le_refl _⟩, ⟨by (with_reducible repeat first|apply rA_|apply rN_|apply rD_); exact Kd.R_mono (Kd.R_far (p := ⟨gb250, 3, none⟩) (Kd.R_far (p := ⟨gb250, 2, none⟩) (Kd.R_far (p := ⟨gb250, 1, none⟩) (Kd.R_far (p := ⟨gb250, 0, none⟩) (Kd.R_types HO244.out BK250.out (by decide)) (fun _ hk => hk.2) (.int .i64 ji6)) (fun _ hk => hk.2) (.int .i64 0)) (fun _ hk => hk.2) (.int .i64 0)) (fun _ hk => hk.2) (.float .f64 0)) (fun _ hk => trivial)⟩, ⟨by (with_reducible repeat first|apply qN_|apply qD_|apply qA_); refine blk_far ?_ NB241_250.out _; (with_reducible repeat first|apply qN_|apply qD_|apply qA_); refine blk_far ?_ NB241_250.out _; (with_reducible repeat first|apply qN_|apply qD_|apply qA_); refine blk_far ?_ NB241_250.out _; (with_reducible repeat first|apply qN_|apply qD_|apply qA_); refine blk_far ?_ NB241_250.out _; (with_reducible repeat first|apply qN_|apply qD_|apply qA_); exact BK241.out⟩, ⟨by (with_reducible repeat first|apply qN_|apply qD_|apply qA_); refine blk_put (cs := #[.int .i64 ji6, .int .i64 0, .int .i64 0, .float .f64 0]) ?_ 3 _ rfl; (with_reducible repeat first|apply qN_|apply qD_|apply qA_); refine blk_put (cs := #[.int .i64 ji6, .int .i64 0, .int .i64 0, .float .f64 0]) ?_ 2 _ rfl; (with_reducible repeat first|apply qN_|apply qD_|apply qA_); refine blk_put (cs := #[.int .i64 ji6, .int .i64 0, .int .i64 0, .float .f64 0]) ?_ 1 _ rfl; (with_reducible repeat first|apply qN_|apply qD_|apply qA_); refine blk_put (cs := #[.int .i64 0, .int .i64 0, .int .i64 0, .float .f64 0]) ?_ 0 _ rfl; (with_reducible repeat first|apply qN_|apply qD_|apply qA_); exact BK250.out⟩, ⟨by repeat (first | (with_reducible first|exact HB.out|apply vA_|apply vN_|apply vD_ | refine vS_ ?_ GE241.out | refine vS_ ?_ GE250.out) | exact HB.out)⟩⟩
    case rest =>
      clear HC7
      try clear c1
      try clear c2
      try clear p2
      try clear q2
      try clear hx2
      try clear qi2
      try clear c4
      try clear c4b0
      try clear c4b1
      try clear p6
      try clear c17
      try clear c20
      try clear c20b0
      try clear c20b1
      try clear c21
      try clear c23
      try clear p24
      try clear q24
      try clear hx24
      try clear qi24
      try clear hcz22_0
      try clear hcz22_1
      try clear hcz22_2
      try clear hcz22_3
      try clear hcz24_0
      try clear hcz24_1
      try clear hcz24_2
      try clear hcz24_3
      try clear hfz22_0
      try clear hfz22_1
      try clear hfz22_2
      try clear hfz22_3
      try clear hfz24_0
      try clear hfz24_1
      try clear hfz24_2
      try clear hfz24_3
      try clear hx248_0
      try clear p248
      try clear q248
      obtain ⟨kq, x26_6, rfl, HA, HJ6, HO_4, BK241, BK250, HB⟩ := hcut
      cases kq with
      | zero => exact absurd HA.out (by simp [impl_ReadOp.j0])
      | succ kj6 =>
        have H := HA.out
        clear HA
        simp only [impl_ReadOp.j0] at H
        have HC25 := Aside0.mk H
        clear H
        go_upto_if 26 with (fail)
        go_cut [] (fun wc => ∃ (kq : Nat) (x251003_24 : Nat), Aside0 (impl_ReadOp.j1 kq a0 t242 ji6 0 0 x251003_24 = some (r1, r2, r3, r4, r5)) ∧ Aside0 (kq ≤ kj6) ∧ Aside0 (Kd.R Kd.string 9 wc w.heap.size (fun _ => True) (.slice (some ad248) t242.length co11) t242) ∧ Aside0 (wc.heap[gb241]? = some (.cells #[.int .i64 0, .int .i64 0, .int .i64 0, .float .f64 0] 38 (0, 0))) ∧ Aside0 (wc.heap[gb250]? = some (.cells #[.int .i64 ji6, .int .i64 0, .int .i64 0, .float .f64 x251003_24] 38 (0, 0))) ∧ Aside0 (Below w.heap.size w wc))
        case first =>
          have H := HC25.out
          clear HC25
          by_cases c26 : x26_6 = true
          · subst c26
            have H1 : (if 1 < (t242.length : Int) then ((impl_ReadNum.f kj6 (rdOf ByteArray.empty t242 1)).bind fun bt252 => (impl_ReadOp.j1 kj6 a0 t242 ji6 0 0 bt252.1)) else (none)) = some (r1, r2, r3, r4, r5) := by rw [if_pos rfl] at H; exact H
            clear H
            have H := H1
            clear H1
            by_cases c27 : 1 < (t242.length : Int)
            · rw [if_pos c27] at H
              have c27b0 : decide (1 < (t242.length : Int)) = true := decide_eq_true c27
              have c27b1 : decide (1 < t242.length) = true := decide_eq_true (by omega)
              clear c27
              (first | rw [c27b0] | (simp only [i64_w, i32_w]; rw [c27b0]) | skip)
              replace H := Option.bind_eq_some_iff.mp H
              obtain ⟨⟨t252, t253⟩, A280, H⟩ := H
              replace H : (impl_ReadOp.j1 kj6 a0 t242 ji6 0 0 t252) = some (r1, r2, r3, r4, r5) := H
              have A28 := Aside0.mk A280
              clear A280
              have H' := Aside0.mk H
              clear H
              have p251 : 0 ≤ (1 : Int) := (by omega)
              have q251 : 1 < (t242.length : Int) := of_decide_eq_true (by first | (with_reducible assumption) | assumption)
              obtain ⟨ad251, e251, hx251_0⟩ := Kd.at_string (Kd.R_reads' HO_4.out).2.2 1 p251 q251
              obtain rfl : ad248 = ad251 := (by injection e251)
              (try simp only [show (1 : Int).toNat = 1 from rfl, Nat.reduceMul, Nat.reduceEqDiff, Go.Addr.add, ↓reduceIte] at hx251_0)
              have qi251 : (1 < t242.length) = True := eq_true (by omega)
              (try rw [show ((1 : Int)).toNat = 1 from rfl] at hx251_0)
              replace p251 := eq_true p251
              replace q251 := eq_true q251
              go_wp2_with (first | ((with_reducible refine gate_callee (f := 20) rfl ?_); refine goesL_ (some 31) rfl rfl Tryd.func20 (by kernel_rfl) rfl #[.string (rdOf ByteArray.empty t242 1)] rfl (by (try simp only [List.map_toArray, List.map_cons, List.map_nil]); first | done | rfl | (simp only [List.length_drop, List.length_take]; rfl)) ?_; (with_reducible refine (impl_ReadNum.calls (hT := ?sideT) kj6 (rdOf ByteArray.empty t242 1) t252 t253 _ A28.out).mono ?_); (case sideT => exact Go.Proofs.YtpfbiopcfbokbaaDoor.MRead.tabs2_below HTab.out (by repeat (first | (with_reducible first|exact HB.out|apply vA_|apply vN_|apply vD_ | refine vS_ ?_ GE241.out | refine vS_ ?_ GE250.out) | exact HB.out))); rintro e w29 ⟨rfl, hb⟩; refine ⟨_, rfl, ?_⟩; have n0_ := Aside0.mk (Kd.R_below (by (with_reducible repeat first|apply rA_|apply rN_|apply rD_); exact HO_4.out) hb); have n1_ := Aside0.mk (blk_below (by (with_reducible repeat first|apply qN_|apply qD_|apply qA_); exact BK241.out) hb); have n2_ := Aside0.mk (blk_below (by (with_reducible repeat first|apply qN_|apply qD_|apply qA_); exact BK250.out) hb); have n3_ := Aside0.mk (below_step (by repeat (first | (with_reducible first|exact HB.out|apply vA_|apply vN_|apply vD_ | refine vS_ ?_ GE241.out | refine vS_ ?_ GE250.out) | exact HB.out)) hb); clear HO_4; clear BK241; clear BK250; clear HB; have HO_4 := n0_; have BK241 := n1_; have BK250 := n2_; have HB := n3_; clear n0_ n1_ n2_ n3_; (try clear hb); (try clear hb2); (try clear hk); (try clear hi); have hnb30 := NB250_241.out; have hnc30 := NB241_250.out; have hcz31_0 : w29.cell? ⟨gb250, 0, none⟩ = some (.int .i64 ji6) := (blk_cell BK250.out 0).trans rfl; have hcz31_1 : w29.cell? ⟨gb250, 1, none⟩ = some (.int .i64 0) := (blk_cell BK250.out 1).trans rfl; have hcz31_2 : w29.cell? ⟨gb250, 2, none⟩ = some (.int .i64 0) := (blk_cell BK250.out 2).trans rfl; have hcz31_3 : w29.cell? ⟨gb250, 3, none⟩ = some (.float .f64 0) := (blk_cell BK250.out 3).trans rfl; have hfz31_0 := blk_frozen BK250.out 0; have hfz31_1 := blk_frozen BK250.out 1; have hfz31_2 := blk_frozen BK250.out 2; have hfz31_3 := blk_frozen BK250.out 3))
              go_meet
              case rel => exact ⟨_, (t252), H', ⟨by have := HJ6.out; first | omega | exact Nat.le_refl _⟩, ⟨by (with_reducible repeat first|apply rA_|apply rN_|apply rD_); exact Kd.R_mono (Kd.R_far (p := ⟨gb250, 3, none⟩) (Kd.R_types HO_4.out BK250.out (by decide)) (fun _ hk => hk.2) (.float .f64 t252)) (fun _ hk => trivial)⟩, ⟨by (with_reducible repeat first|apply qN_|apply qD_|apply qA_); refine blk_far ?_ NB241_250.out _; (with_reducible repeat first|apply qN_|apply qD_|apply qA_); exact BK241.out⟩, ⟨by (with_reducible repeat first|apply qN_|apply qD_|apply qA_); refine blk_put (cs := #[.int .i64 ji6, .int .i64 0, .int .i64 0, .float .f64 0]) ?_ 3 _ rfl; (with_reducible repeat first|apply qN_|apply qD_|apply qA_); exact BK250.out⟩, ⟨by repeat (first | (with_reducible first|exact HB.out|apply vA_|apply vN_|apply vD_ | refine vS_ ?_ GE241.out | refine vS_ ?_ GE250.out) | exact HB.out)⟩⟩
            · rw [if_neg c27] at H
              exact absurd H (by simp)
          · replace c26 := Bool.eq_false_iff.mpr c26
            subst c26
            have H1 : (impl_ReadOp.j1 kj6 a0 t242 ji6 0 0 0) = some (r1, r2, r3, r4, r5) := by rw [if_neg (show ¬ (false = true) by decide)] at H; exact H
            clear H
            have H := H1
            clear H1
            have H' := Aside0.mk H
            clear H
            go_wp2
            go_meet
            case rel => exact ⟨_, (0), H', ⟨by have := HJ6.out; first | omega | exact Nat.le_refl _⟩, ⟨by (with_reducible repeat first|apply rA_|apply rN_|apply rD_); exact HO_4.out⟩, ⟨by (with_reducible repeat first|apply qN_|apply qD_|apply qA_); exact BK241.out⟩, ⟨by (with_reducible repeat first|apply qN_|apply qD_|apply qA_); exact BK250.out⟩, ⟨by repeat (first | (with_reducible first|exact HB.out|apply vA_|apply vN_|apply vD_ | refine vS_ ?_ GE241.out | refine vS_ ?_ GE250.out) | exact HB.out)⟩⟩
        case rest =>
          clear HC25
          try clear c1
          try clear c2
          try clear p2
          try clear q2
          try clear hx2
          try clear qi2
          try clear c3
          try clear c4
          try clear c4b0
          try clear c4b1
          try clear p6
          try clear c17
          try clear c20
          try clear c20b0
          try clear c20b1
          try clear c21
          try clear c23
          try clear p24
          try clear q24
          try clear hx24
          try clear qi24
          try clear p25
          try clear q25
          try clear hx25
          try clear qi25
          try clear c26
          try clear c27
          try clear c27b0
          try clear c27b1
          try clear c30
          try clear hcz22_0
          try clear hcz22_1
          try clear hcz22_2
          try clear hcz22_3
          try clear hcz24_0
          try clear hcz24_1
          try clear hcz24_2
          try clear hcz24_3
          try clear hcz31_0
          try clear hcz31_1
          try clear hcz31_2
          try clear hcz31_3
          try clear hfz22_0
          try clear hfz22_1
          try clear hfz22_2
          try clear hfz22_3
          try clear hfz24_0
          try clear hfz24_1
          try clear hfz24_2
          try clear hfz24_3
          try clear hfz31_0
          try clear hfz31_1
          try clear hfz31_2
          try clear hfz31_3
          try clear hx248_0
          try clear hx251_0
          try clear p2
          try clear p24
          try clear p248
          try clear p251
          try clear p6
          try clear q2
          try clear q24
          try clear q248
          try clear q251
          obtain ⟨kq, x251003_24, HA, HJ24, HO_4, BK241, BK250, HB⟩ := hcut
          cases kq with
          | zero => exact absurd HA.out (by simp [impl_ReadOp.j1])
          | succ kj24 =>
            have H := HA.out
            clear HA
            simp only [impl_ReadOp.j1] at H
            have HC32 := Aside0.mk H
            clear H
            go_upto_region 5 with (fail)
            go_cut [42] (fun v42 wc => ∃ (kq : Nat) (x42_31 : Bool), v42 = .bool x42_31 ∧ Aside0 (impl_ReadOp.j2 kq a0 t242 x42_31 ji6 0 0 x251003_24 = some (r1, r2, r3, r4, r5)) ∧ Aside0 (kq ≤ kj24) ∧ Aside0 (Kd.R Kd.string 9 wc w.heap.size (fun _ => True) (.slice (some ad248) t242.length co11) t242) ∧ Aside0 (wc.heap[gb241]? = some (.cells #[.int .i64 0, .int .i64 0, .int .i64 0, .float .f64 0] 38 (0, 0))) ∧ Aside0 (wc.heap[gb250]? = some (.cells #[.int .i64 ji6, .int .i64 0, .int .i64 0, .float .f64 x251003_24] 38 (0, 0))) ∧ Aside0 (Below w.heap.size w wc))
            case first =>
              have H := HC32.out
              clear HC32
              by_cases c33 : (t242.length : Int) > 1
              · rw [if_pos c33] at H
                have c33b0 : decide (1 < (t242.length : Int)) = true := decide_eq_true c33
                have c33b1 : decide (1 < t242.length) = true := decide_eq_true (by omega)
                clear c33
                (first | rw [c33b0] | (simp only [i64_w, i32_w]; rw [c33b0]) | skip)
                replace H := Option.bind_eq_some_iff.mp H
                obtain ⟨t254, A340, H⟩ := H
                replace H : (impl_ReadOp.j2 kj24 a0 t242 (decide (t254 > 0)) ji6 0 0 x251003_24) = some (r1, r2, r3, r4, r5) := H
                have A34 := Aside0.mk A340
                clear A340
                have H' := Aside0.mk H
                clear H
                have hnb35 := NB250_241.out
                have hnc35 := NB241_250.out
                have hcz36_0 : wc.cell? ⟨gb250, 0, none⟩ = some (.int .i64 ji6) := (blk_cell BK250.out 0).trans rfl
                have hcz36_1 : wc.cell? ⟨gb250, 1, none⟩ = some (.int .i64 0) := (blk_cell BK250.out 1).trans rfl
                have hcz36_2 : wc.cell? ⟨gb250, 2, none⟩ = some (.int .i64 0) := (blk_cell BK250.out 2).trans rfl
                have hcz36_3 : wc.cell? ⟨gb250, 3, none⟩ = some (.float .f64 x251003_24) := (blk_cell BK250.out 3).trans rfl
                have hfz36_0 := blk_frozen BK250.out 0
                have hfz36_1 := blk_frozen BK250.out 1
                have hfz36_2 := blk_frozen BK250.out 2
                have hfz36_3 := blk_frozen BK250.out 3
                go_wp2_with (first | (go_at_call 43; (with_reducible refine (impl_Op_names.calls kj24 ji6 0 0 x251003_24 t254 _ A34.out).mono ?_); rintro e w37 ⟨rfl, hb⟩; have n0_ := Aside0.mk (Kd.R_below (by (with_reducible repeat first|apply rA_|apply rN_|apply rD_); exact HO_4.out) hb); have n1_ := Aside0.mk (blk_below (by (with_reducible repeat first|apply qN_|apply qD_|apply qA_); exact BK241.out) hb); have n2_ := Aside0.mk (blk_below (by (with_reducible repeat first|apply qN_|apply qD_|apply qA_); exact BK250.out) hb); have n3_ := Aside0.mk (below_step (by repeat (first | (with_reducible first|exact HB.out|apply vA_|apply vN_|apply vD_ | refine vS_ ?_ GE241.out | refine vS_ ?_ GE250.out) | exact HB.out)) hb); clear HO_4; clear BK241; clear BK250; clear HB; have HO_4 := n0_; have BK241 := n1_; have BK250 := n2_; have HB := n3_; clear n0_ n1_ n2_ n3_; (try clear hb); (try clear hb2); (try clear hk); (try clear hi)))
                go_meet
                case rel => exact ⟨_, (decide (t254 > 0)), (by first | rfl | (simp; done) | (simp [*]; done)), H', ⟨by have := HJ6.out; have := HJ24.out; first | omega | exact Nat.le_refl _⟩, ⟨by (with_reducible repeat first|apply rA_|apply rN_|apply rD_); exact HO_4.out⟩, ⟨by (with_reducible repeat first|apply qN_|apply qD_|apply qA_); exact BK241.out⟩, ⟨by (with_reducible repeat first|apply qN_|apply qD_|apply qA_); exact BK250.out⟩, ⟨by repeat (first | (with_reducible first|exact HB.out|apply vA_|apply vN_|apply vD_ | refine vS_ ?_ GE241.out | refine vS_ ?_ GE250.out) | exact HB.out)⟩⟩
              · rw [if_neg c33] at H
                have c33b0 : decide (1 < (t242.length : Int)) = false := decide_eq_false c33
                have c33b1 : decide (1 < t242.length) = false := decide_eq_false (by omega)
                clear c33
                (first | rw [c33b0] | (simp only [i64_w, i32_w]; rw [c33b0]) | skip)
                have H' := Aside0.mk H
                clear H
                go_wp2
                go_meet
                case rel => exact ⟨_, (false), (by first | rfl | (simp; done) | (simp [*]; done)), H', ⟨by have := HJ6.out; have := HJ24.out; first | omega | exact Nat.le_refl _⟩, ⟨by (with_reducible repeat first|apply rA_|apply rN_|apply rD_); exact HO_4.out⟩, ⟨by (with_reducible repeat first|apply qN_|apply qD_|apply qA_); exact BK241.out⟩, ⟨by (with_reducible repeat first|apply qN_|apply qD_|apply qA_); exact BK250.out⟩, ⟨by repeat (first | (with_reducible first|exact HB.out|apply vA_|apply vN_|apply vD_ | refine vS_ ?_ GE241.out | refine vS_ ?_ GE250.out) | exact HB.out)⟩⟩
            case rest =>
              clear HC32
              try clear c1
              try clear c2
              try clear p2
              try clear q2
              try clear hx2
              try clear qi2
              try clear c3
              try clear c4
              try clear c4b0
              try clear c4b1
              try clear p6
              try clear c17
              try clear c20
              try clear c20b0
              try clear c20b1
              try clear c21
              try clear c23
              try clear p24
              try clear q24
              try clear hx24
              try clear qi24
              try clear p25
              try clear q25
              try clear hx25
              try clear qi25
              try clear c26
              try clear c27
              try clear c27b0
              try clear c27b1
              try clear c30
              try clear c33
              try clear c33b0
              try clear c33b1
              try clear c35
              try clear hcz22_0
              try clear hcz22_1
              try clear hcz22_2
              try clear hcz22_3
              try clear hcz24_0
              try clear hcz24_1
              try clear hcz24_2
              try clear hcz24_3
              try clear hcz31_0
              try clear hcz31_1
              try clear hcz31_2
              try clear hcz31_3
              try clear hcz36_0
              try clear hcz36_1
              try clear hcz36_2
              try clear hcz36_3
              try clear hfz22_0
              try clear hfz22_1
              try clear hfz22_2
              try clear hfz22_3
              try clear hfz24_0
              try clear hfz24_1
              try clear hfz24_2
              try clear hfz24_3
              try clear hfz31_0
              try clear hfz31_1
              try clear hfz31_2
              try clear hfz31_3
              try clear hfz36_0
              try clear hfz36_1
              try clear hfz36_2
              try clear hfz36_3
              try clear hx248_0
              try clear hx251_0
              try clear p2
              try clear p24
              try clear p248
              try clear p25
              try clear p251
              try clear p6
              try clear q2
              try clear q24
              try clear q248
              try clear q25
              try clear q251
              obtain ⟨kq, x42_31, rfl, HA, HJ31, HO_4, BK241, BK250, HB⟩ := hcut
              cases kq with
              | zero => exact absurd HA.out (by simp [impl_ReadOp.j2])
              | succ kj31 =>
                have H := HA.out
                clear HA
                simp only [impl_ReadOp.j2] at H
                have HC38 := Aside0.mk H
                clear H
                go_upto_if 42 with (fail)
                go_cut [] (fun wc => ∃ (kq : Nat) (x251001_37 : Int), Aside0 (impl_ReadOp.j3 kq a0 t242 ji6 x251001_37 0 x251003_24 = some (r1, r2, r3, r4, r5)) ∧ Aside0 (kq ≤ kj31) ∧ Aside0 (Kd.R Kd.string 9 wc w.heap.size (fun _ => True) (.slice (some ad248) t242.length co11) t242) ∧ Aside0 (wc.heap[gb241]? = some (.cells #[.int .i64 0, .int .i64 0, .int .i64 0, .float .f64 0] 38 (0, 0))) ∧ Aside0 (wc.heap[gb250]? = some (.cells #[.int .i64 ji6, .int .i64 x251001_37, .int .i64 0, .float .f64 x251003_24] 38 (0, 0))) ∧ Aside0 (Below w.heap.size w wc))
                case first =>
                  have H := HC38.out
                  clear HC38
                  by_cases c39 : x42_31 = true
                  · subst c39
                    have H1 : (if 1 < (t242.length : Int) then ((impl_readNumber.f (rdOf ByteArray.empty t242 1) 999).bind fun bt256 => (impl_ReadOp.j3 kj31 a0 t242 ji6 bt256.1 0 x251003_24)) else (none)) = some (r1, r2, r3, r4, r5) := by rw [if_pos rfl] at H; exact H
                    clear H
                    have H := H1
                    clear H1
                    by_cases c40 : 1 < (t242.length : Int)
                    · rw [if_pos c40] at H
                      have c40b0 : decide (1 < (t242.length : Int)) = true := decide_eq_true c40
                      have c40b1 : decide (1 < t242.length) = true := decide_eq_true (by omega)
                      clear c40
                      (first | rw [c40b0] | (simp only [i64_w, i32_w]; rw [c40b0]) | skip)
                      replace H := Option.bind_eq_some_iff.mp H
                      obtain ⟨⟨t256, t257⟩, A410, H⟩ := H
                      replace H : (impl_ReadOp.j3 kj31 a0 t242 ji6 t256 0 x251003_24) = some (r1, r2, r3, r4, r5) := H
                      have A41 := Aside0.mk A410
                      clear A410
                      have H' := Aside0.mk H
                      clear H
                      have p255 : 0 ≤ (1 : Int) := (by omega)
                      have q255 : 1 < (t242.length : Int) := of_decide_eq_true (by first | (with_reducible assumption) | assumption)
                      obtain ⟨ad255, e255, hx255_0⟩ := Kd.at_string (Kd.R_reads' HO_4.out).2.2 1 p255 q255
                      obtain rfl : ad248 = ad255 := (by injection e255)
                      (try simp only [show (1 : Int).toNat = 1 from rfl, Nat.reduceMul, Nat.reduceEqDiff, Go.Addr.add, ↓reduceIte] at hx255_0)
                      have qi255 : (1 < t242.length) = True := eq_true (by omega)
                      (try rw [show ((1 : Int)).toNat = 1 from rfl] at hx255_0)
                      replace p255 := eq_true p255
                      replace q255 := eq_true q255
                      go_wp2_with (first | ((with_reducible refine gate_callee (f := 44) rfl ?_); refine goesL_ (some 47) rfl rfl Tryd.func44 (by kernel_rfl) rfl #[.string (rdOf ByteArray.empty t242 1), .int .i64 999] rfl (by (try simp only [List.map_toArray, List.map_cons, List.map_nil]); first | done | rfl | (simp only [List.length_drop, List.length_take]; rfl)) ?_; (with_reducible refine (impl_readNumber.calls (hT := ?sideT) (rdOf ByteArray.empty t242 1) 999 t256 t257 _ A41.out).mono ?_); (case sideT => exact Go.Proofs.YtpfbiopcfbokbaaDoor.MRead.tabs2_below HTab.out (by repeat (first | (with_reducible first|exact HB.out|apply vA_|apply vN_|apply vD_ | refine vS_ ?_ GE241.out | refine vS_ ?_ GE250.out) | exact HB.out))); rintro e w42 ⟨rfl, hb⟩; refine ⟨_, rfl, ?_⟩; have n0_ := Aside0.mk (Kd.R_below (by (with_reducible repeat first|apply rA_|apply rN_|apply rD_); exact HO_4.out) hb); have n1_ := Aside0.mk (blk_below (by (with_reducible repeat first|apply qN_|apply qD_|apply qA_); exact BK241.out) hb); have n2_ := Aside0.mk (blk_below (by (with_reducible repeat first|apply qN_|apply qD_|apply qA_); exact BK250.out) hb); have n3_ := Aside0.mk (below_step (by repeat (first | (with_reducible first|exact HB.out|apply vA_|apply vN_|apply vD_ | refine vS_ ?_ GE241.out | refine vS_ ?_ GE250.out) | exact HB.out)) hb); clear HO_4; clear BK241; clear BK250; clear HB; have HO_4 := n0_; have BK241 := n1_; have BK250 := n2_; have HB := n3_; clear n0_ n1_ n2_ n3_; (try clear hb); (try clear hb2); (try clear hk); (try clear hi); have hnb43 := NB250_241.out; have hnc43 := NB241_250.out; have hcz44_0 : w42.cell? ⟨gb250, 0, none⟩ = some (.int .i64 ji6) := (blk_cell BK250.out 0).trans rfl; have hcz44_1 : w42.cell? ⟨gb250, 1, none⟩ = some (.int .i64 0) := (blk_cell BK250.out 1).trans rfl; have hcz44_2 : w42.cell? ⟨gb250, 2, none⟩ = some (.int .i64 0) := (blk_cell BK250.out 2).trans rfl; have hcz44_3 : w42.cell? ⟨gb250, 3, none⟩ = some (.float .f64 x251003_24) := (blk_cell BK250.out 3).trans rfl; have hfz44_0 := blk_frozen BK250.out 0; have hfz44_1 := blk_frozen BK250.out 1; have hfz44_2 := blk_frozen BK250.out 2; have hfz44_3 := blk_frozen BK250.out 3))
                      go_meet
                      case rel => exact ⟨_, (t256), H', ⟨by have := HJ6.out; have := HJ24.out; have := HJ31.out; first | omega | exact Nat.le_refl _⟩, ⟨by (with_reducible repeat first|apply rA_|apply rN_|apply rD_); exact Kd.R_mono (Kd.R_far (p := ⟨gb250, 1, none⟩) (Kd.R_types HO_4.out BK250.out (by decide)) (fun _ hk => hk.2) (.int .i64 t256)) (fun _ hk => trivial)⟩, ⟨by (with_reducible repeat first|apply qN_|apply qD_|apply qA_); refine blk_far ?_ NB241_250.out _; (with_reducible repeat first|apply qN_|apply qD_|apply qA_); exact BK241.out⟩, ⟨by (with_reducible repeat first|apply qN_|apply qD_|apply qA_); refine blk_put (cs := #[.int .i64 ji6, .int .i64 0, .int .i64 0, .float .f64 x251003_24]) ?_ 1 _ rfl; (with_reducible repeat first|apply qN_|apply qD_|apply qA_); exact BK250.out⟩, ⟨by repeat (first | (with_reducible first|exact HB.out|apply vA_|apply vN_|apply vD_ | refine vS_ ?_ GE241.out | refine vS_ ?_ GE250.out) | exact HB.out)⟩⟩
                    · rw [if_neg c40] at H
                      exact absurd H (by simp)
                  · replace c39 := Bool.eq_false_iff.mpr c39
                    subst c39
                    have H1 : (impl_ReadOp.j3 kj31 a0 t242 ji6 0 0 x251003_24) = some (r1, r2, r3, r4, r5) := by rw [if_neg (show ¬ (false = true) by decide)] at H; exact H
                    clear H
                    have H := H1
                    clear H1
                    have H' := Aside0.mk H
                    clear H
                    go_wp2
                    go_meet
                    case rel => exact ⟨_, (0), H', ⟨by have := HJ6.out; have := HJ24.out; have := HJ31.out; first | omega | exact Nat.le_refl _⟩, ⟨by (with_reducible repeat first|apply rA_|apply rN_|apply rD_); exact HO_4.out⟩, ⟨by (with_reducible repeat first|apply qN_|apply qD_|apply qA_); exact BK241.out⟩, ⟨by (with_reducible repeat first|apply qN_|apply qD_|apply qA_); exact BK250.out⟩, ⟨by repeat (first | (with_reducible first|exact HB.out|apply vA_|apply vN_|apply vD_ | refine vS_ ?_ GE241.out | refine vS_ ?_ GE250.out) | exact HB.out)⟩⟩
                case rest =>
                  clear HC38
                  try clear c1
                  try clear c2
                  try clear p2
                  try clear q2
                  try clear hx2
                  try clear qi2
                  try clear c3
                  try clear c4
                  try clear c4b0
                  try clear c4b1
                  try clear p6
                  try clear c17
                  try clear c20
                  try clear c20b0
                  try clear c20b1
                  try clear c21
                  try clear c23
                  try clear p24
                  try clear q24
                  try clear hx24
                  try clear qi24
                  try clear p25
                  try clear q25
                  try clear hx25
                  try clear qi25
                  try clear c26
                  try clear c27
                  try clear c27b0
                  try clear c27b1
                  try clear c30
                  try clear c33
                  try clear c33b0
                  try clear c33b1
                  try clear c35
                  try clear c39
                  try clear c40
                  try clear c40b0
                  try clear c40b1
                  try clear c41
                  try clear c42
                  try clear c43
                  try clear c44
                  try clear hcz22_0
                  try clear hcz22_1
                  try clear hcz22_2
                  try clear hcz22_3
                  try clear hcz24_0
                  try clear hcz24_1
                  try clear hcz24_2
                  try clear hcz24_3
                  try clear hcz31_0
                  try clear hcz31_1
                  try clear hcz31_2
                  try clear hcz31_3
                  try clear hcz36_0
                  try clear hcz36_1
                  try clear hcz36_2
                  try clear hcz36_3
                  try clear hcz44_0
                  try clear hcz44_1
                  try clear hcz44_2
                  try clear hcz44_3
                  try clear hfz22_0
                  try clear hfz22_1
                  try clear hfz22_2
                  try clear hfz22_3
                  try clear hfz24_0
                  try clear hfz24_1
                  try clear hfz24_2
                  try clear hfz24_3
                  try clear hfz31_0
                  try clear hfz31_1
                  try clear hfz31_2
                  try clear hfz31_3
                  try clear hfz36_0
                  try clear hfz36_1
                  try clear hfz36_2
                  try clear hfz36_3
                  try clear hfz44_0
                  try clear hfz44_1
                  try clear hfz44_2
                  try clear hfz44_3
                  try clear hx248_0
                  try clear hx251_0
                  try clear hx255_0
                  try clear p2
                  try clear p24
                  try clear p248
                  try clear p25
                  try clear p251
                  try clear p255
                  try clear p6
                  try clear q2
                  try clear q24
                  try clear q248
                  try clear q25
                  try clear q251
                  try clear q255
                  obtain ⟨kq, x251001_37, HA, HJ37, HO_4, BK241, BK250, HB⟩ := hcut
                  cases kq with
                  | zero => exact absurd HA.out (by simp [impl_ReadOp.j3])
                  | succ kj37 =>
                    have H := HA.out
                    clear HA
                    simp only [impl_ReadOp.j3] at H
                    have HC45 := Aside0.mk H
                    clear H
                    go_upto_region 7 with (fail)
                    go_cut [58] (fun v58 wc => ∃ (kq : Nat) (x58_44 : Bool), v58 = .bool x58_44 ∧ Aside0 (impl_ReadOp.j4 kq a0 t242 x58_44 ji6 x251001_37 0 x251003_24 = some (r1, r2, r3, r4, r5)) ∧ Aside0 (kq ≤ kj37) ∧ Aside0 (Kd.R Kd.string 9 wc w.heap.size (fun _ => True) (.slice (some ad248) t242.length co11) t242) ∧ Aside0 (wc.heap[gb241]? = some (.cells #[.int .i64 0, .int .i64 0, .int .i64 0, .float .f64 0] 38 (0, 0))) ∧ Aside0 (wc.heap[gb250]? = some (.cells #[.int .i64 ji6, .int .i64 x251001_37, .int .i64 0, .float .f64 x251003_24] 38 (0, 0))) ∧ Aside0 (Below w.heap.size w wc))
                    case first =>
                      have H := HC45.out
                      clear HC45
                      by_cases c46 : (t242.length : Int) > 2
                      · rw [if_pos c46] at H
                        have c46b0 : decide (2 < (t242.length : Int)) = true := decide_eq_true c46
                        have c46b1 : decide (2 < t242.length) = true := decide_eq_true (by omega)
                        clear c46
                        (first | rw [c46b0] | (simp only [i64_w, i32_w]; rw [c46b0]) | skip)
                        replace H := Option.bind_eq_some_iff.mp H
                        obtain ⟨t258, A470, H⟩ := H
                        replace H : (impl_ReadOp.j4 kj37 a0 t242 (decide (t258 > 1)) ji6 x251001_37 0 x251003_24) = some (r1, r2, r3, r4, r5) := H
                        have A47 := Aside0.mk A470
                        clear A470
                        have H' := Aside0.mk H
                        clear H
                        have hnb48 := NB250_241.out
                        have hnc48 := NB241_250.out
                        have hcz49_0 : wc.cell? ⟨gb250, 0, none⟩ = some (.int .i64 ji6) := (blk_cell BK250.out 0).trans rfl
                        have hcz49_1 : wc.cell? ⟨gb250, 1, none⟩ = some (.int .i64 x251001_37) := (blk_cell BK250.out 1).trans rfl
                        have hcz49_2 : wc.cell? ⟨gb250, 2, none⟩ = some (.int .i64 0) := (blk_cell BK250.out 2).trans rfl
                        have hcz49_3 : wc.cell? ⟨gb250, 3, none⟩ = some (.float .f64 x251003_24) := (blk_cell BK250.out 3).trans rfl
                        have hfz49_0 := blk_frozen BK250.out 0
                        have hfz49_1 := blk_frozen BK250.out 1
                        have hfz49_2 := blk_frozen BK250.out 2
                        have hfz49_3 := blk_frozen BK250.out 3
                        go_wp2_with (first | (go_at_call 43; (with_reducible refine (impl_Op_names.calls kj37 ji6 x251001_37 0 x251003_24 t258 _ A47.out).mono ?_); rintro e w50 ⟨rfl, hb⟩; have n0_ := Aside0.mk (Kd.R_below (by (with_reducible repeat first|apply rA_|apply rN_|apply rD_); exact HO_4.out) hb); have n1_ := Aside0.mk (blk_below (by (with_reducible repeat first|apply qN_|apply qD_|apply qA_); exact BK241.out) hb); have n2_ := Aside0.mk (blk_below (by (with_reducible repeat first|apply qN_|apply qD_|apply qA_); exact BK250.out) hb); have n3_ := Aside0.mk (below_step (by repeat (first | (with_reducible first|exact HB.out|apply vA_|apply vN_|apply vD_ | refine vS_ ?_ GE241.out | refine vS_ ?_ GE250.out) | exact HB.out)) hb); clear HO_4; clear BK241; clear BK250; clear HB; have HO_4 := n0_; have BK241 := n1_; have BK250 := n2_; have HB := n3_; clear n0_ n1_ n2_ n3_; (try clear hb); (try clear hb2); (try clear hk); (try clear hi)))
                        go_meet
                        case rel => exact ⟨_, (decide (t258 > 1)), (by first | rfl | (simp; done) | (simp [*]; done)), H', ⟨by have := HJ6.out; have := HJ24.out; have := HJ31.out; have := HJ37.out; first | omega | exact Nat.le_refl _⟩, ⟨by (with_reducible repeat first|apply rA_|apply rN_|apply rD_); exact HO_4.out⟩, ⟨by (with_reducible repeat first|apply qN_|apply qD_|apply qA_); exact BK241.out⟩, ⟨by (with_reducible repeat first|apply qN_|apply qD_|apply qA_); exact BK250.out⟩, ⟨by repeat (first | (with_reducible first|exact HB.out|apply vA_|apply vN_|apply vD_ | refine vS_ ?_ GE241.out | refine vS_ ?_ GE250.out) | exact HB.out)⟩⟩
                      · rw [if_neg c46] at H
                        have c46b0 : decide (2 < (t242.length : Int)) = false := decide_eq_false c46
                        have c46b1 : decide (2 < t242.length) = false := decide_eq_false (by omega)
                        clear c46
                        (first | rw [c46b0] | (simp only [i64_w, i32_w]; rw [c46b0]) | skip)
                        have H' := Aside0.mk H
                        clear H
                        go_wp2
                        go_meet
                        case rel => exact ⟨_, (false), (by first | rfl | (simp; done) | (simp [*]; done)), H', ⟨by have := HJ6.out; have := HJ24.out; have := HJ31.out; have := HJ37.out; first | omega | exact Nat.le_refl _⟩, ⟨by (with_reducible repeat first|apply rA_|apply rN_|apply rD_); exact HO_4.out⟩, ⟨by (with_reducible repeat first|apply qN_|apply qD_|apply qA_); exact BK241.out⟩, ⟨by (with_reducible repeat first|apply qN_|apply qD_|apply qA_); exact BK250.out⟩, ⟨by repeat (first | (with_reducible first|exact HB.out|apply vA_|apply vN_|apply vD_ | refine vS_ ?_ GE241.out | refine vS_ ?_ GE250.out) | exact HB.out)⟩⟩
                    case rest =>
                      clear HC45
                      try clear c1
                      try clear c2
                      try clear p2
                      try clear q2
                      try clear hx2
                      try clear qi2
                      try clear c3
                      try clear c4
                      try clear c4b0
                      try clear c4b1
                      try clear p6
                      try clear c17
                      try clear c20
                      try clear c20b0
                      try clear c20b1
                      try clear c21
                      try clear c23
                      try clear p24
                      try clear q24
                      try clear hx24
                      try clear qi24
                      try clear p25
                      try clear q25
                      try clear hx25
                      try clear qi25
                      try clear c26
                      try clear c27
                      try clear c27b0
                      try clear c27b1
                      try clear c30
                      try clear c33
                      try clear c33b0
                      try clear c33b1
                      try clear c35
                      try clear c39
                      try clear c40
                      try clear c40b0
                      try clear c40b1
                      try clear c41
                      try clear c42
                      try clear c43
                      try clear c44
                      try clear c46
                      try clear c46b0
                      try clear c46b1
                      try clear c48
                      try clear hcz22_0
                      try clear hcz22_1
                      try clear hcz22_2
                      try clear hcz22_3
                      try clear hcz24_0
                      try clear hcz24_1
                      try clear hcz24_2
                      try clear hcz24_3
                      try clear hcz31_0
                      try clear hcz31_1
                      try clear hcz31_2
                      try clear hcz31_3
                      try clear hcz36_0
                      try clear hcz36_1
                      try clear hcz36_2
                      try clear hcz36_3
                      try clear hcz44_0
                      try clear hcz44_1
                      try clear hcz44_2
                      try clear hcz44_3
                      try clear hcz49_0
                      try clear hcz49_1
                      try clear hcz49_2
                      try clear hcz49_3
                      try clear hfz22_0
                      try clear hfz22_1
                      try clear hfz22_2
                      try clear hfz22_3
                      try clear hfz24_0
                      try clear hfz24_1
                      try clear hfz24_2
                      try clear hfz24_3
                      try clear hfz31_0
                      try clear hfz31_1
                      try clear hfz31_2
                      try clear hfz31_3
                      try clear hfz36_0
                      try clear hfz36_1
                      try clear hfz36_2
                      try clear hfz36_3
                      try clear hfz44_0
                      try clear hfz44_1
                      try clear hfz44_2
                      try clear hfz44_3
                      try clear hfz49_0
                      try clear hfz49_1
                      try clear hfz49_2
                      try clear hfz49_3
                      try clear hx248_0
                      try clear hx251_0
                      try clear hx255_0
                      try clear p2
                      try clear p24
                      try clear p248
                      try clear p25
                      try clear p251
                      try clear p255
                      try clear p6
                      try clear q2
                      try clear q24
                      try clear q248
                      try clear q25
                      try clear q251
                      try clear q255
                      obtain ⟨kq, x58_44, rfl, HA, HJ44, HO_4, BK241, BK250, HB⟩ := hcut
                      cases kq with
                      | zero => exact absurd HA.out (by simp [impl_ReadOp.j4])
                      | succ kj44 =>
                        have H := HA.out
                        clear HA
                        simp only [impl_ReadOp.j4] at H
                        by_cases c51 : x58_44 = true
                        · subst c51
                          have H1 : (if 2 < (t242.length : Int) then ((impl_readNumber.f (rdOf ByteArray.empty t242 2) 999).bind fun bt260 => ((impl_OpText.f kj44 ji6 x251001_37 bt260.1 x251003_24).bind fun bt262 => (if bt262.2 = true then (if bt262.1.toList = a0.toList then (some (ji6, x251001_37, bt260.1, x251003_24, true)) else (some (0, 0, 0, 0, false))) else (some (0, 0, 0, 0, false))))) else (none)) = some (r1, r2, r3, r4, r5) := by rw [if_pos rfl] at H; exact H
                          clear H
                          have H := H1
                          clear H1
                          by_cases c52 : 2 < (t242.length : Int)
                          · rw [if_pos c52] at H
                            have c52b0 : decide (2 < (t242.length : Int)) = true := decide_eq_true c52
                            have c52b1 : decide (2 < t242.length) = true := decide_eq_true (by omega)
                            clear c52
                            replace H := Option.bind_eq_some_iff.mp H
                            obtain ⟨⟨t260, t261⟩, A530, H⟩ := H
                            replace H : ((impl_OpText.f kj44 ji6 x251001_37 t260 x251003_24).bind fun bt262 => (if bt262.2 = true then (if bt262.1.toList = a0.toList then (some (ji6, x251001_37, t260, x251003_24, true)) else (some (0, 0, 0, 0, false))) else (some (0, 0, 0, 0, false)))) = some (r1, r2, r3, r4, r5) := H
                            have A53 := Aside0.mk A530
                            clear A530
                            replace H := Option.bind_eq_some_iff.mp H
                            obtain ⟨⟨t262, t263⟩, A540, H⟩ := H
                            replace H : (if t263 = true then (if t262.toList = a0.toList then (some (ji6, x251001_37, t260, x251003_24, true)) else (some (0, 0, 0, 0, false))) else (some (0, 0, 0, 0, false))) = some (r1, r2, r3, r4, r5) := H
                            have A54 := Aside0.mk A540
                            clear A540
                            by_cases c55 : t263 = true
                            · subst c55
                              have H1 : (if t262.toList = a0.toList then (some (ji6, x251001_37, t260, x251003_24, true)) else (some (0, 0, 0, 0, false))) = some (r1, r2, r3, r4, r5) := by rw [if_pos rfl] at H; exact H
                              clear H
                              have H := H1
                              clear H1
                              by_cases c56 : t262.toList = a0.toList
                              · rw [if_pos c56] at H
                                have c56b0 : (t262.toList == a0.toList) = true := beq_iff_eq.mpr c56
                                have c56b1 : (t262.toList != a0.toList) = false := bne_eq_false_iff_eq.mpr c56
                                clear c56
                                simp only [Option.some.injEq, Prod.mk.injEq] at H
                                obtain ⟨rfl, rfl, rfl, rfl, rfl⟩ := H
                                have p259 : 0 ≤ (2 : Int) := (by omega)
                                have q259 : 2 < (t242.length : Int) := of_decide_eq_true (by first | (with_reducible assumption) | assumption)
                                obtain ⟨ad259, e259, hx259_0⟩ := Kd.at_string (Kd.R_reads' HO_4.out).2.2 2 p259 q259
                                obtain rfl : ad248 = ad259 := (by injection e259)
                                (try simp only [show (2 : Int).toNat = 2 from rfl, Nat.reduceMul, Nat.reduceEqDiff, Go.Addr.add, ↓reduceIte] at hx259_0)
                                have qi259 : (2 < t242.length) = True := eq_true (by omega)
                                (try rw [show ((2 : Int)).toNat = 2 from rfl] at hx259_0)
                                replace p259 := eq_true p259
                                replace q259 := eq_true q259
                                go_wp2_with (first | ((with_reducible refine gate_callee (f := 44) rfl ?_); refine goesL_ (some 63) rfl rfl Tryd.func44 (by kernel_rfl) rfl #[.string (rdOf ByteArray.empty t242 2), .int .i64 999] rfl (by (try simp only [List.map_toArray, List.map_cons, List.map_nil]); first | done | rfl | (simp only [List.length_drop, List.length_take]; rfl)) ?_; (with_reducible refine (impl_readNumber.calls (hT := ?sideT) (rdOf ByteArray.empty t242 2) 999 t260 t261 _ A53.out).mono ?_); (case sideT => exact Go.Proofs.YtpfbiopcfbokbaaDoor.MRead.tabs2_below HTab.out (by repeat (first | (with_reducible first|exact HB.out|apply vA_|apply vN_|apply vD_ | refine vS_ ?_ GE241.out | refine vS_ ?_ GE250.out) | exact HB.out))); rintro e w57 ⟨rfl, hb⟩; refine ⟨_, rfl, ?_⟩; have n0_ := Aside0.mk (Kd.R_below (by (with_reducible repeat first|apply rA_|apply rN_|apply rD_); exact HO_4.out) hb); have n1_ := Aside0.mk (blk_below (by (with_reducible repeat first|apply qN_|apply qD_|apply qA_); exact BK241.out) hb); have n2_ := Aside0.mk (blk_below (by (with_reducible repeat first|apply qN_|apply qD_|apply qA_); exact BK250.out) hb); have n3_ := Aside0.mk (below_step (by repeat (first | (with_reducible first|exact HB.out|apply vA_|apply vN_|apply vD_ | refine vS_ ?_ GE241.out | refine vS_ ?_ GE250.out) | exact HB.out)) hb); clear HO_4; clear BK241; clear BK250; clear HB; have HO_4 := n0_; have BK241 := n1_; have BK250 := n2_; have HB := n3_; clear n0_ n1_ n2_ n3_; (try clear hb); (try clear hb2); (try clear hk); (try clear hi); have hnb58 := NB250_241.out; have hnc58 := NB241_250.out; have hcz59_0 : w57.cell? ⟨gb250, 0, none⟩ = some (.int .i64 ji6) := (blk_cell BK250.out 0).trans rfl; have hcz59_1 : w57.cell? ⟨gb250, 1, none⟩ = some (.int .i64 x251001_37) := (blk_cell BK250.out 1).trans rfl; have hcz59_2 : w57.cell? ⟨gb250, 2, none⟩ = some (.int .i64 0) := (blk_cell BK250.out 2).trans rfl; have hcz59_3 : w57.cell? ⟨gb250, 3, none⟩ = some (.float .f64 x251003_24) := (blk_cell BK250.out 3).trans rfl; have hfz59_0 := blk_frozen BK250.out 0; have hfz59_1 := blk_frozen BK250.out 1; have hfz59_2 := blk_frozen BK250.out 2; have hfz59_3 := blk_frozen BK250.out 3) | ((with_reducible refine gate_callee (f := 45) rfl ?_); refine goesL_ (some 69) rfl rfl Tryd.func45 (by kernel_rfl) rfl #[.agg #[.int .i64 ji6, .int .i64 x251001_37, .int .i64 t260, .float .f64 x251003_24]] rfl (by (try simp only [List.map_toArray, List.map_cons, List.map_nil]); first | done | (simp only [hji6]; rfl) | rfl | (simp only [List.length_drop, List.length_take]; rfl)) ?_; (with_reducible refine (impl_OpText.calls (hT := ?sideT) kj44 ji6 x251001_37 t260 x251003_24 t262 true _ A54.out).mono ?_); (case sideT => exact Go.Proofs.YtpfbiopcfbokbaaDoor.MRead.tabs2_below HTab.out (by repeat (first | (with_reducible first|exact HB.out|apply vA_|apply vN_|apply vD_ | refine vS_ ?_ GE241.out | refine vS_ ?_ GE250.out) | exact HB.out))); rintro e w60 ⟨rfl, hb⟩; refine ⟨_, rfl, ?_⟩; have n0_ := Aside0.mk (Kd.R_below (by (with_reducible repeat first|apply rA_|apply rN_|apply rD_); exact (Kd.R_mono (Kd.R_far (p := ⟨gb250, 2, none⟩) (Kd.R_types HO_4.out BK250.out (by decide)) (fun _ hk => hk.2) (.int .i64 t260)) (fun _ h_ => h_.1))) hb); have n1_ := Aside0.mk (blk_below (g := gb241) (o := .cells #[.int .i64 0, .int .i64 0, .int .i64 0, .float .f64 0] 38 (0, 0)) (by (with_reducible repeat first|apply qN_|apply qD_|apply qA_); refine blk_far ?_ NB241_250.out _; (with_reducible repeat first|apply qN_|apply qD_|apply qA_); exact BK241.out) hb); have n2_ := Aside0.mk (blk_below (g := gb250) (o := .cells #[.int .i64 ji6, .int .i64 x251001_37, .int .i64 t260, .float .f64 x251003_24] 38 (0, 0)) (by (with_reducible repeat first|apply qN_|apply qD_|apply qA_); refine blk_put (cs := #[.int .i64 ji6, .int .i64 x251001_37, .int .i64 0, .float .f64 x251003_24]) ?_ 2 _ rfl; (with_reducible repeat first|apply qN_|apply qD_|apply qA_); exact BK250.out) hb); have n3_ := Aside0.mk (below_step (by repeat (first | (with_reducible first|exact HB.out|apply vA_|apply vN_|apply vD_ | refine vS_ ?_ GE241.out | refine vS_ ?_ GE250.out) | exact HB.out)) hb); clear HO_4; clear BK241; clear BK250; clear HB; have HO_4 := n0_; have BK241 := n1_; have BK250 := n2_; have HB := n3_; clear n0_ n1_ n2_ n3_; (try clear hb); (try clear hb2); (try clear hk); (try clear hi); have hcz61_0 : w60.cell? ⟨gb250, 0, none⟩ = some (.int .i64 ji6) := (blk_cell BK250.out 0).trans rfl; have hcz61_1 : w60.cell? ⟨gb250, 1, none⟩ = some (.int .i64 x251001_37) := (blk_cell BK250.out 1).trans rfl; have hcz61_2 : w60.cell? ⟨gb250, 2, none⟩ = some (.int .i64 t260) := (blk_cell BK250.out 2).trans rfl; have hcz61_3 : w60.cell? ⟨gb250, 3, none⟩ = some (.float .f64 x251003_24) := (blk_cell BK250.out 3).trans rfl; have hfz61_0 := blk_frozen BK250.out 0; have hfz61_1 := blk_frozen BK250.out 1; have hfz61_2 := blk_frozen BK250.out 2; have hfz61_3 := blk_frozen BK250.out 3; have hcz62_0 : w60.cell? ⟨gb241, 0, none⟩ = some (.int .i64 0) := (blk_cell BK241.out 0).trans rfl; have hcz62_1 : w60.cell? ⟨gb241, 1, none⟩ = some (.int .i64 0) := (blk_cell BK241.out 1).trans rfl; have hcz62_2 : w60.cell? ⟨gb241, 2, none⟩ = some (.int .i64 0) := (blk_cell BK241.out 2).trans rfl; have hcz62_3 : w60.cell? ⟨gb241, 3, none⟩ = some (.float .f64 0) := (blk_cell BK241.out 3).trans rfl; have hfz62_0 := blk_frozen BK241.out 0; have hfz62_1 := blk_frozen BK241.out 1; have hfz62_2 := blk_frozen BK241.out 2; have hfz62_3 := blk_frozen BK241.out 3))
                                refine bodyPost_ret (results_ct rfl _ _ gb241 38 #[.int .i64 ji6, .int .i64 x251001_37, .int .i64 t260, .float .f64 x251003_24] (0, 0) _ rfl (by (with_reducible repeat first|apply qN_|apply qD_|apply qA_); refine blk_put (cs := #[.int .i64 ji6, .int .i64 x251001_37, .int .i64 t260, .float .f64 0]) ?_ 3 _ rfl; (with_reducible repeat first|apply qN_|apply qD_|apply qA_); refine blk_put (cs := #[.int .i64 ji6, .int .i64 x251001_37, .int .i64 0, .float .f64 0]) ?_ 2 _ rfl; (with_reducible repeat first|apply qN_|apply qD_|apply qA_); refine blk_put (cs := #[.int .i64 ji6, .int .i64 0, .int .i64 0, .float .f64 0]) ?_ 1 _ rfl; (with_reducible repeat first|apply qN_|apply qD_|apply qA_); refine blk_put (cs := #[.int .i64 0, .int .i64 0, .int .i64 0, .float .f64 0]) ?_ 0 _ rfl; (with_reducible repeat first|apply qN_|apply qD_|apply qA_); exact BK241.out) Tryd.underlying38 rfl (by kernel_rfl)) rfl ?_
                                exact ⟨by first | rfl | (simp [errW_none, errW_some] <;> rfl) | (simp only [← hji6]; first | rfl | (simp [errW_none, errW_some] <;> rfl)) | (simp [*, errW_none, errW_some] <;> rfl), by repeat (first | (with_reducible first|exact HB.out|apply vA_|apply vN_|apply vD_ | refine vS_ ?_ GE241.out | refine vS_ ?_ GE250.out) | exact HB.out)⟩
                              · rw [if_neg c56] at H
                                have c56b0 : (t262.toList == a0.toList) = false := beq_eq_false_iff_ne.mpr c56
                                have c56b1 : (t262.toList != a0.toList) = true := bne_iff_ne.mpr c56
                                simp only [Option.some.injEq, Prod.mk.injEq] at H
                                obtain ⟨rfl, rfl, rfl, rfl, rfl⟩ := H
                                have p259 : 0 ≤ (2 : Int) := (by omega)
                                have q259 : 2 < (t242.length : Int) := of_decide_eq_true (by first | (with_reducible assumption) | assumption)
                                obtain ⟨ad259, e259, hx259_0⟩ := Kd.at_string (Kd.R_reads' HO_4.out).2.2 2 p259 q259
                                obtain rfl : ad248 = ad259 := (by injection e259)
                                (try simp only [show (2 : Int).toNat = 2 from rfl, Nat.reduceMul, Nat.reduceEqDiff, Go.Addr.add, ↓reduceIte] at hx259_0)
                                have qi259 : (2 < t242.length) = True := eq_true (by omega)
                                (try rw [show ((2 : Int)).toNat = 2 from rfl] at hx259_0)
                                replace p259 := eq_true p259
                                replace q259 := eq_true q259
                                go_wp2_with (first | ((with_reducible refine gate_callee (f := 44) rfl ?_); refine goesL_ (some 63) rfl rfl Tryd.func44 (by kernel_rfl) rfl #[.string (rdOf ByteArray.empty t242 2), .int .i64 999] rfl (by (try simp only [List.map_toArray, List.map_cons, List.map_nil]); first | done | rfl | (simp only [List.length_drop, List.length_take]; rfl)) ?_; (with_reducible refine (impl_readNumber.calls (hT := ?sideT) (rdOf ByteArray.empty t242 2) 999 t260 t261 _ A53.out).mono ?_); (case sideT => exact Go.Proofs.YtpfbiopcfbokbaaDoor.MRead.tabs2_below HTab.out (by repeat (first | (with_reducible first|exact HB.out|apply vA_|apply vN_|apply vD_ | refine vS_ ?_ GE241.out | refine vS_ ?_ GE250.out) | exact HB.out))); rintro e w63 ⟨rfl, hb⟩; refine ⟨_, rfl, ?_⟩; have n0_ := Aside0.mk (Kd.R_below (by (with_reducible repeat first|apply rA_|apply rN_|apply rD_); exact HO_4.out) hb); have n1_ := Aside0.mk (blk_below (by (with_reducible repeat first|apply qN_|apply qD_|apply qA_); exact BK241.out) hb); have n2_ := Aside0.mk (blk_below (by (with_reducible repeat first|apply qN_|apply qD_|apply qA_); exact BK250.out) hb); have n3_ := Aside0.mk (below_step (by repeat (first | (with_reducible first|exact HB.out|apply vA_|apply vN_|apply vD_ | refine vS_ ?_ GE241.out | refine vS_ ?_ GE250.out) | exact HB.out)) hb); clear HO_4; clear BK241; clear BK250; clear HB; have HO_4 := n0_; have BK241 := n1_; have BK250 := n2_; have HB := n3_; clear n0_ n1_ n2_ n3_; (try clear hb); (try clear hb2); (try clear hk); (try clear hi); have hnb64 := NB250_241.out; have hnc64 := NB241_250.out; have hcz65_0 : w63.cell? ⟨gb250, 0, none⟩ = some (.int .i64 ji6) := (blk_cell BK250.out 0).trans rfl; have hcz65_1 : w63.cell? ⟨gb250, 1, none⟩ = some (.int .i64 x251001_37) := (blk_cell BK250.out 1).trans rfl; have hcz65_2 : w63.cell? ⟨gb250, 2, none⟩ = some (.int .i64 0) := (blk_cell BK250.out 2).trans rfl; have hcz65_3 : w63.cell? ⟨gb250, 3, none⟩ = some (.float .f64 x251003_24) := (blk_cell BK250.out 3).trans rfl; have hfz65_0 := blk_frozen BK250.out 0; have hfz65_1 := blk_frozen BK250.out 1; have hfz65_2 := blk_frozen BK250.out 2; have hfz65_3 := blk_frozen BK250.out 3) | ((with_reducible refine gate_callee (f := 45) rfl ?_); refine goesL_ (some 69) rfl rfl Tryd.func45 (by kernel_rfl) rfl #[.agg #[.int .i64 ji6, .int .i64 x251001_37, .int .i64 t260, .float .f64 x251003_24]] rfl (by (try simp only [List.map_toArray, List.map_cons, List.map_nil]); first | done | (simp only [hji6]; rfl) | rfl | (simp only [List.length_drop, List.length_take]; rfl)) ?_; (with_reducible refine (impl_OpText.calls (hT := ?sideT) kj44 ji6 x251001_37 t260 x251003_24 t262 true _ A54.out).mono ?_); (case sideT => exact Go.Proofs.YtpfbiopcfbokbaaDoor.MRead.tabs2_below HTab.out (by repeat (first | (with_reducible first|exact HB.out|apply vA_|apply vN_|apply vD_ | refine vS_ ?_ GE241.out | refine vS_ ?_ GE250.out) | exact HB.out))); rintro e w66 ⟨rfl, hb⟩; refine ⟨_, rfl, ?_⟩; have n0_ := Aside0.mk (Kd.R_below (by (with_reducible repeat first|apply rA_|apply rN_|apply rD_); exact (Kd.R_mono (Kd.R_far (p := ⟨gb250, 2, none⟩) (Kd.R_types HO_4.out BK250.out (by decide)) (fun _ hk => hk.2) (.int .i64 t260)) (fun _ h_ => h_.1))) hb); have n1_ := Aside0.mk (blk_below (g := gb241) (o := .cells #[.int .i64 0, .int .i64 0, .int .i64 0, .float .f64 0] 38 (0, 0)) (by (with_reducible repeat first|apply qN_|apply qD_|apply qA_); refine blk_far ?_ NB241_250.out _; (with_reducible repeat first|apply qN_|apply qD_|apply qA_); exact BK241.out) hb); have n2_ := Aside0.mk (blk_below (g := gb250) (o := .cells #[.int .i64 ji6, .int .i64 x251001_37, .int .i64 t260, .float .f64 x251003_24] 38 (0, 0)) (by (with_reducible repeat first|apply qN_|apply qD_|apply qA_); refine blk_put (cs := #[.int .i64 ji6, .int .i64 x251001_37, .int .i64 0, .float .f64 x251003_24]) ?_ 2 _ rfl; (with_reducible repeat first|apply qN_|apply qD_|apply qA_); exact BK250.out) hb); have n3_ := Aside0.mk (below_step (by repeat (first | (with_reducible first|exact HB.out|apply vA_|apply vN_|apply vD_ | refine vS_ ?_ GE241.out | refine vS_ ?_ GE250.out) | exact HB.out)) hb); clear HO_4; clear BK241; clear BK250; clear HB; have HO_4 := n0_; have BK241 := n1_; have BK250 := n2_; have HB := n3_; clear n0_ n1_ n2_ n3_; (try clear hb); (try clear hb2); (try clear hk); (try clear hi); have hcz67_0 : w66.cell? ⟨gb241, 0, none⟩ = some (.int .i64 0) := (blk_cell BK241.out 0).trans rfl; have hcz67_1 : w66.cell? ⟨gb241, 1, none⟩ = some (.int .i64 0) := (blk_cell BK241.out 1).trans rfl; have hcz67_2 : w66.cell? ⟨gb241, 2, none⟩ = some (.int .i64 0) := (blk_cell BK241.out 2).trans rfl; have hcz67_3 : w66.cell? ⟨gb241, 3, none⟩ = some (.float .f64 0) := (blk_cell BK241.out 3).trans rfl; have hfz67_0 := blk_frozen BK241.out 0; have hfz67_1 := blk_frozen BK241.out 1; have hfz67_2 := blk_frozen BK241.out 2; have hfz67_3 := blk_frozen BK241.out 3))
                                refine bodyPost_ret (results_ct rfl _ _ gb241 38 #[.int .i64 0, .int .i64 0, .int .i64 0, .float .f64 0] (0, 0) _ rfl (by (with_reducible repeat first|apply qN_|apply qD_|apply qA_); refine blk_put (cs := #[.int .i64 0, .int .i64 0, .int .i64 0, .float .f64 0]) ?_ 3 _ rfl; (with_reducible repeat first|apply qN_|apply qD_|apply qA_); refine blk_put (cs := #[.int .i64 0, .int .i64 0, .int .i64 0, .float .f64 0]) ?_ 2 _ rfl; (with_reducible repeat first|apply qN_|apply qD_|apply qA_); refine blk_put (cs := #[.int .i64 0, .int .i64 0, .int .i64 0, .float .f64 0]) ?_ 1 _ rfl; (with_reducible repeat first|apply qN_|apply qD_|apply qA_); refine blk_put (cs := #[.int .i64 0, .int .i64 0, .int .i64 0, .float .f64 0]) ?_ 0 _ rfl; (with_reducible repeat first|apply qN_|apply qD_|apply qA_); exact BK241.out) Tryd.underlying38 rfl (by kernel_rfl)) rfl ?_
                                exact ⟨by first | rfl | (simp [errW_none, errW_some] <;> rfl) | (simp only [← hji6]; first | rfl | (simp [errW_none, errW_some] <;> rfl)) | (simp [*, errW_none, errW_some] <;> rfl), by repeat (first | (with_reducible first|exact HB.out|apply vA_|apply vN_|apply vD_ | refine vS_ ?_ GE241.out | refine vS_ ?_ GE250.out) | exact HB.out)⟩
                            · replace c55 := Bool.eq_false_iff.mpr c55
                              subst c55
                              have H1 : (some (0, 0, 0, 0, false)) = some (r1, r2, r3, r4, r5) := by rw [if_neg (show ¬ (false = true) by decide)] at H; exact H
                              clear H
                              have H := H1
                              clear H1
                              simp only [Option.some.injEq, Prod.mk.injEq] at H
                              obtain ⟨rfl, rfl, rfl, rfl, rfl⟩ := H
                              have p259 : 0 ≤ (2 : Int) := (by omega)
                              have q259 : 2 < (t242.length : Int) := of_decide_eq_true (by first | (with_reducible assumption) | assumption)
                              obtain ⟨ad259, e259, hx259_0⟩ := Kd.at_string (Kd.R_reads' HO_4.out).2.2 2 p259 q259
                              obtain rfl : ad248 = ad259 := (by injection e259)
                              (try simp only [show (2 : Int).toNat = 2 from rfl, Nat.reduceMul, Nat.reduceEqDiff, Go.Addr.add, ↓reduceIte] at hx259_0)
                              have qi259 : (2 < t242.length) = True := eq_true (by omega)
                              (try rw [show ((2 : Int)).toNat = 2 from rfl] at hx259_0)
                              replace p259 := eq_true p259
                              replace q259 := eq_true q259
                              go_wp2_with (first | ((with_reducible refine gate_callee (f := 44) rfl ?_); refine goesL_ (some 63) rfl rfl Tryd.func44 (by kernel_rfl) rfl #[.string (rdOf ByteArray.empty t242 2), .int .i64 999] rfl (by (try simp only [List.map_toArray, List.map_cons, List.map_nil]); first | done | rfl | (simp only [List.length_drop, List.length_take]; rfl)) ?_; (with_reducible refine (impl_readNumber.calls (hT := ?sideT) (rdOf ByteArray.empty t242 2) 999 t260 t261 _ A53.out).mono ?_); (case sideT => exact Go.Proofs.YtpfbiopcfbokbaaDoor.MRead.tabs2_below HTab.out (by repeat (first | (with_reducible first|exact HB.out|apply vA_|apply vN_|apply vD_ | refine vS_ ?_ GE241.out | refine vS_ ?_ GE250.out) | exact HB.out))); rintro e w68 ⟨rfl, hb⟩; refine ⟨_, rfl, ?_⟩; have n0_ := Aside0.mk (Kd.R_below (by (with_reducible repeat first|apply rA_|apply rN_|apply rD_); exact HO_4.out) hb); have n1_ := Aside0.mk (blk_below (by (with_reducible repeat first|apply qN_|apply qD_|apply qA_); exact BK241.out) hb); have n2_ := Aside0.mk (blk_below (by (with_reducible repeat first|apply qN_|apply qD_|apply qA_); exact BK250.out) hb); have n3_ := Aside0.mk (below_step (by repeat (first | (with_reducible first|exact HB.out|apply vA_|apply vN_|apply vD_ | refine vS_ ?_ GE241.out | refine vS_ ?_ GE250.out) | exact HB.out)) hb); clear HO_4; clear BK241; clear BK250; clear HB; have HO_4 := n0_; have BK241 := n1_; have BK250 := n2_; have HB := n3_; clear n0_ n1_ n2_ n3_; (try clear hb); (try clear hb2); (try clear hk); (try clear hi); have hnb69 := NB250_241.out; have hnc69 := NB241_250.out; have hcz70_0 : w68.cell? ⟨gb250, 0, none⟩ = some (.int .i64 ji6) := (blk_cell BK250.out 0).trans rfl; have hcz70_1 : w68.cell? ⟨gb250, 1, none⟩ = some (.int .i64 x251001_37) := (blk_cell BK250.out 1).trans rfl; have hcz70_2 : w68.cell? ⟨gb250, 2, none⟩ = some (.int .i64 0) := (blk_cell BK250.out 2).trans rfl; have hcz70_3 : w68.cell? ⟨gb250, 3, none⟩ = some (.float .f64 x251003_24) := (blk_cell BK250.out 3).trans rfl; have hfz70_0 := blk_frozen BK250.out 0; have hfz70_1 := blk_frozen BK250.out 1; have hfz70_2 := blk_frozen BK250.out 2; have hfz70_3 := blk_frozen BK250.out 3) | ((with_reducible refine gate_callee (f := 45) rfl ?_); refine goesL_ (some 69) rfl rfl Tryd.func45 (by kernel_rfl) rfl #[.agg #[.int .i64 ji6, .int .i64 x251001_37, .int .i64 t260, .float .f64 x251003_24]] rfl (by (try simp only [List.map_toArray, List.map_cons, List.map_nil]); first | done | (simp only [hji6]; rfl) | rfl | (simp only [List.length_drop, List.length_take]; rfl)) ?_; (with_reducible refine (impl_OpText.calls (hT := ?sideT) kj44 ji6 x251001_37 t260 x251003_24 t262 false _ A54.out).mono ?_); (case sideT => exact Go.Proofs.YtpfbiopcfbokbaaDoor.MRead.tabs2_below HTab.out (by repeat (first | (with_reducible first|exact HB.out|apply vA_|apply vN_|apply vD_ | refine vS_ ?_ GE241.out | refine vS_ ?_ GE250.out) | exact HB.out))); rintro e w71 ⟨rfl, hb⟩; refine ⟨_, rfl, ?_⟩; have n0_ := Aside0.mk (Kd.R_below (by (with_reducible repeat first|apply rA_|apply rN_|apply rD_); exact (Kd.R_mono (Kd.R_far (p := ⟨gb250, 2, none⟩) (Kd.R_types HO_4.out BK250.out (by decide)) (fun _ hk => hk.2) (.int .i64 t260)) (fun _ h_ => h_.1))) hb); have n1_ := Aside0.mk (blk_below (g := gb241) (o := .cells #[.int .i64 0, .int .i64 0, .int .i64 0, .float .f64 0] 38 (0, 0)) (by (with_reducible repeat first|apply qN_|apply qD_|apply qA_); refine blk_far ?_ NB241_250.out _; (with_reducible repeat first|apply qN_|apply qD_|apply qA_); exact BK241.out) hb); have n2_ := Aside0.mk (blk_below (g := gb250) (o := .cells #[.int .i64 ji6, .int .i64 x251001_37, .int .i64 t260, .float .f64 x251003_24] 38 (0, 0)) (by (with_reducible repeat first|apply qN_|apply qD_|apply qA_); refine blk_put (cs := #[.int .i64 ji6, .int .i64 x251001_37, .int .i64 0, .float .f64 x251003_24]) ?_ 2 _ rfl; (with_reducible repeat first|apply qN_|apply qD_|apply qA_); exact BK250.out) hb); have n3_ := Aside0.mk (below_step (by repeat (first | (with_reducible first|exact HB.out|apply vA_|apply vN_|apply vD_ | refine vS_ ?_ GE241.out | refine vS_ ?_ GE250.out) | exact HB.out)) hb); clear HO_4; clear BK241; clear BK250; clear HB; have HO_4 := n0_; have BK241 := n1_; have BK250 := n2_; have HB := n3_; clear n0_ n1_ n2_ n3_; (try clear hb); (try clear hb2); (try clear hk); (try clear hi); have hcz72_0 : w71.cell? ⟨gb241, 0, none⟩ = some (.int .i64 0) := (blk_cell BK241.out 0).trans rfl; have hcz72_1 : w71.cell? ⟨gb241, 1, none⟩ = some (.int .i64 0) := (blk_cell BK241.out 1).trans rfl; have hcz72_2 : w71.cell? ⟨gb241, 2, none⟩ = some (.int .i64 0) := (blk_cell BK241.out 2).trans rfl; have hcz72_3 : w71.cell? ⟨gb241, 3, none⟩ = some (.float .f64 0) := (blk_cell BK241.out 3).trans rfl; have hfz72_0 := blk_frozen BK241.out 0; have hfz72_1 := blk_frozen BK241.out 1; have hfz72_2 := blk_frozen BK241.out 2; have hfz72_3 := blk_frozen BK241.out 3))
                              refine bodyPost_ret (results_ct rfl _ _ gb241 38 #[.int .i64 0, .int .i64 0, .int .i64 0, .float .f64 0] (0, 0) _ rfl (by (with_reducible repeat first|apply qN_|apply qD_|apply qA_); refine blk_put (cs := #[.int .i64 0, .int .i64 0, .int .i64 0, .float .f64 0]) ?_ 3 _ rfl; (with_reducible repeat first|apply qN_|apply qD_|apply qA_); refine blk_put (cs := #[.int .i64 0, .int .i64 0, .int .i64 0, .float .f64 0]) ?_ 2 _ rfl; (with_reducible repeat first|apply qN_|apply qD_|apply qA_); refine blk_put (cs := #[.int .i64 0, .int .i64 0, .int .i64 0, .float .f64 0]) ?_ 1 _ rfl; (with_reducible repeat first|apply qN_|apply qD_|apply qA_); refine blk_put (cs := #[.int .i64 0, .int .i64 0, .int .i64 0, .float .f64 0]) ?_ 0 _ rfl; (with_reducible repeat first|apply qN_|apply qD_|apply qA_); exact BK241.out) Tryd.underlying38 rfl (by kernel_rfl)) rfl ?_
                              exact ⟨by first | rfl | (simp [errW_none, errW_some] <;> rfl) | (simp only [← hji6]; first | rfl | (simp [errW_none, errW_some] <;> rfl)) | (simp [*, errW_none, errW_some] <;> rfl), by repeat (first | (with_reducible first|exact HB.out|apply vA_|apply vN_|apply vD_ | refine vS_ ?_ GE241.out | refine vS_ ?_ GE250.out) | exact HB.out)⟩
                          · rw [if_neg c52] at H
                            exact absurd H (by simp)
                        · replace c51 := Bool.eq_false_iff.mpr c51
                          subst c51
                          have H1 : ((impl_OpText.f kj44 ji6 x251001_37 0 x251003_24).bind fun bt264 => (if bt264.2 = true then (if bt264.1.toList = a0.toList then (some (ji6, x251001_37, 0, x251003_24, true)) else (some (0, 0, 0, 0, false))) else (some (0, 0, 0, 0, false)))) = some (r1, r2, r3, r4, r5) := by rw [if_neg (show ¬ (false = true) by decide)] at H; exact H
                          clear H
                          have H := H1
                          clear H1
                          replace H := Option.bind_eq_some_iff.mp H
                          obtain ⟨⟨t264, t265⟩, A730, H⟩ := H
                          replace H : (if t265 = true then (if t264.toList = a0.toList then (some (ji6, x251001_37, 0, x251003_24, true)) else (some (0, 0, 0, 0, false))) else (some (0, 0, 0, 0, false))) = some (r1, r2, r3, r4, r5) := H
                          have A73 := Aside0.mk A730
                          clear A730
                          by_cases c74 : t265 = true
                          · subst c74
                            have H1 : (if t264.toList = a0.toList then (some (ji6, x251001_37, 0, x251003_24, true)) else (some (0, 0, 0, 0, false))) = some (r1, r2, r3, r4, r5) := by rw [if_pos rfl] at H; exact H
                            clear H
                            have H := H1
                            clear H1
                            by_cases c75 : t264.toList = a0.toList
                            · rw [if_pos c75] at H
                              have c75b0 : (t264.toList == a0.toList) = true := beq_iff_eq.mpr c75
                              have c75b1 : (t264.toList != a0.toList) = false := bne_eq_false_iff_eq.mpr c75
                              clear c75
                              simp only [Option.some.injEq, Prod.mk.injEq] at H
                              obtain ⟨rfl, rfl, rfl, rfl, rfl⟩ := H
                              have hnb76 := NB250_241.out
                              have hnc76 := NB241_250.out
                              have hcz77_0 : wc.cell? ⟨gb250, 0, none⟩ = some (.int .i64 ji6) := (blk_cell BK250.out 0).trans rfl
                              have hcz77_1 : wc.cell? ⟨gb250, 1, none⟩ = some (.int .i64 x251001_37) := (blk_cell BK250.out 1).trans rfl
                              have hcz77_2 : wc.cell? ⟨gb250, 2, none⟩ = some (.int .i64 0) := (blk_cell BK250.out 2).trans rfl
                              have hcz77_3 : wc.cell? ⟨gb250, 3, none⟩ = some (.float .f64 x251003_24) := (blk_cell BK250.out 3).trans rfl
                              have hfz77_0 := blk_frozen BK250.out 0
                              have hfz77_1 := blk_frozen BK250.out 1
                              have hfz77_2 := blk_frozen BK250.out 2
                              have hfz77_3 := blk_frozen BK250.out 3
                              go_wp2_with (first | ((with_reducible refine gate_callee (f := 45) rfl ?_); refine goesL_ (some 69) rfl rfl Tryd.func45 (by kernel_rfl) rfl #[.agg #[.int .i64 ji6, .int .i64 x251001_37, .int .i64 0, .float .f64 x251003_24]] rfl (by (try simp only [List.map_toArray, List.map_cons, List.map_nil]); first | done | (simp only [hji6]; rfl) | rfl | (simp only [List.length_drop, List.length_take]; rfl)) ?_; (with_reducible refine (impl_OpText.calls (hT := ?sideT) kj44 ji6 x251001_37 0 x251003_24 t264 true _ A73.out).mono ?_); (case sideT => exact Go.Proofs.YtpfbiopcfbokbaaDoor.MRead.tabs2_below HTab.out (by repeat (first | (with_reducible first|exact HB.out|apply vA_|apply vN_|apply vD_ | refine vS_ ?_ GE241.out | refine vS_ ?_ GE250.out) | exact HB.out))); rintro e w78 ⟨rfl, hb⟩; refine ⟨_, rfl, ?_⟩; have n0_ := Aside0.mk (Kd.R_below (by (with_reducible repeat first|apply rA_|apply rN_|apply rD_); exact HO_4.out) hb); have n1_ := Aside0.mk (blk_below (by (with_reducible repeat first|apply qN_|apply qD_|apply qA_); exact BK241.out) hb); have n2_ := Aside0.mk (blk_below (by (with_reducible repeat first|apply qN_|apply qD_|apply qA_); exact BK250.out) hb); have n3_ := Aside0.mk (below_step (by repeat (first | (with_reducible first|exact HB.out|apply vA_|apply vN_|apply vD_ | refine vS_ ?_ GE241.out | refine vS_ ?_ GE250.out) | exact HB.out)) hb); clear HO_4; clear BK241; clear BK250; clear HB; have HO_4 := n0_; have BK241 := n1_; have BK250 := n2_; have HB := n3_; clear n0_ n1_ n2_ n3_; (try clear hb); (try clear hb2); (try clear hk); (try clear hi); have hcz79_0 : w78.cell? ⟨gb250, 0, none⟩ = some (.int .i64 ji6) := (blk_cell BK250.out 0).trans rfl; have hcz79_1 : w78.cell? ⟨gb250, 1, none⟩ = some (.int .i64 x251001_37) := (blk_cell BK250.out 1).trans rfl; have hcz79_2 : w78.cell? ⟨gb250, 2, none⟩ = some (.int .i64 0) := (blk_cell BK250.out 2).trans rfl; have hcz79_3 : w78.cell? ⟨gb250, 3, none⟩ = some (.float .f64 x251003_24) := (blk_cell BK250.out 3).trans rfl; have hfz79_0 := blk_frozen BK250.out 0; have hfz79_1 := blk_frozen BK250.out 1; have hfz79_2 := blk_frozen BK250.out 2; have hfz79_3 := blk_frozen BK250.out 3; have hcz80_0 : w78.cell? ⟨gb241, 0, none⟩ = some (.int .i64 0) := (blk_cell BK241.out 0).trans rfl; have hcz80_1 : w78.cell? ⟨gb241, 1, none⟩ = some (.int .i64 0) := (blk_cell BK241.out 1).trans rfl; have hcz80_2 : w78.cell? ⟨gb241, 2, none⟩ = some (.int .i64 0) := (blk_cell BK241.out 2).trans rfl; have hcz80_3 : w78.cell? ⟨gb241, 3, none⟩ = some (.float .f64 0) := (blk_cell BK241.out 3).trans rfl; have hfz80_0 := blk_frozen BK241.out 0; have hfz80_1 := blk_frozen BK241.out 1; have hfz80_2 := blk_frozen BK241.out 2; have hfz80_3 := blk_frozen BK241.out 3))
                              refine bodyPost_ret (results_ct rfl _ _ gb241 38 #[.int .i64 ji6, .int .i64 x251001_37, .int .i64 0, .float .f64 x251003_24] (0, 0) _ rfl (by (with_reducible repeat first|apply qN_|apply qD_|apply qA_); refine blk_put (cs := #[.int .i64 ji6, .int .i64 x251001_37, .int .i64 0, .float .f64 0]) ?_ 3 _ rfl; (with_reducible repeat first|apply qN_|apply qD_|apply qA_); refine blk_put (cs := #[.int .i64 ji6, .int .i64 x251001_37, .int .i64 0, .float .f64 0]) ?_ 2 _ rfl; (with_reducible repeat first|apply qN_|apply qD_|apply qA_); refine blk_put (cs := #[.int .i64 ji6, .int .i64 0, .int .i64 0, .float .f64 0]) ?_ 1 _ rfl; (with_reducible repeat first|apply qN_|apply qD_|apply qA_); refine blk_put (cs := #[.int .i64 0, .int .i64 0, .int .i64 0, .float .f64 0]) ?_ 0 _ rfl; (with_reducible repeat first|apply qN_|apply qD_|apply qA_); exact BK241.out) Tryd.underlying38 rfl (by kernel_rfl)) rfl ?_
                              exact ⟨by first | rfl | (simp [errW_none, errW_some] <;> rfl) | (simp only [← hji6]; first | rfl | (simp [errW_none, errW_some] <;> rfl)) | (simp [*, errW_none, errW_some] <;> rfl), by repeat (first | (with_reducible first|exact HB.out|apply vA_|apply vN_|apply vD_ | refine vS_ ?_ GE241.out | refine vS_ ?_ GE250.out) | exact HB.out)⟩
                            · rw [if_neg c75] at H
                              have c75b0 : (t264.toList == a0.toList) = false := beq_eq_false_iff_ne.mpr c75
                              have c75b1 : (t264.toList != a0.toList) = true := bne_iff_ne.mpr c75
                              simp only [Option.some.injEq, Prod.mk.injEq] at H
                              obtain ⟨rfl, rfl, rfl, rfl, rfl⟩ := H
                              have hnb81 := NB250_241.out
                              have hnc81 := NB241_250.out
                              have hcz82_0 : wc.cell? ⟨gb250, 0, none⟩ = some (.int .i64 ji6) := (blk_cell BK250.out 0).trans rfl
                              have hcz82_1 : wc.cell? ⟨gb250, 1, none⟩ = some (.int .i64 x251001_37) := (blk_cell BK250.out 1).trans rfl
                              have hcz82_2 : wc.cell? ⟨gb250, 2, none⟩ = some (.int .i64 0) := (blk_cell BK250.out 2).trans rfl
                              have hcz82_3 : wc.cell? ⟨gb250, 3, none⟩ = some (.float .f64 x251003_24) := (blk_cell BK250.out 3).trans rfl
                              have hfz82_0 := blk_frozen BK250.out 0
                              have hfz82_1 := blk_frozen BK250.out 1
                              have hfz82_2 := blk_frozen BK250.out 2
                              have hfz82_3 := blk_frozen BK250.out 3
                              go_wp2_with (first | ((with_reducible refine gate_callee (f := 45) rfl ?_); refine goesL_ (some 69) rfl rfl Tryd.func45 (by kernel_rfl) rfl #[.agg #[.int .i64 ji6, .int .i64 x251001_37, .int .i64 0, .float .f64 x251003_24]] rfl (by (try simp only [List.map_toArray, List.map_cons, List.map_nil]); first | done | (simp only [hji6]; rfl) | rfl | (simp only [List.length_drop, List.length_take]; rfl)) ?_; (with_reducible refine (impl_OpText.calls (hT := ?sideT) kj44 ji6 x251001_37 0 x251003_24 t264 true _ A73.out).mono ?_); (case sideT => exact Go.Proofs.YtpfbiopcfbokbaaDoor.MRead.tabs2_below HTab.out (by repeat (first | (with_reducible first|exact HB.out|apply vA_|apply vN_|apply vD_ | refine vS_ ?_ GE241.out | refine vS_ ?_ GE250.out) | exact HB.out))); rintro e w83 ⟨rfl, hb⟩; refine ⟨_, rfl, ?_⟩; have n0_ := Aside0.mk (Kd.R_below (by (with_reducible repeat first|apply rA_|apply rN_|apply rD_); exact HO_4.out) hb); have n1_ := Aside0.mk (blk_below (by (with_reducible repeat first|apply qN_|apply qD_|apply qA_); exact BK241.out) hb); have n2_ := Aside0.mk (blk_below (by (with_reducible repeat first|apply qN_|apply qD_|apply qA_); exact BK250.out) hb); have n3_ := Aside0.mk (below_step (by repeat (first | (with_reducible first|exact HB.out|apply vA_|apply vN_|apply vD_ | refine vS_ ?_ GE241.out | refine vS_ ?_ GE250.out) | exact HB.out)) hb); clear HO_4; clear BK241; clear BK250; clear HB; have HO_4 := n0_; have BK241 := n1_; have BK250 := n2_; have HB := n3_; clear n0_ n1_ n2_ n3_; (try clear hb); (try clear hb2); (try clear hk); (try clear hi); have hcz84_0 : w83.cell? ⟨gb241, 0, none⟩ = some (.int .i64 0) := (blk_cell BK241.out 0).trans rfl; have hcz84_1 : w83.cell? ⟨gb241, 1, none⟩ = some (.int .i64 0) := (blk_cell BK241.out 1).trans rfl; have hcz84_2 : w83.cell? ⟨gb241, 2, none⟩ = some (.int .i64 0) := (blk_cell BK241.out 2).trans rfl; have hcz84_3 : w83.cell? ⟨gb241, 3, none⟩ = some (.float .f64 0) := (blk_cell BK241.out 3).trans rfl; have hfz84_0 := blk_frozen BK241.out 0; have hfz84_1 := blk_frozen BK241.out 1; have hfz84_2 := blk_frozen BK241.out 2; have hfz84_3 := blk_frozen BK241.out 3))
                              refine bodyPost_ret (results_ct rfl _ _ gb241 38 #[.int .i64 0, .int .i64 0, .int .i64 0, .float .f64 0] (0, 0) _ rfl (by (with_reducible repeat first|apply qN_|apply qD_|apply qA_); refine blk_put (cs := #[.int .i64 0, .int .i64 0, .int .i64 0, .float .f64 0]) ?_ 3 _ rfl; (with_reducible repeat first|apply qN_|apply qD_|apply qA_); refine blk_put (cs := #[.int .i64 0, .int .i64 0, .int .i64 0, .float .f64 0]) ?_ 2 _ rfl; (with_reducible repeat first|apply qN_|apply qD_|apply qA_); refine blk_put (cs := #[.int .i64 0, .int .i64 0, .int .i64 0, .float .f64 0]) ?_ 1 _ rfl; (with_reducible repeat first|apply qN_|apply qD_|apply qA_); refine blk_put (cs := #[.int .i64 0, .int .i64 0, .int .i64 0, .float .f64 0]) ?_ 0 _ rfl; (with_reducible repeat first|apply qN_|apply qD_|apply qA_); exact BK241.out) Tryd.underlying38 rfl (by kernel_rfl)) rfl ?_
                              exact ⟨by first | rfl | (simp [errW_none, errW_some] <;> rfl) | (simp only [← hji6]; first | rfl | (simp [errW_none, errW_some] <;> rfl)) | (simp [*, errW_none, errW_some] <;> rfl), by repeat (first | (with_reducible first|exact HB.out|apply vA_|apply vN_|apply vD_ | refine vS_ ?_ GE241.out | refine vS_ ?_ GE250.out) | exact HB.out)⟩
                          · replace c74 := Bool.eq_false_iff.mpr c74
                            subst c74
                            have H1 : (some (0, 0, 0, 0, false)) = some (r1, r2, r3, r4, r5) := by rw [if_neg (show ¬ (false = true) by decide)] at H; exact H
                            clear H
                            have H := H1
                            clear H1
                            simp only [Option.some.injEq, Prod.mk.injEq] at H
                            obtain ⟨rfl, rfl, rfl, rfl, rfl⟩ := H
                            have hnb85 := NB250_241.out
                            have hnc85 := NB241_250.out
                            have hcz86_0 : wc.cell? ⟨gb250, 0, none⟩ = some (.int .i64 ji6) := (blk_cell BK250.out 0).trans rfl
                            have hcz86_1 : wc.cell? ⟨gb250, 1, none⟩ = some (.int .i64 x251001_37) := (blk_cell BK250.out 1).trans rfl
                            have hcz86_2 : wc.cell? ⟨gb250, 2, none⟩ = some (.int .i64 0) := (blk_cell BK250.out 2).trans rfl
                            have hcz86_3 : wc.cell? ⟨gb250, 3, none⟩ = some (.float .f64 x251003_24) := (blk_cell BK250.out 3).trans rfl
                            have hfz86_0 := blk_frozen BK250.out 0
                            have hfz86_1 := blk_frozen BK250.out 1
                            have hfz86_2 := blk_frozen BK250.out 2
                            have hfz86_3 := blk_frozen BK250.out 3
                            go_wp2_with (first | ((with_reducible refine gate_callee (f := 45) rfl ?_); refine goesL_ (some 69) rfl rfl Tryd.func45 (by kernel_rfl) rfl #[.agg #[.int .i64 ji6, .int .i64 x251001_37, .int .i64 0, .float .f64 x251003_24]] rfl (by (try simp only [List.map_toArray, List.map_cons, List.map_nil]); first | done | (simp only [hji6]; rfl) | rfl | (simp only [List.length_drop, List.length_take]; rfl)) ?_; (with_reducible refine (impl_OpText.calls (hT := ?sideT) kj44 ji6 x251001_37 0 x251003_24 t264 false _ A73.out).mono ?_); (case sideT => exact Go.Proofs.YtpfbiopcfbokbaaDoor.MRead.tabs2_below HTab.out (by repeat (first | (with_reducible first|exact HB.out|apply vA_|apply vN_|apply vD_ | refine vS_ ?_ GE241.out | refine vS_ ?_ GE250.out) | exact HB.out))); rintro e w87 ⟨rfl, hb⟩; refine ⟨_, rfl, ?_⟩; have n0_ := Aside0.mk (Kd.R_below (by (with_reducible repeat first|apply rA_|apply rN_|apply rD_); exact HO_4.out) hb); have n1_ := Aside0.mk (blk_below (by (with_reducible repeat first|apply qN_|apply qD_|apply qA_); exact BK241.out) hb); have n2_ := Aside0.mk (blk_below (by (with_reducible repeat first|apply qN_|apply qD_|apply qA_); exact BK250.out) hb); have n3_ := Aside0.mk (below_step (by repeat (first | (with_reducible first|exact HB.out|apply vA_|apply vN_|apply vD_ | refine vS_ ?_ GE241.out | refine vS_ ?_ GE250.out) | exact HB.out)) hb); clear HO_4; clear BK241; clear BK250; clear HB; have HO_4 := n0_; have BK241 := n1_; have BK250 := n2_; have HB := n3_; clear n0_ n1_ n2_ n3_; (try clear hb); (try clear hb2); (try clear hk); (try clear hi); have hcz88_0 : w87.cell? ⟨gb241, 0, none⟩ = some (.int .i64 0) := (blk_cell BK241.out 0).trans rfl; have hcz88_1 : w87.cell? ⟨gb241, 1, none⟩ = some (.int .i64 0) := (blk_cell BK241.out 1).trans rfl; have hcz88_2 : w87.cell? ⟨gb241, 2, none⟩ = some (.int .i64 0) := (blk_cell BK241.out 2).trans rfl; have hcz88_3 : w87.cell? ⟨gb241, 3, none⟩ = some (.float .f64 0) := (blk_cell BK241.out 3).trans rfl; have hfz88_0 := blk_frozen BK241.out 0; have hfz88_1 := blk_frozen BK241.out 1; have hfz88_2 := blk_frozen BK241.out 2; have hfz88_3 := blk_frozen BK241.out 3))
                            refine bodyPost_ret (results_ct rfl _ _ gb241 38 #[.int .i64 0, .int .i64 0, .int .i64 0, .float .f64 0] (0, 0) _ rfl (by (with_reducible repeat first|apply qN_|apply qD_|apply qA_); refine blk_put (cs := #[.int .i64 0, .int .i64 0, .int .i64 0, .float .f64 0]) ?_ 3 _ rfl; (with_reducible repeat first|apply qN_|apply qD_|apply qA_); refine blk_put (cs := #[.int .i64 0, .int .i64 0, .int .i64 0, .float .f64 0]) ?_ 2 _ rfl; (with_reducible repeat first|apply qN_|apply qD_|apply qA_); refine blk_put (cs := #[.int .i64 0, .int .i64 0, .int .i64 0, .float .f64 0]) ?_ 1 _ rfl; (with_reducible repeat first|apply qN_|apply qD_|apply qA_); refine blk_put (cs := #[.int .i64 0, .int .i64 0, .int .i64 0, .float .f64 0]) ?_ 0 _ rfl; (with_reducible repeat first|apply qN_|apply qD_|apply qA_); exact BK241.out) Tryd.underlying38 rfl (by kernel_rfl)) rfl ?_
                            exact ⟨by first | rfl | (simp [errW_none, errW_some] <;> rfl) | (simp only [← hji6]; first | rfl | (simp [errW_none, errW_some] <;> rfl)) | (simp [*, errW_none, errW_some] <;> rfl), by repeat (first | (with_reducible first|exact HB.out|apply vA_|apply vN_|apply vD_ | refine vS_ ?_ GE241.out | refine vS_ ?_ GE250.out) | exact HB.out)⟩
  · rw [if_neg c4] at H
    exact absurd H (by simp)

end Go.Proofs.YtpfbiopcfbokbaaDoor.GReadOp

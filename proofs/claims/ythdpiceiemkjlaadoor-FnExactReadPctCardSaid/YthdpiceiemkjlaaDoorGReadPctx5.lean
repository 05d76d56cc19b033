-- Printed by wip/tools/print2.py out of the translation: walks and plain functions; Lean checks them.
import Derived.Test.YthdpiceiemkjlaaDoorGReadPctx0
import Derived.Test.YthdpiceiemkjlaaDoorGReadPctx2
import Derived.Test.YthdpiceiemkjlaaDoorGReadPctx4
namespace Go.Proofs.YthdpiceiemkjlaaDoor.GReadPct
open Go.RowKit Go.Proofs.YthdpiceiemkjlaaDoorW.PrintWords Go.Proofs.YthdpiceiemkjlaaDoorW.PrintLast Go.Proofs.YthdpiceiemkjlaaDoorW.PrintMore
attribute [local go_sem] max2_int min2_int max_two min_two max_three min_three max_four min_four   -- for this text's walks alone
set_option linter.unusedVariables false
set_option linter.unusedSimpArgs false

/-! ### laws_FnExactReadPct: function 4 -/
mutual
def laws_FnExactReadPct.j0 : Nat → ByteArray → Bool → Bool → List Int → List Int → List Int → List Int → Option (Bool)
  | 0, _, _, _, _, _, _, _ => none
  | k + 1, x0, x4, x32, x216000, x216001, x224000, x224001 => if x32 = true then (some false) else ((laws_markPct.f k x224000 x224001 1).bind fun bt225 => ((laws_heldPct.f k bt225.2.1 bt225.2.2 1).bind fun t228 => (if t228 < 0 then (some false) else (if t228 = bt225.1 then ((impl_ReadPct.f k x0).bind fun bt229 => ((laws_eqPct.f k bt229.1 bt229.2.1 x216000 x216001).bind fun t237 => (if t237 = true then (laws_FnExactReadPct.j1 k bt225.1 (bt229.2.2 != x4) bt225.2.1 bt225.2.2) else (laws_FnExactReadPct.j1 k bt225.1 true bt225.2.1 bt225.2.2)))) else (some false)))))
def laws_FnExactReadPct.j1 : Nat → Int → Bool → List Int → List Int → Option (Bool)
  | 0, _, _, _, _ => none
  | k + 1, x7, x57, x224000, x224001 => if x57 = true then (some false) else ((laws_heldPct.f k x224000 x224001 1).bind fun t238 => (if t238 < 0 then (some false) else (if t238 = x7 then (some true) else (some false))))
end
def laws_FnExactReadPct.f (k : Nat) (a0 : ByteArray) : Option (Bool) := if (a0.size : Int) > 1048576 then (some true) else ((spec_ReadPct.f k a0).bind fun bt208 => ((impl_ReadPct.f k a0).bind fun bt216 => ((laws_eqPct.f k bt216.1 bt216.2.1 bt208.1 bt208.2.1).bind fun t224 => (if t224 = true then (laws_FnExactReadPct.j0 k a0 bt208.2.2 (bt216.2.2 != bt208.2.2) bt208.1 bt208.2.1 bt216.1 bt216.2.1) else (laws_FnExactReadPct.j0 k a0 bt208.2.2 true bt208.1 bt208.2.1 bt216.1 bt216.2.1)))))
theorem laws_FnExactReadPct.mono_l : ∀ k, (∀ y0 y1 y2 y3 y4 y5 y6, LeO (laws_FnExactReadPct.j0 k y0 y1 y2 y3 y4 y5 y6) (laws_FnExactReadPct.j0 (k + 1) y0 y1 y2 y3 y4 y5 y6)) ∧ (∀ y0 y1 y2 y3, LeO (laws_FnExactReadPct.j1 k y0 y1 y2 y3) (laws_FnExactReadPct.j1 (k + 1) y0 y1 y2 y3))
  | 0 => ⟨fun _ _ _ _ _ _ _ r h => by simp [laws_FnExactReadPct.j0] at h, fun _ _ _ _ r h => by simp [laws_FnExactReadPct.j1] at h⟩
  | k + 1 => by
    obtain ⟨ih0, ih1⟩ := laws_FnExactReadPct.mono_l k
    refine ⟨?_, ?_⟩
    · intro y0 y1 y2 y3 y4 y5 y6
      unfold laws_FnExactReadPct.j0
      repeat' first
      | (with_reducible exact ih0 _ _ _ _ _ _ _)
      | (with_reducible exact ih1 _ _ _ _)
      | (with_reducible exact impl_ReadPct.mono _ _)
      | (with_reducible exact laws_eqPct.mono _ _ _ _ _)
      | (with_reducible exact laws_heldPct.mono _ _ _ _)
      | (with_reducible exact laws_markPct.mono _ _ _ _)
      | (with_reducible exact spec_ReadPct.mono _ _)
      | (with_reducible exact LeO.refl _)
      | (with_reducible exact LeO.none _)
      | (with_reducible refine LeO.ite ?_ ?_)
      | (with_reducible refine LeO.bind ?_ (fun _ => ?_))
      | exact ih0 _ _ _ _ _ _ _
      | exact ih1 _ _ _ _
      | exact impl_ReadPct.mono _ _
      | exact laws_eqPct.mono _ _ _ _ _
      | exact laws_heldPct.mono _ _ _ _
      | exact laws_markPct.mono _ _ _ _
      | exact spec_ReadPct.mono _ _
      | exact LeO.none _
      | refine LeO.ite ?_ ?_
      | refine LeO.bind ?_ (fun _ => ?_)
    · intro y0 y1 y2 y3
      unfold laws_FnExactReadPct.j1
      repeat' first
      | (with_reducible exact ih0 _ _ _ _ _ _ _)
      | (with_reducible exact ih1 _ _ _ _)
      | (with_reducible exact impl_ReadPct.mono _ _)
      | (with_reducible exact laws_eqPct.mono _ _ _ _ _)
      | (with_reducible exact laws_heldPct.mono _ _ _ _)
      | (with_reducible exact laws_markPct.mono _ _ _ _)
      | (with_reducible exact spec_ReadPct.mono _ _)
      | (with_reducible exact LeO.refl _)
      | (with_reducible exact LeO.none _)
      | (with_reducible refine LeO.ite ?_ ?_)
      | (with_reducible refine LeO.bind ?_ (fun _ => ?_))
      | exact ih0 _ _ _ _ _ _ _
      | exact ih1 _ _ _ _
      | exact impl_ReadPct.mono _ _
      | exact laws_eqPct.mono _ _ _ _ _
      | exact laws_heldPct.mono _ _ _ _
      | exact laws_markPct.mono _ _ _ _
      | exact spec_ReadPct.mono _ _
      | exact LeO.none _
      | refine LeO.ite ?_ ?_
      | refine LeO.bind ?_ (fun _ => ?_)
theorem laws_FnExactReadPct.mono : ∀ a0 k, LeO (laws_FnExactReadPct.f k a0) (laws_FnExactReadPct.f (k + 1) a0) := by
  intro a0 k
  obtain ⟨ih0, ih1⟩ := laws_FnExactReadPct.mono_l k
  unfold laws_FnExactReadPct.f
  repeat' first
      | (with_reducible exact ih0 _ _ _ _ _ _ _)
      | (with_reducible exact ih1 _ _ _ _)
      | (with_reducible exact impl_ReadPct.mono _ _)
      | (with_reducible exact laws_eqPct.mono _ _ _ _ _)
      | (with_reducible exact laws_heldPct.mono _ _ _ _)
      | (with_reducible exact laws_markPct.mono _ _ _ _)
      | (with_reducible exact spec_ReadPct.mono _ _)
      | (with_reducible exact LeO.refl _)
      | (with_reducible exact LeO.none _)
      | (with_reducible refine LeO.ite ?_ ?_)
      | (with_reducible refine LeO.bind ?_ (fun _ => ?_))
      | exact ih0 _ _ _ _ _ _ _
      | exact ih1 _ _ _ _
      | exact impl_ReadPct.mono _ _
      | exact laws_eqPct.mono _ _ _ _ _
      | exact laws_heldPct.mono _ _ _ _
      | exact laws_markPct.mono _ _ _ _
      | exact spec_ReadPct.mono _ _
      | exact LeO.none _
      | refine LeO.ite ?_ ?_
      | refine LeO.bind ?_ (fun _ => ?_)
set_option maxHeartbeats 8000000 in
set_option maxRecDepth 100000 in
theorem laws_FnExactReadPct.calls (k : Nat) (a0 : ByteArray) (r : Bool) (w : World) (hT : Go.Proofs.YthdpiceiemkjlaaDoor.MRead.Tabs2 w) (h : laws_FnExactReadPct.f k a0 = some r) :
    Calls Tryd.prog 4 #[.string a0] w fun e w' => e = .returned (.bool r) ∧ Below w.heap.size w w' := by
  have HTab := Aside0.mk hT
  clear hT
  have hu33 := Tryd.underlying33
  have HB := Aside0.mk (Below.refl w.heap.size w)
  have H : (if (a0.size : Int) > 1048576 then (some true) else ((spec_ReadPct.f k a0).bind fun bt208 => ((impl_ReadPct.f k a0).bind fun bt216 => ((laws_eqPct.f k bt216.1 bt216.2.1 bt208.1 bt208.2.1).bind fun t224 => (if t224 = true then (laws_FnExactReadPct.j0 k a0 bt208.2.2 (bt216.2.2 != bt208.2.2) bt208.1 bt208.2.1 bt216.1 bt216.2.1) else (laws_FnExactReadPct.j0 k a0 bt208.2.2 true bt208.1 bt208.2.1 bt216.1 bt216.2.1)))))) = some r := h
  clear h
  by_cases c2 : (a0.size : Int) > 1048576
  · rw [if_pos c2] at H
    have c2b0 : decide (1048576 < (a0.size : Int)) = true := decide_eq_true c2
    have c2b1 : decide (1048576 < a0.size) = true := decide_eq_true (by omega)
    clear c2
    obtain rfl := Option.some.inj H
    go_enter Tryd.func4, Tryd.ntmps4
    go_wp2
    go_ret
    exact ⟨by first | rfl | (simp [errW_none, errW_some] <;> rfl) | (simp [*, errW_none, errW_some] <;> rfl), by repeat (first | (with_reducible first|exact HB.out|apply vA_|apply vN_|apply vD_) | exact HB.out)⟩
  · rw [if_neg c2] at H
    have c2b0 : decide (1048576 < (a0.size : Int)) = false := decide_eq_false c2
    have c2b1 : decide (1048576 < a0.size) = false := decide_eq_false (by omega)
    clear c2
    replace H := Option.bind_eq_some_iff.mp H
    obtain ⟨⟨t208, t211, t214⟩, A30, H⟩ := H
    replace H : ((impl_ReadPct.f k a0).bind fun bt216 => ((laws_eqPct.f k bt216.1 bt216.2.1 t208 t211).bind fun t224 => (if t224 = true then (laws_FnExactReadPct.j0 k a0 t214 (bt216.2.2 != t214) t208 t211 bt216.1 bt216.2.1) else (laws_FnExactReadPct.j0 k a0 t214 true t208 t211 bt216.1 bt216.2.1)))) = some r := H
    have A3 := Aside0.mk A30
    clear A30
    replace H := Option.bind_eq_some_iff.mp H
    obtain ⟨⟨t216, t219, t222⟩, A40, H⟩ := H
    replace H : ((laws_eqPct.f k t216 t219 t208 t211).bind fun t224 => (if t224 = true then (laws_FnExactReadPct.j0 k a0 t214 (t222 != t214) t208 t211 t216 t219) else (laws_FnExactReadPct.j0 k a0 t214 true t208 t211 t216 t219))) = some r := H
    have A4 := Aside0.mk A40
    clear A40
    have HC5 := Aside0.mk H
    clear H
    go_enter Tryd.func4, Tryd.ntmps4
    go_upto_region 5 with (first | ((with_reducible refine gate_callee (f := 13) rfl ?_); refine goesL_ (some 16) rfl rfl Tryd.func13 (by kernel_rfl) rfl #[.string a0] rfl (by (try simp only [List.map_toArray, List.map_cons, List.map_nil]); first | done | rfl | (simp only [List.length_drop, List.length_take]; rfl)) ?_; (with_reducible refine (spec_ReadPct.calls k a0 t208 t211 t214 _ A3.out).mono ?_); rintro e w6 ⟨v209, v212, rfl, ho0, ho1, hb⟩; refine ⟨_, rfl, ?_⟩; have n0_ := Aside0.mk (Kd.R_lower ho0 (below_size (by repeat (first | (with_reducible first|exact HB.out|apply vA_|apply vN_|apply vD_) | exact HB.out)))); have n1_ := Aside0.mk (Kd.R_lower ho1 (below_size (by repeat (first | (with_reducible first|exact HB.out|apply vA_|apply vN_|apply vD_) | exact HB.out)))); have n2_ := Aside0.mk (below_step (by repeat (first | (with_reducible first|exact HB.out|apply vA_|apply vN_|apply vD_) | exact HB.out)) hb); clear HB; have HO210 := n0_; have HO213 := n1_; have HB := n2_; clear n0_ n1_ n2_; (try clear hb); (try clear hb2); (try clear hk); (try clear hi); (try clear ho0); (try clear ho1)) | ((with_reducible refine gate_dst (N := 3) rfl ?_); refine box_event ?hg (N := 3) ?hd (cs := #[.slice none 0 0, .slice none 0 0]) (t := 33) ?hr ?_; (case hd => rfl); (case hg => rfl); (case hr => first | (go_simp; done) | (go_simp; rfl)); intro gb215 hg w7 hbox hb; have n0_ := Aside0.mk (Kd.R_below (by (with_reducible repeat first|apply rA_|apply rN_|apply rD_); exact HO210.out) hb); have n1_ := Aside0.mk (Kd.R_below (by (with_reducible repeat first|apply rA_|apply rN_|apply rD_); exact HO213.out) hb); have n2_ := Aside0.mk (below_step (by repeat (first | (with_reducible first|exact HB.out|apply vA_|apply vN_|apply vD_) | exact HB.out)) hb); have n3_ := Aside0.mk (hbox); have n4_ := Aside0.mk ((by rw [hg]; exact (below_size (by repeat (first | (with_reducible first|exact HB.out|apply vA_|apply vN_|apply vD_) | exact HB.out))) : w.heap.size ≤ gb215)); have n5_ := Aside0.mk ((by rw [hg]; exact (below_size (by repeat (first | (with_reducible first|exact HB.out|apply vA_|apply vN_|apply vD_) | exact HB.out))) : w.heap.size ≤ gb215)); clear HO210; clear HO213; clear HB; have HO210 := n0_; have HO213 := n1_; have HB := n2_; have BK215 := n3_; have GW215 := n4_; have GE215 := n5_; clear n0_ n1_ n2_ n3_ n4_ n5_; clear hb hbox hg; obtain ⟨Ao8, co8, eo8⟩ := Kd.R_slice HO210.out; subst eo8; have hcz9_0 : w7.cell? ⟨gb215, 0, none⟩ = some (.slice none 0 0) := (blk_cell BK215.out 0).trans rfl; have hcz9_1 : w7.cell? ⟨gb215, 1, none⟩ = some (.slice none 0 0) := (blk_cell BK215.out 1).trans rfl; have hfz9_0 := blk_frozen BK215.out 0; have hfz9_1 := blk_frozen BK215.out 1; obtain ⟨Ao10, co10, eo10⟩ := Kd.R_slice HO213.out; subst eo10) | ((with_reducible refine gate_callee (f := 14) rfl ?_); refine goesL_ (some 21) rfl rfl Tryd.func14 (by kernel_rfl) rfl #[.string a0] rfl (by (try simp only [List.map_toArray, List.map_cons, List.map_nil]); first | done | rfl | (simp only [List.length_drop, List.length_take]; rfl)) ?_; (with_reducible refine (impl_ReadPct.calls (hT := ?sideT) k a0 t216 t219 t222 _ A4.out).mono ?_); (case sideT => exact Go.Proofs.YthdpiceiemkjlaaDoor.MRead.tabs2_below HTab.out (by repeat (first | (with_reducible first|exact HB.out|apply vA_|apply vN_|apply vD_ | refine vS_ ?_ GE215.out) | exact HB.out))); rintro e w11 ⟨v217, v220, rfl, ho0, ho1, hb⟩; refine ⟨_, rfl, ?_⟩; have n0_ := Aside0.mk (Kd.R_mono (Kd.R_told (Kd.R_told (Kd.R_old (by (with_reducible repeat first|apply rA_|apply rN_|apply rD_); exact (Kd.R_mono (Kd.R_far (p := ⟨gb215, 1, none⟩) (Kd.R_far (p := ⟨gb215, 0, none⟩) (Kd.R_types HO210.out BK215.out (by decide)) (fun _ hk => hk.2) (.slice Ao8 t208.length co8)) (fun _ hk => hk.2) (.slice Ao10 t211.length co10)) (fun _ h_ => h_.1))) hb) (by first | exact Kd.R_base ho0 | exact Kd.S_base ho0 | exact Kd.R_base ho0)) (by first | exact Kd.R_base ho1 | exact Kd.S_base ho1 | exact Kd.R_base ho1)) (fun _ h_ => h_.1)); have n1_ := Aside0.mk (Kd.R_mono (Kd.R_told (Kd.R_told (Kd.R_old (by (with_reducible repeat first|apply rA_|apply rN_|apply rD_); exact (Kd.R_mono (Kd.R_far (p := ⟨gb215, 1, none⟩) (Kd.R_far (p := ⟨gb215, 0, none⟩) (Kd.R_types HO213.out BK215.out (by decide)) (fun _ hk => hk.2) (.slice Ao8 t208.length co8)) (fun _ hk => hk.2) (.slice Ao10 t211.length co10)) (fun _ h_ => h_.1))) hb) (by first | exact Kd.R_base ho0 | exact Kd.S_base ho0 | exact Kd.R_base ho0)) (by first | exact Kd.R_base ho1 | exact Kd.S_base ho1 | exact Kd.R_base ho1)) (fun _ h_ => h_.1)); have n2_ := Aside0.mk (Kd.R_lower (Kd.R_new' (Kd.R_new' ho0 (Kd.R_lt (by (with_reducible repeat first|apply rA_|apply rN_|apply rD_); exact (Kd.R_mono (Kd.R_far (p := ⟨gb215, 1, none⟩) (Kd.R_far (p := ⟨gb215, 0, none⟩) (Kd.R_types HO210.out BK215.out (by decide)) (fun _ hk => hk.2) (.slice Ao8 t208.length co8)) (fun _ hk => hk.2) (.slice Ao10 t211.length co10)) (fun _ h_ => h_.1))))) (Kd.R_lt (by (with_reducible repeat first|apply rA_|apply rN_|apply rD_); exact (Kd.R_mono (Kd.R_far (p := ⟨gb215, 1, none⟩) (Kd.R_far (p := ⟨gb215, 0, none⟩) (Kd.R_types HO213.out BK215.out (by decide)) (fun _ hk => hk.2) (.slice Ao8 t208.length co8)) (fun _ hk => hk.2) (.slice Ao10 t211.length co10)) (fun _ h_ => h_.1))))) (below_size (by repeat (first | (with_reducible first|exact HB.out|apply vA_|apply vN_|apply vD_ | refine vS_ ?_ GE215.out) | exact HB.out)))); have n3_ := Aside0.mk (Kd.R_lower (Kd.R_new' (Kd.R_new' ho1 (Kd.R_lt (by (with_reducible repeat first|apply rA_|apply rN_|apply rD_); exact (Kd.R_mono (Kd.R_far (p := ⟨gb215, 1, none⟩) (Kd.R_far (p := ⟨gb215, 0, none⟩) (Kd.R_types HO210.out BK215.out (by decide)) (fun _ hk => hk.2) (.slice Ao8 t208.length co8)) (fun _ hk => hk.2) (.slice Ao10 t211.length co10)) (fun _ h_ => h_.1))))) (Kd.R_lt (by (with_reducible repeat first|apply rA_|apply rN_|apply rD_); exact (Kd.R_mono (Kd.R_far (p := ⟨gb215, 1, none⟩) (Kd.R_far (p := ⟨gb215, 0, none⟩) (Kd.R_types HO213.out BK215.out (by decide)) (fun _ hk => hk.2) (.slice Ao8 t208.length co8)) (fun _ hk => hk.2) (.slice Ao10 t211.length co10)) (fun _ h_ => h_.1))))) (below_size (by repeat (first | (with_reducible first|exact HB.out|apply vA_|apply vN_|apply vD_ | refine vS_ ?_ GE215.out) | exact HB.out)))); have n4_ := Aside0.mk (blk_below (g := gb215) (o := .cells #[.slice Ao8 t208.length co8, .slice Ao10 t211.length co10] 33 (0, 0)) (by (with_reducible repeat first|apply qN_|apply qD_|apply qA_); refine blk_put (cs := #[.slice Ao8 t208.length co8, .slice none 0 0]) ?_ 1 _ rfl; (with_reducible repeat first|apply qN_|apply qD_|apply qA_); refine blk_put (cs := #[.slice none 0 0, .slice none 0 0]) ?_ 0 _ rfl; (with_reducible repeat first|apply qN_|apply qD_|apply qA_); exact BK215.out) hb); have n5_ := Aside0.mk (below_step (by repeat (first | (with_reducible first|exact HB.out|apply vA_|apply vN_|apply vD_ | refine vS_ ?_ GE215.out) | exact HB.out)) hb); clear HO210; clear HO213; clear BK215; clear HB; have HO210 := n0_; have HO213 := n1_; have HO218 := n2_; have HO221 := n3_; have BK215 := n4_; have HB := n5_; clear n0_ n1_ n2_ n3_ n4_ n5_; (try clear hb); (try clear hb2); (try clear hk); (try clear hi); (try clear ho0); (try clear ho1)) | ((with_reducible refine gate_dst (N := 5) rfl ?_); refine box_event ?hg (N := 5) ?hd (cs := #[.slice none 0 0, .slice none 0 0]) (t := 33) ?hr ?_; (case hd => rfl); (case hg => rfl); (case hr => first | (go_simp; done) | (go_simp; rfl)); intro gb223 hg w12 hbox hb; have n0_ := Aside0.mk (Kd.R_below (by (with_reducible repeat first|apply rA_|apply rN_|apply rD_); exact HO210.out) hb); have n1_ := Aside0.mk (Kd.R_below (by (with_reducible repeat first|apply rA_|apply rN_|apply rD_); exact HO213.out) hb); have n2_ := Aside0.mk (Kd.R_below (by (with_reducible repeat first|apply rA_|apply rN_|apply rD_); exact HO218.out) hb); have n3_ := Aside0.mk (Kd.R_below (by (with_reducible repeat first|apply rA_|apply rN_|apply rD_); exact HO221.out) hb); have n4_ := Aside0.mk (blk_below (by (with_reducible repeat first|apply qN_|apply qD_|apply qA_); exact BK215.out) hb); have n5_ := Aside0.mk (below_step (by repeat (first | (with_reducible first|exact HB.out|apply vA_|apply vN_|apply vD_ | refine vS_ ?_ GE215.out) | exact HB.out)) hb); have n6_ := Aside0.mk (hbox); have n7_ := Aside0.mk ((by rw [hg]; exact (below_size (by repeat (first | (with_reducible first|exact HB.out|apply vA_|apply vN_|apply vD_ | refine vS_ ?_ GE215.out) | exact HB.out))) : w.heap.size ≤ gb223)); have n8_ := Aside0.mk ((by rw [hg]; exact (below_size (by repeat (first | (with_reducible first|exact HB.out|apply vA_|apply vN_|apply vD_ | refine vS_ ?_ GE215.out) | exact HB.out))) : w.heap.size ≤ gb223)); have n9_ := Aside0.mk ((by rw [hg]; exact Nat.ne_of_lt (blk_lt (g := gb215) (o := .cells #[.slice Ao8 t208.length co8, .slice Ao10 t211.length co10] 33 (0, 0)) (by (with_reducible repeat first|apply qN_|apply qD_|apply qA_); exact BK215.out)) : gb215 ≠ gb223)); have n10_ := Aside0.mk ((by rw [hg]; exact Nat.ne_of_gt (blk_lt (g := gb215) (o := .cells #[.slice Ao8 t208.length co8, .slice Ao10 t211.length co10] 33 (0, 0)) (by (with_reducible repeat first|apply qN_|apply qD_|apply qA_); exact BK215.out)) : gb223 ≠ gb215)); clear HO210; clear HO213; clear HO218; clear HO221; clear BK215; clear HB; have HO210 := n0_; have HO213 := n1_; have HO218 := n2_; have HO221 := n3_; have BK215 := n4_; have HB := n5_; have BK223 := n6_; have GW223 := n7_; have GE223 := n8_; have NB215_223 := n9_; have NB223_215 := n10_; clear n0_ n1_ n2_ n3_ n4_ n5_ n6_ n7_ n8_ n9_ n10_; clear hb hbox hg; obtain ⟨Ao13, co13, eo13⟩ := Kd.R_slice HO218.out; subst eo13; have hnb14 := NB223_215.out; have hnc14 := NB215_223.out; have hcz15_0 : w12.cell? ⟨gb223, 0, none⟩ = some (.slice none 0 0) := (blk_cell BK223.out 0).trans rfl; have hcz15_1 : w12.cell? ⟨gb223, 1, none⟩ = some (.slice none 0 0) := (blk_cell BK223.out 1).trans rfl; have hfz15_0 := blk_frozen BK223.out 0; have hfz15_1 := blk_frozen BK223.out 1; obtain ⟨Ao16, co16, eo16⟩ := Kd.R_slice HO221.out; subst eo16))
    (try simp only [Act.put, List.setIfInBounds_toArray, List.set_cons_zero, List.set_cons_succ])
    go_cut [32] (fun v32 wc => ∃ (kq : Nat) (x32_4 : Bool), v32 = .bool x32_4 ∧ Aside0 (laws_FnExactReadPct.j0 kq a0 t214 x32_4 t208 t211 t216 t219 = some r) ∧ Aside0 (kq ≤ k) ∧ Aside0 (Kd.R (Kd.int .i64) 3 wc w.heap.size (fun k_ => some k_ ≠ ((.slice Ao10 t211.length co10) : Value).ownBlock ∧ some k_ ≠ ((.slice Ao13 t216.length co13) : Value).ownBlock ∧ some k_ ≠ ((.slice Ao16 t219.length co16) : Value).ownBlock) (.slice Ao8 t208.length co8) t208) ∧ Aside0 (Kd.R (Kd.int .i64) 3 wc w.heap.size (fun k_ => some k_ ≠ ((.slice Ao8 t208.length co8) : Value).ownBlock ∧ some k_ ≠ ((.slice Ao13 t216.length co13) : Value).ownBlock ∧ some k_ ≠ ((.slice Ao16 t219.length co16) : Value).ownBlock) (.slice Ao10 t211.length co10) t211) ∧ Aside0 (Kd.R (Kd.int .i64) 3 wc w.heap.size (fun k_ => some k_ ≠ ((.slice Ao8 t208.length co8) : Value).ownBlock ∧ some k_ ≠ ((.slice Ao10 t211.length co10) : Value).ownBlock ∧ some k_ ≠ ((.slice Ao16 t219.length co16) : Value).ownBlock) (.slice Ao13 t216.length co13) t216) ∧ Aside0 (Kd.R (Kd.int .i64) 3 wc w.heap.size (fun k_ => some k_ ≠ ((.slice Ao8 t208.length co8) : Value).ownBlock ∧ some k_ ≠ ((.slice Ao10 t211.length co10) : Value).ownBlock ∧ some k_ ≠ ((.slice Ao13 t216.length co13) : Value).ownBlock) (.slice Ao16 t219.length co16) t219) ∧ Aside0 (wc.heap[gb215]? = some (.cells #[(.slice Ao8 t208.length co8), (.slice Ao10 t211.length co10)] 33 (0, 0))) ∧ Aside0 (wc.heap[gb223]? = some (.cells #[(.slice Ao13 t216.length co13), (.slice Ao16 t219.length co16)] 33 (0, 0))) ∧ Aside0 (Below w.heap.size w wc))
    case first =>
      have H := HC5.out
      clear HC5
      replace H := Option.bind_eq_some_iff.mp H
      obtain ⟨t224, A170, H⟩ := H
      replace H : (if t224 = true then (laws_FnExactReadPct.j0 k a0 t214 (t222 != t214) t208 t211 t216 t219) else (laws_FnExactReadPct.j0 k a0 t214 true t208 t211 t216 t219)) = some r := H
      have A17 := Aside0.mk A170
      clear A170
      by_cases c18 : t224 = true
      · subst c18
        have H1 : (laws_FnExactReadPct.j0 k a0 t214 (t222 != t214) t208 t211 t216 t219) = some r := by rw [if_pos rfl] at H; exact H
        clear H
        have H := H1
        clear H1
        have H' := Aside0.mk H
        clear H
        have hnb19 := NB223_215.out
        have hnc19 := NB215_223.out
        have hcz20_0 : w12.cell? ⟨gb223, 0, none⟩ = some (.slice none 0 0) := (blk_cell BK223.out 0).trans rfl
        have hcz20_1 : w12.cell? ⟨gb223, 1, none⟩ = some (.slice none 0 0) := (blk_cell BK223.out 1).trans rfl
        have hfz20_0 := blk_frozen BK223.out 0
        have hfz20_1 := blk_frozen BK223.out 1
        have hcz21_0 : w12.cell? ⟨gb215, 0, none⟩ = some (.slice Ao8 t208.length co8) := (blk_cell BK215.out 0).trans rfl
        have hcz21_1 : w12.cell? ⟨gb215, 1, none⟩ = some (.slice Ao10 t211.length co10) := (blk_cell BK215.out 1).trans rfl
        have hfz21_0 := blk_frozen BK215.out 0
        have hfz21_1 := blk_frozen BK215.out 1
        go_wp2_with (first | ((with_reducible refine gate_callee (f := 15) rfl ?_); refine goesL_ (some 26) rfl rfl Tryd.func15 (by kernel_rfl) rfl #[.agg #[.slice Ao13 t216.length co13, .slice Ao16 t219.length co16], .agg #[.slice Ao8 t208.length co8, .slice Ao10 t211.length co10]] rfl (by (try simp only [List.map_toArray, List.map_cons, List.map_nil]); first | done | rfl | (simp only [List.length_drop, List.length_take]; rfl)) ?_; (with_reducible refine (laws_eqPct.calls k _ _ t216 _ _ t219 _ _ t208 _ _ t211 true _ ?side1 ?side2 ?side3 ?side4 ?side5 ?side6 ?side7 ?side8 A17.out).mono ?_); (case side1 => refine (Kd.R_reads' (e := 3) (base := w.heap.size) (ok := fun k_ => ((some k_ ≠ (.slice Ao16 t219.length co16 : Value).ownBlock ∧ some k_ ≠ (.slice Ao8 t208.length co8 : Value).ownBlock) ∧ some k_ ≠ (.slice Ao10 t211.length co10 : Value).ownBlock)) (n := t216.length) (c := co13) ?_).2.2; exact (by (with_reducible repeat first|apply rA_|apply rN_|apply rD_); exact (Kd.R_mono (Kd.R_far (p := ⟨gb223, 1, none⟩) (Kd.R_far (p := ⟨gb223, 0, none⟩) (Kd.R_types HO218.out BK223.out (by decide)) (fun _ hk => hk.2) (.slice Ao13 t216.length co13)) (fun _ hk => hk.2) (.slice Ao16 t219.length co16)) (fun _ h_ => h_.1)))); (case side2 => exact (Kd.R_reads' HO218.out).2.1); (case side3 => refine (Kd.R_reads' (e := 3) (base := w.heap.size) (ok := fun k_ => ((some k_ ≠ (.slice Ao13 t216.length co13 : Value).ownBlock ∧ some k_ ≠ (.slice Ao8 t208.length co8 : Value).ownBlock) ∧ some k_ ≠ (.slice Ao10 t211.length co10 : Value).ownBlock)) (n := t219.length) (c := co16) ?_).2.2; exact (by (with_reducible repeat first|apply rA_|apply rN_|apply rD_); exact (Kd.R_mono (Kd.R_far (p := ⟨gb223, 1, none⟩) (Kd.R_far (p := ⟨gb223, 0, none⟩) (Kd.R_types HO221.out BK223.out (by decide)) (fun _ hk => hk.2) (.slice Ao13 t216.length co13)) (fun _ hk => hk.2) (.slice Ao16 t219.length co16)) (fun _ h_ => h_.1)))); (case side4 => exact (Kd.R_reads' HO221.out).2.1); (case side5 => refine (Kd.R_reads' (e := 3) (base := w.heap.size) (ok := fun k_ => ((some k_ ≠ (.slice Ao10 t211.length co10 : Value).ownBlock ∧ some k_ ≠ (.slice Ao13 t216.length co13 : Value).ownBlock) ∧ some k_ ≠ (.slice Ao16 t219.length co16 : Value).ownBlock)) (n := t208.length) (c := co8) ?_).2.2; exact (by (with_reducible repeat first|apply rA_|apply rN_|apply rD_); exact (Kd.R_mono (Kd.R_far (p := ⟨gb223, 1, none⟩) (Kd.R_far (p := ⟨gb223, 0, none⟩) (Kd.R_types HO210.out BK223.out (by decide)) (fun _ hk => hk.2) (.slice Ao13 t216.length co13)) (fun _ hk => hk.2) (.slice Ao16 t219.length co16)) (fun _ h_ => h_.1)))); (case side6 => exact (Kd.R_reads' HO210.out).2.1); (case side7 => refine (Kd.R_reads' (e := 3) (base := w.heap.size) (ok := fun k_ => ((some k_ ≠ (.slice Ao8 t208.length co8 : Value).ownBlock ∧ some k_ ≠ (.slice Ao13 t216.length co13 : Value).ownBlock) ∧ some k_ ≠ (.slice Ao16 t219.length co16 : Value).ownBlock)) (n := t211.length) (c := co10) ?_).2.2; exact (by (with_reducible repeat first|apply rA_|apply rN_|apply rD_); exact (Kd.R_mono (Kd.R_far (p := ⟨gb223, 1, none⟩) (Kd.R_far (p := ⟨gb223, 0, none⟩) (Kd.R_types HO213.out BK223.out (by decide)) (fun _ hk => hk.2) (.slice Ao13 t216.length co13)) (fun _ hk => hk.2) (.slice Ao16 t219.length co16)) (fun _ h_ => h_.1)))); (case side8 => exact (Kd.R_reads' HO213.out).2.1); rintro e w22 ⟨rfl, hb⟩; refine ⟨_, rfl, ?_⟩; have n0_ := Aside0.mk (Kd.R_below (by (with_reducible repeat first|apply rA_|apply rN_|apply rD_); exact (Kd.R_mono (Kd.R_far (p := ⟨gb223, 1, none⟩) (Kd.R_far (p := ⟨gb223, 0, none⟩) (Kd.R_types HO210.out BK223.out (by decide)) (fun _ hk => hk.2) (.slice Ao13 t216.length co13)) (fun _ hk => hk.2) (.slice Ao16 t219.length co16)) (fun _ h_ => h_.1))) hb); have n1_ := Aside0.mk (Kd.R_below (by (with_reducible repeat first|apply rA_|apply rN_|apply rD_); exact (Kd.R_mono (Kd.R_far (p := ⟨gb223, 1, none⟩) (Kd.R_far (p := ⟨gb223, 0, none⟩) (Kd.R_types HO213.out BK223.out (by decide)) (fun _ hk => hk.2) (.slice Ao13 t216.length co13)) (fun _ hk => hk.2) (.slice Ao16 t219.length co16)) (fun _ h_ => h_.1))) hb); have n2_ := Aside0.mk (Kd.R_below (by (with_reducible repeat first|apply rA_|apply rN_|apply rD_); exact (Kd.R_mono (Kd.R_far (p := ⟨gb223, 1, none⟩) (Kd.R_far (p := ⟨gb223, 0, none⟩) (Kd.R_types HO218.out BK223.out (by decide)) (fun _ hk => hk.2) (.slice Ao13 t216.length co13)) (fun _ hk => hk.2) (.slice Ao16 t219.length co16)) (fun _ h_ => h_.1))) hb); have n3_ := Aside0.mk (Kd.R_below (by (with_reducible repeat first|apply rA_|apply rN_|apply rD_); exact (Kd.R_mono (Kd.R_far (p := ⟨gb223, 1, none⟩) (Kd.R_far (p := ⟨gb223, 0, none⟩) (Kd.R_types HO221.out BK223.out (by decide)) (fun _ hk => hk.2) (.slice Ao13 t216.length co13)) (fun _ hk => hk.2) (.slice Ao16 t219.length co16)) (fun _ h_ => h_.1))) hb); have n4_ := Aside0.mk (blk_below (g := gb215) (o := .cells #[.slice Ao8 t208.length co8, .slice Ao10 t211.length co10] 33 (0, 0)) (by (with_reducible repeat first|apply qN_|apply qD_|apply qA_); refine blk_far ?_ NB215_223.out _; (with_reducible repeat first|apply qN_|apply qD_|apply qA_); refine blk_far ?_ NB215_223.out _; (with_reducible repeat first|apply qN_|apply qD_|apply qA_); exact BK215.out) hb); have n5_ := Aside0.mk (blk_below (g := gb223) (o := .cells #[.slice Ao13 t216.length co13, .slice Ao16 t219.length co16] 33 (0, 0)) (by (with_reducible repeat first|apply qN_|apply qD_|apply qA_); refine blk_put (cs := #[.slice Ao13 t216.length co13, .slice none 0 0]) ?_ 1 _ rfl; (with_reducible repeat first|apply qN_|apply qD_|apply qA_); refine blk_put (cs := #[.slice none 0 0, .slice none 0 0]) ?_ 0 _ rfl; (with_reducible repeat first|apply qN_|apply qD_|apply qA_); exact BK223.out) hb); have n6_ := Aside0.mk (below_step (by repeat (first | (with_reducible first|exact HB.out|apply vA_|apply vN_|apply vD_ | refine vS_ ?_ GE215.out | refine vS_ ?_ GE223.out) | exact HB.out)) hb); clear HO210; clear HO213; clear HO218; clear HO221; clear BK215; clear BK223; clear HB; have HO210 := n0_; have HO213 := n1_; have HO218 := n2_; have HO221 := n3_; have BK215 := n4_; have BK223 := n5_; have HB := n6_; clear n0_ n1_ n2_ n3_ n4_ n5_ n6_; (try clear hb); (try clear hb2); (try clear hk); (try clear hi)))
        go_meet
        case rel => exact ⟨_, ((t222 != t214)), (by first | rfl | (simp; done) | (simp [*]; done)), H', ⟨by first | omega | exact Nat.le_refl _⟩, ⟨by (with_reducible repeat first|apply rA_|apply rN_|apply rD_); exact Kd.R_mono HO210.out (fun _ hk => ⟨hk.1.1, ⟨hk.1.2, hk.2⟩⟩)⟩, ⟨by (with_reducible repeat first|apply rA_|apply rN_|apply rD_); exact Kd.R_mono HO213.out (fun _ hk => ⟨hk.1.1, ⟨hk.1.2, hk.2⟩⟩)⟩, ⟨by (with_reducible repeat first|apply rA_|apply rN_|apply rD_); exact Kd.R_mono HO218.out (fun _ hk => ⟨hk.1.2, ⟨hk.2, hk.1.1⟩⟩)⟩, ⟨by (with_reducible repeat first|apply rA_|apply rN_|apply rD_); exact Kd.R_mono HO221.out (fun _ hk => ⟨hk.1.2, ⟨hk.2, hk.1.1⟩⟩)⟩, ⟨by (with_reducible repeat first|apply qN_|apply qD_|apply qA_); exact BK215.out⟩, ⟨by (with_reducible repeat first|apply qN_|apply qD_|apply qA_); exact BK223.out⟩, ⟨by repeat (first | (with_reducible first|exact HB.out|apply vA_|apply vN_|apply vD_ | refine vS_ ?_ GE215.out | refine vS_ ?_ GE223.out) | exact HB.out)⟩⟩
      · replace c18 := Bool.eq_false_iff.mpr c18
        subst c18
        have H1 : (laws_FnExactReadPct.j0 k a0 t214 true t208 t211 t216 t219) = some r := by rw [if_neg (show ¬ (false = true) by decide)] at H; exact H
        clear H
        have H := H1
        clear H1
        have H' := Aside0.mk H
        clear H
        have hnb23 := NB223_215.out
        have hnc23 := NB215_223.out
        have hcz24_0 : w12.cell? ⟨gb223, 0, none⟩ = some (.slice none 0 0) := (blk_cell BK223.out 0).trans rfl
        have hcz24_1 : w12.cell? ⟨gb223, 1, none⟩ = some (.slice none 0 0) := (blk_cell BK223.out 1).trans rfl
        have hfz24_0 := blk_frozen BK223.out 0
        have hfz24_1 := blk_frozen BK223.out 1
        have hcz25_0 : w12.cell? ⟨gb215, 0, none⟩ = some (.slice Ao8 t208.length co8) := (blk_cell BK215.out 0).trans rfl
        have hcz25_1 : w12.cell? ⟨gb215, 1, none⟩ = some (.slice Ao10 t211.length co10) := (blk_cell BK215.out 1).trans rfl
        have hfz25_0 := blk_frozen BK215.out 0
        have hfz25_1 := blk_frozen BK215.out 1
        go_wp2_with (first | ((with_reducible refine gate_callee (f := 15) rfl ?_); refine goesL_ (some 26) rfl rfl Tryd.func15 (by kernel_rfl) rfl #[.agg #[.slice Ao13 t216.length co13, .slice Ao16 t219.length co16], .agg #[.slice Ao8 t208.length co8, .slice Ao10 t211.length co10]] rfl (by (try simp only [List.map_toArray, List.map_cons, List.map_nil]); first | done | rfl | (simp only [List.length_drop, List.length_take]; rfl)) ?_; (with_reducible refine (laws_eqPct.calls k _ _ t216 _ _ t219 _ _ t208 _ _ t211 false _ ?side1 ?side2 ?side3 ?side4 ?side5 ?side6 ?side7 ?side8 A17.out).mono ?_); (case side1 => refine (Kd.R_reads' (e := 3) (base := w.heap.size) (ok := fun k_ => ((some k_ ≠ (.slice Ao16 t219.length co16 : Value).ownBlock ∧ some k_ ≠ (.slice Ao8 t208.length co8 : Value).ownBlock) ∧ some k_ ≠ (.slice Ao10 t211.length co10 : Value).ownBlock)) (n := t216.length) (c := co13) ?_).2.2; exact (by (with_reducible repeat first|apply rA_|apply rN_|apply rD_); exact (Kd.R_mono (Kd.R_far (p := ⟨gb223, 1, none⟩) (Kd.R_far (p := ⟨gb223, 0, none⟩) (Kd.R_types HO218.out BK223.out (by decide)) (fun _ hk => hk.2) (.slice Ao13 t216.length co13)) (fun _ hk => hk.2) (.slice Ao16 t219.length co16)) (fun _ h_ => h_.1)))); (case side2 => exact (Kd.R_reads' HO218.out).2.1); (case side3 => refine (Kd.R_reads' (e := 3) (base := w.heap.size) (ok := fun k_ => ((some k_ ≠ (.slice Ao13 t216.length co13 : Value).ownBlock ∧ some k_ ≠ (.slice Ao8 t208.length co8 : Value).ownBlock) ∧ some k_ ≠ (.slice Ao10 t211.length co10 : Value).ownBlock)) (n := t219.length) (c := co16) ?_).2.2; exact (by (with_reducible repeat first|apply rA_|apply rN_|apply rD_); exact (Kd.R_mono (Kd.R_far (p := ⟨gb223, 1, none⟩) (Kd.R_far (p := ⟨gb223, 0, none⟩) (Kd.R_types HO221.out BK223.out (by decide)) (fun _ hk => hk.2) (.slice Ao13 t216.length co13)) (fun _ hk => hk.2) (.slice Ao16 t219.length co16)) (fun _ h_ => h_.1)))); (case side4 => exact (Kd.R_reads' HO221.out).2.1); (case side5 => refine (Kd.R_reads' (e := 3) (base := w.heap.size) (ok := fun k_ => ((some k_ ≠ (.slice Ao10 t211.length co10 : Value).ownBlock ∧ some k_ ≠ (.slice Ao13 t216.length co13 : Value).ownBlock) ∧ some k_ ≠ (.slice Ao16 t219.length co16 : Value).ownBlock)) (n := t208.length) (c := co8) ?_).2.2; exact (by (with_reducible repeat first|apply rA_|apply rN_|apply rD_); exact (Kd.R_mono (Kd.R_far (p := ⟨gb223, 1, none⟩) (Kd.R_far (p := ⟨gb223, 0, none⟩) (Kd.R_types HO210.out BK223.out (by decide)) (fun _ hk => hk.2) (.slice Ao13 t216.length co13)) (fun _ hk => hk.2) (.slice Ao16 t219.length co16)) (fun _ h_ => h_.1)))); (case side6 => exact (Kd.R_reads' HO210.out).2.1); (case side7 => refine (Kd.R_reads' (e := 3) (base := w.heap.size) (ok := fun k_ => ((some k_ ≠ (.slice Ao8 t208.length co8 : Value).ownBlock ∧ some k_ ≠ (.slice Ao13 t216.length co13 : Value).ownBlock) ∧ some k_ ≠ (.slice Ao16 t219.length co16 : Value).ownBlock)) (n := t211.length) (c := co10) ?_).2.2; exact (by (with_reducible repeat first|apply rA_|apply rN_|apply rD_); exact (Kd.R_mono (Kd.R_far (p := ⟨gb223, 1, none⟩) (Kd.R_far (p := ⟨gb223, 0, none⟩) (Kd.R_types HO213.out BK223.out (by decide)) (fun _ hk => hk.2) (.slice Ao13 t216.length co13)) (fun _ hk => hk.2) (.slice Ao16 t219.length co16)) (fun _ h_ => h_.1)))); (case side8 => exact (Kd.R_reads' HO213.out).2.1); rintro e w26 ⟨rfl, hb⟩; refine ⟨_, rfl, ?_⟩; have n0_ := Aside0.mk (Kd.R_below (by (with_reducible repeat first|apply rA_|apply rN_|apply rD_); exact (Kd.R_mono (Kd.R_far (p := ⟨gb223, 1, none⟩) (Kd.R_far (p := ⟨gb223, 0, none⟩) (Kd.R_types HO210.out BK223.out (by decide)) (fun _ hk => hk.2) (.slice Ao13 t216.length co13)) (fun _ hk => hk.2) (.slice Ao16 t219.length co16)) (fun _ h_ => h_.1))) hb); have n1_ := Aside0.mk (Kd.R_below (by (with_reducible repeat first|apply rA_|apply rN_|apply rD_); exact (Kd.R_mono (Kd.R_far (p := ⟨gb223, 1, none⟩) (Kd.R_far (p := ⟨gb223, 0, none⟩) (Kd.R_types HO213.out BK223.out (by decide)) (fun _ hk => hk.2) (.slice Ao13 t216.length co13)) (fun _ hk => hk.2) (.slice Ao16 t219.length co16)) (fun _ h_ => h_.1))) hb); have n2_ := Aside0.mk (Kd.R_below (by (with_reducible repeat first|apply rA_|apply rN_|apply rD_); exact (Kd.R_mono (Kd.R_far (p := ⟨gb223, 1, none⟩) (Kd.R_far (p := ⟨gb223, 0, none⟩) (Kd.R_types HO218.out BK223.out (by decide)) (fun _ hk => hk.2) (.slice Ao13 t216.length co13)) (fun _ hk => hk.2) (.slice Ao16 t219.length co16)) (fun _ h_ => h_.1))) hb); have n3_ := Aside0.mk (Kd.R_below (by (with_reducible repeat first|apply rA_|apply rN_|apply rD_); exact (Kd.R_mono (Kd.R_far (p := ⟨gb223, 1, none⟩) (Kd.R_far (p := ⟨gb223, 0, none⟩) (Kd.R_types HO221.out BK223.out (by decide)) (fun _ hk => hk.2) (.slice Ao13 t216.length co13)) (fun _ hk => hk.2) (.slice Ao16 t219.length co16)) (fun _ h_ => h_.1))) hb); have n4_ := Aside0.mk (blk_below (g := gb215) (o := .cells #[.slice Ao8 t208.length co8, .slice Ao10 t211.length co10] 33 (0, 0)) (by (with_reducible repeat first|apply qN_|apply qD_|apply qA_); refine blk_far ?_ NB215_223.out _; (with_reducible repeat first|apply qN_|apply qD_|apply qA_); refine blk_far ?_ NB215_223.out _; (with_reducible repeat first|apply qN_|apply qD_|apply qA_); exact BK215.out) hb); have n5_ := Aside0.mk (blk_below (g := gb223) (o := .cells #[.slice Ao13 t216.length co13, .slice Ao16 t219.length co16] 33 (0, 0)) (by (with_reducible repeat first|apply qN_|apply qD_|apply qA_); refine blk_put (cs := #[.slice Ao13 t216.length co13, .slice none 0 0]) ?_ 1 _ rfl; (with_reducible repeat first|apply qN_|apply qD_|apply qA_); refine blk_put (cs := #[.slice none 0 0, .slice none 0 0]) ?_ 0 _ rfl; (with_reducible repeat first|apply qN_|apply qD_|apply qA_); exact BK223.out) hb); have n6_ := Aside0.mk (below_step (by repeat (first | (with_reducible first|exact HB.out|apply vA_|apply vN_|apply vD_ | refine vS_ ?_ GE215.out | refine vS_ ?_ GE223.out) | exact HB.out)) hb); clear HO210; clear HO213; clear HO218; clear HO221; clear BK215; clear BK223; clear HB; have HO210 := n0_; have HO213 := n1_; have HO218 := n2_; have HO221 := n3_; have BK215 := n4_; have BK223 := n5_; have HB := n6_; clear n0_ n1_ n2_ n3_ n4_ n5_ n6_; (try clear hb); (try clear hb2); (try clear hk); (try clear hi)))
        go_meet
        case rel => exact ⟨_, (true), (by first | rfl | (simp; done) | (simp [*]; done)), H', ⟨by first | omega | exact Nat.le_refl _⟩, ⟨by (with_reducible repeat first|apply rA_|apply rN_|apply rD_); exact Kd.R_mono HO210.out (fun _ hk => ⟨hk.1.1, ⟨hk.1.2, hk.2⟩⟩)⟩, ⟨by (with_reducible repeat first|apply rA_|apply rN_|apply rD_); exact Kd.R_mono HO213.out (fun _ hk => ⟨hk.1.1, ⟨hk.1.2, hk.2⟩⟩)⟩, ⟨by (with_reducible repeat first|apply rA_|apply rN_|apply rD_); exact Kd.R_mono HO218.out (fun _ hk => ⟨hk.1.2, ⟨hk.2, hk.1.1⟩⟩)⟩, ⟨by (with_reducible repeat first|apply rA_|apply rN_|apply rD_); exact Kd.R_mono HO221.out (fun _ hk => ⟨hk.1.2, ⟨hk.2, hk.1.1⟩⟩)⟩, ⟨by (with_reducible repeat first|apply qN_|apply qD_|apply qA_); exact BK215.out⟩, ⟨by (with_reducible repeat first|apply qN_|apply qD_|apply qA_); exact BK223.out⟩, ⟨by repeat (first | (with_reducible first|exact HB.out|apply vA_|apply vN_|apply vD_ | refine vS_ ?_ GE215.out | refine vS_ ?_ GE223.out) | exact HB.out)⟩⟩
    case rest =>
      clear HC5
      try clear c1
      try clear c2
      try clear c2b0
      try clear c2b1
      try clear p2
      try clear c4
      try clear c13
      try clear c14
      try clear c15
      try clear c18
      try clear c19
      try clear c23
      try clear hcz15_0
      try clear hcz15_1
      try clear hcz20_0
      try clear hcz20_1
      try clear hcz21_0
      try clear hcz21_1
      try clear hcz24_0
      try clear hcz24_1
      try clear hcz25_0
      try clear hcz25_1
      try clear hcz9_0
      try clear hcz9_1
      try clear hfz15_0
      try clear hfz15_1
      try clear hfz20_0
      try clear hfz20_1
      try clear hfz21_0
      try clear hfz21_1
      try clear hfz24_0
      try clear hfz24_1
      try clear hfz25_0
      try clear hfz25_1
      try clear hfz9_0
      try clear hfz9_1
      obtain ⟨kq, x32_4, rfl, HA, HJ4, HO_216000, HO_216001, HO_224000, HO_224001, BK215, BK223, HB⟩ := hcut
      cases kq with
      | zero => exact absurd HA.out (by simp [laws_FnExactReadPct.j0])
      | succ kj4 =>
        have H := HA.out
        clear HA
        simp only [laws_FnExactReadPct.j0] at H
        by_cases c27 : x32_4 = true
        · subst c27
          have H1 : (some false) = some r := by rw [if_pos rfl] at H; exact H
          clear H
          have H := H1
          clear H1
          obtain rfl := Option.some.inj H
          go_wp2
          go_ret
          exact ⟨by first | rfl | (simp [errW_none, errW_some] <;> rfl) | (simp [*, errW_none, errW_some] <;> rfl), by repeat (first | (with_reducible first|exact HB.out|apply vA_|apply vN_|apply vD_ | refine vS_ ?_ GE215.out | refine vS_ ?_ GE223.out) | exact HB.out)⟩
        · replace c27 := Bool.eq_false_iff.mpr c27
          subst c27
          have H1 : ((laws_markPct.f kj4 t216 t219 1).bind fun bt225 => ((laws_heldPct.f kj4 bt225.2.1 bt225.2.2 1).bind fun t228 => (if t228 < 0 then (some false) else (if t228 = bt225.1 then ((impl_ReadPct.f kj4 a0).bind fun bt229 => ((laws_eqPct.f kj4 bt229.1 bt229.2.1 t208 t211).bind fun t237 => (if t237 = true then (laws_FnExactReadPct.j1 kj4 bt225.1 (bt229.2.2 != t214) bt225.2.1 bt225.2.2) else (laws_FnExactReadPct.j1 kj4 bt225.1 true bt225.2.1 bt225.2.2)))) else (some false))))) = some r := by rw [if_neg (show ¬ (false = true) by decide)] at H; exact H
          clear H
          have H := H1
          clear H1
          replace H := Option.bind_eq_some_iff.mp H
          obtain ⟨⟨t225, t226, t227⟩, A280, H⟩ := H
          replace H : ((laws_heldPct.f kj4 t226 t227 1).bind fun t228 => (if t228 < 0 then (some false) else (if t228 = t225 then ((impl_ReadPct.f kj4 a0).bind fun bt229 => ((laws_eqPct.f kj4 bt229.1 bt229.2.1 t208 t211).bind fun t237 => (if t237 = true then (laws_FnExactReadPct.j1 kj4 t225 (bt229.2.2 != t214) t226 t227) else (laws_FnExactReadPct.j1 kj4 t225 true t226 t227)))) else (some false)))) = some r := H
          have A28 := Aside0.mk A280
          clear A280
          replace H := Option.bind_eq_some_iff.mp H
          obtain ⟨t228, A290, H⟩ := H
          replace H : (if t228 < 0 then (some false) else (if t228 = t225 then ((impl_ReadPct.f kj4 a0).bind fun bt229 => ((laws_eqPct.f kj4 bt229.1 bt229.2.1 t208 t211).bind fun t237 => (if t237 = true then (laws_FnExactReadPct.j1 kj4 t225 (bt229.2.2 != t214) t226 t227) else (laws_FnExactReadPct.j1 kj4 t225 true t226 t227)))) else (some false))) = some r := H
          have A29 := Aside0.mk A290
          clear A290
          by_cases c30 : t228 < 0
          · rw [if_pos c30] at H
            have c30b0 : decide (t228 < 0) = true := decide_eq_true c30
            clear c30
            obtain rfl := Option.some.inj H
            have hnb31 := NB223_215.out
            have hnc31 := NB215_223.out
            have hcz32_0 : wc.cell? ⟨gb223, 0, none⟩ = some (.slice Ao13 t216.length co13) := (blk_cell BK223.out 0).trans rfl
            have hcz32_1 : wc.cell? ⟨gb223, 1, none⟩ = some (.slice Ao16 t219.length co16) := (blk_cell BK223.out 1).trans rfl
            have hfz32_0 := blk_frozen BK223.out 0
            have hfz32_1 := blk_frozen BK223.out 1
            go_wp2_with (first | ((with_reducible refine gate_callee (f := 16) rfl ?_); refine goesL_ (some 35) rfl rfl Tryd.func16 (by kernel_rfl) rfl #[.agg #[.slice Ao13 t216.length co13, .slice Ao16 t219.length co16], .int .i64 1] rfl (by (try simp only [List.map_toArray, List.map_cons, List.map_nil]); first | done | rfl | (simp only [List.length_drop, List.length_take]; rfl)) ?_; (with_reducible refine (laws_markPct.calls kj4 (fun k_ => some k_ = (.slice Ao13 t216.length co13 : Value).ownBlock) (.slice Ao13 t216.length co13) t216 (fun k_ => some k_ = (.slice Ao16 t219.length co16 : Value).ownBlock) (.slice Ao16 t219.length co16) t219 1 t225 t226 t227 w _ ?side1 ?side2 ?side3 ?side4 ?side5 A28.out).mono ?_); (case side1 => repeat (first | (with_reducible first|exact HB.out|apply vA_|apply vN_|apply vD_ | refine vS_ ?_ GE215.out | refine vS_ ?_ GE223.out) | exact HB.out)); (case side2 => exact Kd.R_tight rfl HO_224000.out); (case side3 => exact fun k_ e_ => (HO_224000.out.1 k_ e_.symm).2.2); (case side4 => exact Kd.R_tight rfl HO_224001.out); (case side5 => exact fun k_ e_ => (HO_224001.out.1 k_ e_.symm).2.2); rintro e w33 ⟨rfl, hy0, hy1, hb, hkp⟩; refine ⟨_, rfl, ?_⟩; have n0_ := Aside0.mk (Kd.R_mono (ok' := fun k_ => some k_ ≠ (.slice Ao10 t211.length co10 : Value).ownBlock ∧ some k_ ≠ (.slice Ao13 t216.length co13 : Value).ownBlock ∧ some k_ ≠ (.slice Ao16 t219.length co16 : Value).ownBlock) (Kd.R_keptB (HO_216000.out) hkp (fun k_ hk_ hs_ => Or.elim hs_ (fun e_ => (hk_.2.1) e_) (fun e_ => (hk_.2.2) e_))) (fun k_ hk_ => ⟨hk_.1.1, hk_.1.2.1, hk_.1.2.2⟩)); have n1_ := Aside0.mk (Kd.R_mono (ok' := fun k_ => some k_ ≠ (.slice Ao8 t208.length co8 : Value).ownBlock ∧ some k_ ≠ (.slice Ao13 t216.length co13 : Value).ownBlock ∧ some k_ ≠ (.slice Ao16 t219.length co16 : Value).ownBlock) (Kd.R_keptB (HO_216001.out) hkp (fun k_ hk_ hs_ => Or.elim hs_ (fun e_ => (hk_.2.1) e_) (fun e_ => (hk_.2.2) e_))) (fun k_ hk_ => ⟨hk_.1.1, hk_.1.2.1, hk_.1.2.2⟩)); have n2_ := Aside0.mk (Kd.R_reok rfl hy0 (fun k_ e_ => HO_224000.out.1 k_ e_)); have n3_ := Aside0.mk (Kd.R_reok rfl hy1 (fun k_ e_ => HO_224001.out.1 k_ e_)); have n4_ := Aside0.mk (blk_kept (by (with_reducible repeat first|apply qN_|apply qD_|apply qA_); exact BK215.out) hkp (fun hs_ => Or.elim hs_ (fun e_ => (fun e_ => (Kd.R_ne HO_224000.out BK215.out (by decide)) e_) e_) (fun e_ => (fun e_ => (Kd.R_ne HO_224001.out BK215.out (by decide)) e_) e_))); have n5_ := Aside0.mk (blk_kept (by (with_reducible repeat first|apply qN_|apply qD_|apply qA_); exact BK223.out) hkp (fun hs_ => Or.elim hs_ (fun e_ => (fun e_ => (Kd.R_ne HO_224000.out BK223.out (by decide)) e_) e_) (fun e_ => (fun e_ => (Kd.R_ne HO_224001.out BK223.out (by decide)) e_) e_))); have n6_ := Aside0.mk (hb); clear HO_216000; clear HO_216001; clear HO_224000; clear HO_224001; clear BK215; clear BK223; clear HB; have HO_216000 := n0_; have HO_216001 := n1_; have HO_224000 := n2_; have HO_224001 := n3_; have BK215 := n4_; have BK223 := n5_; have HB := n6_; clear n0_ n1_ n2_ n3_ n4_ n5_ n6_; (try clear hb); (try clear hkp); (try clear hy0); (try clear hy1); have hcz34_0 : w33.cell? ⟨gb223, 0, none⟩ = some (.slice Ao13 t216.length co13) := (blk_cell BK223.out 0).trans rfl; have hcz34_1 : w33.cell? ⟨gb223, 1, none⟩ = some (.slice Ao16 t219.length co16) := (blk_cell BK223.out 1).trans rfl; have hfz34_0 := blk_frozen BK223.out 0; have hfz34_1 := blk_frozen BK223.out 1) | ((with_reducible refine gate_callee (f := 17) rfl ?_); refine goesL_ (some 38) rfl rfl Tryd.func17 (by kernel_rfl) rfl #[.agg #[.slice Ao13 t226.length co13, .slice Ao16 t227.length co16], .int .i64 1] rfl (by (try simp only [List.map_toArray, List.map_cons, List.map_nil]); first | done | (rw [show t226.length = t216.length from (Kd.R_reads' HO_224000.out).1.symm, show t227.length = t219.length from (Kd.R_reads' HO_224001.out).1.symm] <;> rfl) | rfl | (simp only [List.length_drop, List.length_take]; rfl)) ?_; (with_reducible refine (laws_heldPct.calls kj4 _ _ t226 _ _ t227 1 t228 _ ?side1 ?side2 ?side3 ?side4 A29.out).mono ?_); (case side1 => repeat (first | exact (Kd.R_reads' HO_224000.out).2.2 | with_reducible apply cA_|with_reducible apply cN_|with_reducible apply cD_)); (case side2 => rw [show t226.length = t216.length from (Kd.R_reads' HO_224000.out).1.symm]; exact (Kd.R_reads' HO_224000.out).2.1); (case side3 => repeat (first | exact (Kd.R_reads' HO_224001.out).2.2 | with_reducible apply cA_|with_reducible apply cN_|with_reducible apply cD_)); (case side4 => rw [show t227.length = t219.length from (Kd.R_reads' HO_224001.out).1.symm]; exact (Kd.R_reads' HO_224001.out).2.1); rintro e w35 ⟨rfl, hb⟩; refine ⟨_, rfl, ?_⟩; have n0_ := Aside0.mk (Kd.R_below (by (with_reducible repeat first|apply rA_|apply rN_|apply rD_); exact HO_216000.out) hb); have n1_ := Aside0.mk (Kd.R_below (by (with_reducible repeat first|apply rA_|apply rN_|apply rD_); exact HO_216001.out) hb); have n2_ := Aside0.mk (Kd.R_below (by (with_reducible repeat first|apply rA_|apply rN_|apply rD_); exact HO_224000.out) hb); have n3_ := Aside0.mk (Kd.R_below (by (with_reducible repeat first|apply rA_|apply rN_|apply rD_); exact HO_224001.out) hb); have n4_ := Aside0.mk (blk_below (by (with_reducible repeat first|apply qN_|apply qD_|apply qA_); exact BK215.out) hb); have n5_ := Aside0.mk (blk_below (by (with_reducible repeat first|apply qN_|apply qD_|apply qA_); exact BK223.out) hb); have n6_ := Aside0.mk (below_step (by repeat (first | (with_reducible first|exact HB.out|apply vA_|apply vN_|apply vD_ | refine vS_ ?_ GE215.out | refine vS_ ?_ GE223.out) | exact HB.out)) hb); clear HO_216000; clear HO_216001; clear HO_224000; clear HO_224001; clear BK215; clear BK223; clear HB; have HO_216000 := n0_; have HO_216001 := n1_; have HO_224000 := n2_; have HO_224001 := n3_; have BK215 := n4_; have BK223 := n5_; have HB := n6_; clear n0_ n1_ n2_ n3_ n4_ n5_ n6_; (try clear hb); (try clear hb2); (try clear hk); (try clear hi)))
            go_ret
            exact ⟨by first | rfl | (simp [errW_none, errW_some] <;> rfl) | (simp [*, errW_none, errW_some] <;> rfl), by repeat (first | (with_reducible first|exact HB.out|apply vA_|apply vN_|apply vD_ | refine vS_ ?_ GE215.out | refine vS_ ?_ GE223.out) | exact HB.out)⟩
          · rw [if_neg c30] at H
            have c30b0 : decide (t228 < 0) = false := decide_eq_false c30
            clear c30
            by_cases c36 : t228 = t225
            · rw [if_pos c36] at H
              have c36b0 : (t228 == t225) = true := beq_iff_eq.mpr c36
              have c36b1 : (t228 != t225) = false := bne_eq_false_iff_eq.mpr c36
              clear c36
              replace H := Option.bind_eq_some_iff.mp H
              obtain ⟨⟨t229, t232, t235⟩, A370, H⟩ := H
              replace H : ((laws_eqPct.f kj4 t229 t232 t208 t211).bind fun t237 => (if t237 = true then (laws_FnExactReadPct.j1 kj4 t225 (t235 != t214) t226 t227) else (laws_FnExactReadPct.j1 kj4 t225 true t226 t227))) = some r := H
              have A37 := Aside0.mk A370
              clear A370
              have HC38 := Aside0.mk H
              clear H
              have hnb39 := NB223_215.out
              have hnc39 := NB215_223.out
              have hcz40_0 : wc.cell? ⟨gb223, 0, none⟩ = some (.slice Ao13 t216.length co13) := (blk_cell BK223.out 0).trans rfl
              have hcz40_1 : wc.cell? ⟨gb223, 1, none⟩ = some (.slice Ao16 t219.length co16) := (blk_cell BK223.out 1).trans rfl
              have hfz40_0 := blk_frozen BK223.out 0
              have hfz40_1 := blk_frozen BK223.out 1
              go_upto_region 16 with (first | ((with_reducible refine gate_callee (f := 16) rfl ?_); refine goesL_ (some 35) rfl rfl Tryd.func16 (by kernel_rfl) rfl #[.agg #[.slice Ao13 t216.length co13, .slice Ao16 t219.length co16], .int .i64 1] rfl (by (try simp only [List.map_toArray, List.map_cons, List.map_nil]); first | done | rfl | (simp only [List.length_drop, List.length_take]; rfl)) ?_; (with_reducible refine (laws_markPct.calls kj4 (fun k_ => some k_ = (.slice Ao13 t216.length co13 : Value).ownBlock) (.slice Ao13 t216.length co13) t216 (fun k_ => some k_ = (.slice Ao16 t219.length co16 : Value).ownBlock) (.slice Ao16 t219.length co16) t219 1 t225 t226 t227 w _ ?side1 ?side2 ?side3 ?side4 ?side5 A28.out).mono ?_); (case side1 => repeat (first | (with_reducible first|exact HB.out|apply vA_|apply vN_|apply vD_ | refine vS_ ?_ GE215.out | refine vS_ ?_ GE223.out) | exact HB.out)); (case side2 => exact Kd.R_tight rfl HO_224000.out); (case side3 => exact fun k_ e_ => (HO_224000.out.1 k_ e_.symm).2.2); (case side4 => exact Kd.R_tight rfl HO_224001.out); (case side5 => exact fun k_ e_ => (HO_224001.out.1 k_ e_.symm).2.2); rintro e w41 ⟨rfl, hy0, hy1, hb, hkp⟩; refine ⟨_, rfl, ?_⟩; have n0_ := Aside0.mk (Kd.R_mono (ok' := fun k_ => some k_ ≠ (.slice Ao10 t211.length co10 : Value).ownBlock ∧ some k_ ≠ (.slice Ao13 t216.length co13 : Value).ownBlock ∧ some k_ ≠ (.slice Ao16 t219.length co16 : Value).ownBlock) (Kd.R_keptB (HO_216000.out) hkp (fun k_ hk_ hs_ => Or.elim hs_ (fun e_ => (hk_.2.1) e_) (fun e_ => (hk_.2.2) e_))) (fun k_ hk_ => ⟨hk_.1.1, hk_.1.2.1, hk_.1.2.2⟩)); have n1_ := Aside0.mk (Kd.R_mono (ok' := fun k_ => some k_ ≠ (.slice Ao8 t208.length co8 : Value).ownBlock ∧ some k_ ≠ (.slice Ao13 t216.length co13 : Value).ownBlock ∧ some k_ ≠ (.slice Ao16 t219.length co16 : Value).ownBlock) (Kd.R_keptB (HO_216001.out) hkp (fun k_ hk_ hs_ => Or.elim hs_ (fun e_ => (hk_.2.1) e_) (fun e_ => (hk_.2.2) e_))) (fun k_ hk_ => ⟨hk_.1.1, hk_.1.2.1, hk_.1.2.2⟩)); have n2_ := Aside0.mk (Kd.R_reok rfl hy0 (fun k_ e_ => HO_224000.out.1 k_ e_)); have n3_ := Aside0.mk (Kd.R_reok rfl hy1 (fun k_ e_ => HO_224001.out.1 k_ e_)); have n4_ := Aside0.mk (blk_kept (by (with_reducible repeat first|apply qN_|apply qD_|apply qA_); exact BK215.out) hkp (fun hs_ => Or.elim hs_ (fun e_ => (fun e_ => (Kd.R_ne HO_224000.out BK215.out (by decide)) e_) e_) (fun e_ => (fun e_ => (Kd.R_ne HO_224001.out BK215.out (by decide)) e_) e_))); have n5_ := Aside0.mk (blk_kept (by (with_reducible repeat first|apply qN_|apply qD_|apply qA_); exact BK223.out) hkp (fun hs_ => Or.elim hs_ (fun e_ => (fun e_ => (Kd.R_ne HO_224000.out BK223.out (by decide)) e_) e_) (fun e_ => (fun e_ => (Kd.R_ne HO_224001.out BK223.out (by decide)) e_) e_))); have n6_ := Aside0.mk (hb); clear HO_216000; clear HO_216001; clear HO_224000; clear HO_224001; clear BK215; clear BK223; clear HB; have HO_216000 := n0_; have HO_216001 := n1_; have HO_224000 := n2_; have HO_224001 := n3_; have BK215 := n4_; have BK223 := n5_; have HB := n6_; clear n0_ n1_ n2_ n3_ n4_ n5_ n6_; (try clear hb); (try clear hkp); (try clear hy0); (try clear hy1); have hcz42_0 : w41.cell? ⟨gb223, 0, none⟩ = some (.slice Ao13 t216.length co13) := (blk_cell BK223.out 0).trans rfl; have hcz42_1 : w41.cell? ⟨gb223, 1, none⟩ = some (.slice Ao16 t219.length co16) := (blk_cell BK223.out 1).trans rfl; have hfz42_0 := blk_frozen BK223.out 0; have hfz42_1 := blk_frozen BK223.out 1) | ((with_reducible refine gate_callee (f := 17) rfl ?_); refine goesL_ (some 38) rfl rfl Tryd.func17 (by kernel_rfl) rfl #[.agg #[.slice Ao13 t226.length co13, .slice Ao16 t227.length co16], .int .i64 1] rfl (by (try simp only [List.map_toArray, List.map_cons, List.map_nil]); first | done | (rw [show t226.length = t216.length from (Kd.R_reads' HO_224000.out).1.symm, show t227.length = t219.length from (Kd.R_reads' HO_224001.out).1.symm] <;> rfl) | rfl | (simp only [List.length_drop, List.length_take]; rfl)) ?_; (with_reducible refine (laws_heldPct.calls kj4 _ _ t226 _ _ t227 1 t228 _ ?side1 ?side2 ?side3 ?side4 A29.out).mono ?_); (case side1 => repeat (first | exact (Kd.R_reads' HO_224000.out).2.2 | with_reducible apply cA_|with_reducible apply cN_|with_reducible apply cD_)); (case side2 => rw [show t226.length = t216.length from (Kd.R_reads' HO_224000.out).1.symm]; exact (Kd.R_reads' HO_224000.out).2.1); (case side3 => repeat (first | exact (Kd.R_reads' HO_224001.out).2.2 | with_reducible apply cA_|with_reducible apply cN_|with_reducible apply cD_)); (case side4 => rw [show t227.length = t219.length from (Kd.R_reads' HO_224001.out).1.symm]; exact (Kd.R_reads' HO_224001.out).2.1); rintro e w43 ⟨rfl, hb⟩; refine ⟨_, rfl, ?_⟩; have n0_ := Aside0.mk (Kd.R_below (by (with_reducible repeat first|apply rA_|apply rN_|apply rD_); exact HO_216000.out) hb); have n1_ := Aside0.mk (Kd.R_below (by (with_reducible repeat first|apply rA_|apply rN_|apply rD_); exact HO_216001.out) hb); have n2_ := Aside0.mk (Kd.R_below (by (with_reducible repeat first|apply rA_|apply rN_|apply rD_); exact HO_224000.out) hb); have n3_ := Aside0.mk (Kd.R_below (by (with_reducible repeat first|apply rA_|apply rN_|apply rD_); exact HO_224001.out) hb); have n4_ := Aside0.mk (blk_below (by (with_reducible repeat first|apply qN_|apply qD_|apply qA_); exact BK215.out) hb); have n5_ := Aside0.mk (blk_below (by (with_reducible repeat first|apply qN_|apply qD_|apply qA_); exact BK223.out) hb); have n6_ := Aside0.mk (below_step (by repeat (first | (with_reducible first|exact HB.out|apply vA_|apply vN_|apply vD_ | refine vS_ ?_ GE215.out | refine vS_ ?_ GE223.out) | exact HB.out)) hb); clear HO_216000; clear HO_216001; clear HO_224000; clear HO_224001; clear BK215; clear BK223; clear HB; have HO_216000 := n0_; have HO_216001 := n1_; have HO_224000 := n2_; have HO_224001 := n3_; have BK215 := n4_; have BK223 := n5_; have HB := n6_; clear n0_ n1_ n2_ n3_ n4_ n5_ n6_; (try clear hb); (try clear hb2); (try clear hk); (try clear hi)) | ((with_reducible refine gate_callee (f := 14) rfl ?_); refine goesL_ (some 46) rfl rfl Tryd.func14 (by kernel_rfl) rfl #[.string a0] rfl (by (try simp only [List.map_toArray, List.map_cons, List.map_nil]); first | done | rfl | (simp only [List.length_drop, List.length_take]; rfl)) ?_; (with_reducible refine (impl_ReadPct.calls (hT := ?sideT) kj4 a0 t229 t232 t235 _ A37.out).mono ?_); (case sideT => exact Go.Proofs.YthdpiceiemkjlaaDoor.MRead.tabs2_below HTab.out (by repeat (first | (with_reducible first|exact HB.out|apply vA_|apply vN_|apply vD_ | refine vS_ ?_ GE215.out | refine vS_ ?_ GE223.out) | exact HB.out))); rintro e w44 ⟨v230, v233, rfl, ho0, ho1, hb⟩; refine ⟨_, rfl, ?_⟩; have n0_ := Aside0.mk (Kd.R_mono (Kd.R_told (Kd.R_told (Kd.R_old (by (with_reducible repeat first|apply rA_|apply rN_|apply rD_); exact HO_216000.out) hb) (by first | exact Kd.R_base ho0 | exact Kd.S_base ho0 | exact Kd.R_base ho0)) (by first | exact Kd.R_base ho1 | exact Kd.S_base ho1 | exact Kd.R_base ho1)) (fun _ h_ => h_.1)); have n1_ := Aside0.mk (Kd.R_mono (Kd.R_told (Kd.R_told (Kd.R_old (by (with_reducible repeat first|apply rA_|apply rN_|apply rD_); exact HO_216001.out) hb) (by first | exact Kd.R_base ho0 | exact Kd.S_base ho0 | exact Kd.R_base ho0)) (by first | exact Kd.R_base ho1 | exact Kd.S_base ho1 | exact Kd.R_base ho1)) (fun _ h_ => h_.1)); have n2_ := Aside0.mk (Kd.R_mono (Kd.R_told (Kd.R_told (Kd.R_old (by (with_reducible repeat first|apply rA_|apply rN_|apply rD_); exact HO_224000.out) hb) (by first | exact Kd.R_base ho0 | exact Kd.S_base ho0 | exact Kd.R_base ho0)) (by first | exact Kd.R_base ho1 | exact Kd.S_base ho1 | exact Kd.R_base ho1)) (fun _ h_ => h_.1)); have n3_ := Aside0.mk (Kd.R_mono (Kd.R_told (Kd.R_told (Kd.R_old (by (with_reducible repeat first|apply rA_|apply rN_|apply rD_); exact HO_224001.out) hb) (by first | exact Kd.R_base ho0 | exact Kd.S_base ho0 | exact Kd.R_base ho0)) (by first | exact Kd.R_base ho1 | exact Kd.S_base ho1 | exact Kd.R_base ho1)) (fun _ h_ => h_.1)); have n4_ := Aside0.mk (Kd.R_lower (Kd.R_new' (Kd.R_new' (Kd.R_new' (Kd.R_new' ho0 (Kd.R_lt (by (with_reducible repeat first|apply rA_|apply rN_|apply rD_); exact HO_216000.out))) (Kd.R_lt (by (with_reducible repeat first|apply rA_|apply rN_|apply rD_); exact HO_216001.out))) (Kd.R_lt (by (with_reducible repeat first|apply rA_|apply rN_|apply rD_); exact HO_224000.out))) (Kd.R_lt (by (with_reducible repeat first|apply rA_|apply rN_|apply rD_); exact HO_224001.out))) (below_size (by repeat (first | (with_reducible first|exact HB.out|apply vA_|apply vN_|apply vD_ | refine vS_ ?_ GE215.out | refine vS_ ?_ GE223.out) | exact HB.out)))); have n5_ := Aside0.mk (Kd.R_lower (Kd.R_new' (Kd.R_new' (Kd.R_new' (Kd.R_new' ho1 (Kd.R_lt (by (with_reducible repeat first|apply rA_|apply rN_|apply rD_); exact HO_216000.out))) (Kd.R_lt (by (with_reducible repeat first|apply rA_|apply rN_|apply rD_); exact HO_216001.out))) (Kd.R_lt (by (with_reducible repeat first|apply rA_|apply rN_|apply rD_); exact HO_224000.out))) (Kd.R_lt (by (with_reducible repeat first|apply rA_|apply rN_|apply rD_); exact HO_224001.out))) (below_size (by repeat (first | (with_reducible first|exact HB.out|apply vA_|apply vN_|apply vD_ | refine vS_ ?_ GE215.out | refine vS_ ?_ GE223.out) | exact HB.out)))); have n6_ := Aside0.mk (blk_below (by (with_reducible repeat first|apply qN_|apply qD_|apply qA_); exact BK215.out) hb); have n7_ := Aside0.mk (blk_below (by (with_reducible repeat first|apply qN_|apply qD_|apply qA_); exact BK223.out) hb); have n8_ := Aside0.mk (below_step (by repeat (first | (with_reducible first|exact HB.out|apply vA_|apply vN_|apply vD_ | refine vS_ ?_ GE215.out | refine vS_ ?_ GE223.out) | exact HB.out)) hb); clear HO_216000; clear HO_216001; clear HO_224000; clear HO_224001; clear BK215; clear BK223; clear HB; have HO_216000 := n0_; have HO_216001 := n1_; have HO_224000 := n2_; have HO_224001 := n3_; have HO231 := n4_; have HO234 := n5_; have BK215 := n6_; have BK223 := n7_; have HB := n8_; clear n0_ n1_ n2_ n3_ n4_ n5_ n6_ n7_ n8_; (try clear hb); (try clear hb2); (try clear hk); (try clear hi); (try clear ho0); (try clear ho1)) | ((with_reducible refine gate_dst (N := 9) rfl ?_); refine box_event ?hg (N := 9) ?hd (cs := #[.slice none 0 0, .slice none 0 0]) (t := 33) ?hr ?_; (case hd => rfl); (case hg => rfl); (case hr => first | (go_simp; done) | (go_simp; rfl)); intro gb236 hg w45 hbox hb; have n0_ := Aside0.mk (Kd.R_below (by (with_reducible repeat first|apply rA_|apply rN_|apply rD_); exact HO_216000.out) hb); have n1_ := Aside0.mk (Kd.R_below (by (with_reducible repeat first|apply rA_|apply rN_|apply rD_); exact HO_216001.out) hb); have n2_ := Aside0.mk (Kd.R_below (by (with_reducible repeat first|apply rA_|apply rN_|apply rD_); exact HO_224000.out) hb); have n3_ := Aside0.mk (Kd.R_below (by (with_reducible repeat first|apply rA_|apply rN_|apply rD_); exact HO_224001.out) hb); have n4_ := Aside0.mk (Kd.R_below (by (with_reducible repeat first|apply rA_|apply rN_|apply rD_); exact HO231.out) hb); have n5_ := Aside0.mk (Kd.R_below (by (with_reducible repeat first|apply rA_|apply rN_|apply rD_); exact HO234.out) hb); have n6_ := Aside0.mk (blk_below (by (with_reducible repeat first|apply qN_|apply qD_|apply qA_); exact BK215.out) hb); have n7_ := Aside0.mk (blk_below (by (with_reducible repeat first|apply qN_|apply qD_|apply qA_); exact BK223.out) hb); have n8_ := Aside0.mk (below_step (by repeat (first | (with_reducible first|exact HB.out|apply vA_|apply vN_|apply vD_ | refine vS_ ?_ GE215.out | refine vS_ ?_ GE223.out) | exact HB.out)) hb); have n9_ := Aside0.mk (hbox); have n10_ := Aside0.mk ((by rw [hg]; exact (below_size (by repeat (first | (with_reducible first|exact HB.out|apply vA_|apply vN_|apply vD_ | refine vS_ ?_ GE215.out | refine vS_ ?_ GE223.out) | exact HB.out))) : w.heap.size ≤ gb236)); have n11_ := Aside0.mk ((by rw [hg]; exact (below_size (by repeat (first | (with_reducible first|exact HB.out|apply vA_|apply vN_|apply vD_ | refine vS_ ?_ GE215.out | refine vS_ ?_ GE223.out) | exact HB.out))) : w.heap.size ≤ gb236)); have n12_ := Aside0.mk ((by rw [hg]; exact Nat.ne_of_lt (blk_lt (g := gb215) (o := .cells #[.slice Ao8 t208.length co8, .slice Ao10 t211.length co10] 33 (0, 0)) (by (with_reducible repeat first|apply qN_|apply qD_|apply qA_); exact BK215.out)) : gb215 ≠ gb236)); have n13_ := Aside0.mk ((by rw [hg]; exact Nat.ne_of_gt (blk_lt (g := gb215) (o := .cells #[.slice Ao8 t208.length co8, .slice Ao10 t211.length co10] 33 (0, 0)) (by (with_reducible repeat first|apply qN_|apply qD_|apply qA_); exact BK215.out)) : gb236 ≠ gb215)); have n14_ := Aside0.mk ((by rw [hg]; exact Nat.ne_of_lt (blk_lt (g := gb223) (o := .cells #[.slice Ao13 t216.length co13, .slice Ao16 t219.length co16] 33 (0, 0)) (by (with_reducible repeat first|apply qN_|apply qD_|apply qA_); exact BK223.out)) : gb223 ≠ gb236)); have n15_ := Aside0.mk ((by rw [hg]; exact Nat.ne_of_gt (blk_lt (g := gb223) (o := .cells #[.slice Ao13 t216.length co13, .slice Ao16 t219.length co16] 33 (0, 0)) (by (with_reducible repeat first|apply qN_|apply qD_|apply qA_); exact BK223.out)) : gb236 ≠ gb223)); clear HO_216000; clear HO_216001; clear HO_224000; clear HO_224001; clear HO231; clear HO234; clear BK215; clear BK223; clear HB; have HO_216000 := n0_; have HO_216001 := n1_; have HO_224000 := n2_; have HO_224001 := n3_; have HO231 := n4_; have HO234 := n5_; have BK215 := n6_; have BK223 := n7_; have HB := n8_; have BK236 := n9_; have GW236 := n10_; have GE236 := n11_; have NB215_236 := n12_; have NB236_215 := n13_; have NB223_236 := n14_; have NB236_223 := n15_; clear n0_ n1_ n2_ n3_ n4_ n5_ n6_ n7_ n8_ n9_ n10_ n11_ n12_ n13_ n14_ n15_; clear hb hbox hg; obtain ⟨Ao46, co46, eo46⟩ := Kd.R_slice HO231.out; subst eo46; have hnb47 := NB236_215.out; have hnc47 := NB215_236.out; have hnb48 := NB236_223.out; have hnc48 := NB223_236.out; have hcz49_0 : w45.cell? ⟨gb236, 0, none⟩ = some (.slice none 0 0) := (blk_cell BK236.out 0).trans rfl; have hcz49_1 : w45.cell? ⟨gb236, 1, none⟩ = some (.slice none 0 0) := (blk_cell BK236.out 1).trans rfl; have hfz49_0 := blk_frozen BK236.out 0; have hfz49_1 := blk_frozen BK236.out 1; obtain ⟨Ao50, co50, eo50⟩ := Kd.R_slice HO234.out; subst eo50))
              (try simp only [Act.put, List.setIfInBounds_toArray, List.set_cons_zero, List.set_cons_succ])
              go_cut [57] (fun v57 wc => ∃ (kq : Nat) (x57_37 : Bool), v57 = .bool x57_37 ∧ Aside0 (laws_FnExactReadPct.j1 kq t225 x57_37 t226 t227 = some r) ∧ Aside0 (kq ≤ kj4) ∧ Aside0 (Kd.R (Kd.int .i64) 3 wc w.heap.size (fun k_ => some k_ ≠ ((.slice Ao10 t211.length co10) : Value).ownBlock ∧ some k_ ≠ ((.slice Ao13 t216.length co13) : Value).ownBlock ∧ some k_ ≠ ((.slice Ao16 t219.length co16) : Value).ownBlock ∧ some k_ ≠ ((.slice Ao46 t229.length co46) : Value).ownBlock ∧ some k_ ≠ ((.slice Ao50 t232.length co50) : Value).ownBlock) (.slice Ao8 t208.length co8) t208) ∧ Aside0 (Kd.R (Kd.int .i64) 3 wc w.heap.size (fun k_ => some k_ ≠ ((.slice Ao8 t208.length co8) : Value).ownBlock ∧ some k_ ≠ ((.slice Ao13 t216.length co13) : Value).ownBlock ∧ some k_ ≠ ((.slice Ao16 t219.length co16) : Value).ownBlock ∧ some k_ ≠ ((.slice Ao46 t229.length co46) : Value).ownBlock ∧ some k_ ≠ ((.slice Ao50 t232.length co50) : Value).ownBlock) (.slice Ao10 t211.length co10) t211) ∧ Aside0 (Kd.R (Kd.int .i64) 3 wc w.heap.size (fun k_ => some k_ ≠ ((.slice Ao8 t208.length co8) : Value).ownBlock ∧ some k_ ≠ ((.slice Ao10 t211.length co10) : Value).ownBlock ∧ some k_ ≠ ((.slice Ao16 t219.length co16) : Value).ownBlock ∧ some k_ ≠ ((.slice Ao46 t229.length co46) : Value).ownBlock ∧ some k_ ≠ ((.slice Ao50 t232.length co50) : Value).ownBlock) (.slice Ao13 t216.length co13) t226) ∧ Aside0 (Kd.R (Kd.int .i64) 3 wc w.heap.size (fun k_ => some k_ ≠ ((.slice Ao8 t208.length co8) : Value).ownBlock ∧ some k_ ≠ ((.slice Ao10 t211.length co10) : Value).ownBlock ∧ some k_ ≠ ((.slice Ao13 t216.length co13) : Value).ownBlock ∧ some k_ ≠ ((.slice Ao46 t229.length co46) : Value).ownBlock ∧ some k_ ≠ ((.slice Ao50 t232.length co50) : Value).ownBlock) (.slice Ao16 t219.length co16) t227) ∧ Aside0 (Kd.R (Kd.int .i64) 3 wc w.heap.size (fun k_ => some k_ ≠ ((.slice Ao8 t208.length co8) : Value).ownBlock ∧ some k_ ≠ ((.slice Ao10 t211.length co10) : Value).ownBlock ∧ some k_ ≠ ((.slice Ao13 t216.length co13) : Value).ownBlock ∧ some k_ ≠ ((.slice Ao16 t219.length co16) : Value).ownBlock ∧ some k_ ≠ ((.slice Ao50 t232.length co50) : Value).ownBlock) (.slice Ao46 t229.length co46) t229) ∧ Aside0 (Kd.R (Kd.int .i64) 3 wc w.heap.size (fun k_ => some k_ ≠ ((.slice Ao8 t208.length co8) : Value).ownBlock ∧ some k_ ≠ ((.slice Ao10 t211.length co10) : Value).ownBlock ∧ some k_ ≠ ((.slice Ao13 t216.length co13) : Value).ownBlock ∧ some k_ ≠ ((.slice Ao16 t219.length co16) : Value).ownBlock ∧ some k_ ≠ ((.slice Ao46 t229.length co46) : Value).ownBlock) (.slice Ao50 t232.length co50) t232) ∧ Aside0 (wc.heap[gb215]? = some (.cells #[(.slice Ao8 t208.length co8), (.slice Ao10 t211.length co10)] 33 (0, 0))) ∧ Aside0 (wc.heap[gb223]? = some (.cells #[(.slice Ao13 t216.length co13), (.slice Ao16 t219.length co16)] 33 (0, 0))) ∧ Aside0 (wc.heap[gb236]? = some (.cells #[(.slice Ao46 t229.length co46), (.slice Ao50 t232.length co50)] 33 (0, 0))) ∧ Aside0 (Below w.heap.size w wc))
              case first =>
                have H := HC38.out
                clear HC38
                replace H := Option.bind_eq_some_iff.mp H
                obtain ⟨t237, A510, H⟩ := H
                replace H : (if t237 = true then (laws_FnExactReadPct.j1 kj4 t225 (t235 != t214) t226 t227) else (laws_FnExactReadPct.j1 kj4 t225 true t226 t227)) = some r := H
                have A51 := Aside0.mk A510
                clear A510
                by_cases c52 : t237 = true
                · subst c52
                  have H1 : (laws_FnExactReadPct.j1 kj4 t225 (t235 != t214) t226 t227) = some r := by rw [if_pos rfl] at H; exact H
                  clear H
                  have H := H1
                  clear H1
                  have H' := Aside0.mk H
                  clear H
                  have hnb53 := NB236_215.out
                  have hnc53 := NB215_236.out
                  have hnb54 := NB236_223.out
                  have hnc54 := NB223_236.out
                  have hcz55_0 : w45.cell? ⟨gb236, 0, none⟩ = some (.slice none 0 0) := (blk_cell BK236.out 0).trans rfl
                  have hcz55_1 : w45.cell? ⟨gb236, 1, none⟩ = some (.slice none 0 0) := (blk_cell BK236.out 1).trans rfl
                  have hfz55_0 := blk_frozen BK236.out 0
                  have hfz55_1 := blk_frozen BK236.out 1
                  have hnb56 := NB215_223.out
                  have hnc56 := NB223_215.out
                  have hcz57_0 : w45.cell? ⟨gb215, 0, none⟩ = some (.slice Ao8 t208.length co8) := (blk_cell BK215.out 0).trans rfl
                  have hcz57_1 : w45.cell? ⟨gb215, 1, none⟩ = some (.slice Ao10 t211.length co10) := (blk_cell BK215.out 1).trans rfl
                  have hfz57_0 := blk_frozen BK215.out 0
                  have hfz57_1 := blk_frozen BK215.out 1
                  go_wp2_with (first | ((with_reducible refine gate_callee (f := 15) rfl ?_); refine goesL_ (some 51) rfl rfl Tryd.func15 (by kernel_rfl) rfl #[.agg #[.slice Ao46 t229.length co46, .slice Ao50 t232.length co50], .agg #[.slice Ao8 t208.length co8, .slice Ao10 t211.length co10]] rfl (by (try simp only [List.map_toArray, List.map_cons, List.map_nil]); first | done | rfl | (simp only [List.length_drop, List.length_take]; rfl)) ?_; (with_reducible refine (laws_eqPct.calls kj4 _ _ t229 _ _ t232 _ _ t208 _ _ t211 true _ ?side1 ?side2 ?side3 ?side4 ?side5 ?side6 ?side7 ?side8 A51.out).mono ?_); (case side1 => refine (Kd.R_reads' (e := 3) (base := w.heap.size) (ok := fun k_ => ((((some k_ ≠ (.slice Ao50 t232.length co50 : Value).ownBlock ∧ some k_ ≠ (.slice Ao8 t208.length co8 : Value).ownBlock) ∧ some k_ ≠ (.slice Ao10 t211.length co10 : Value).ownBlock) ∧ some k_ ≠ (.slice Ao13 t216.length co13 : Value).ownBlock) ∧ some k_ ≠ (.slice Ao16 t219.length co16 : Value).ownBlock)) (n := t229.length) (c := co46) ?_).2.2; exact (by (with_reducible repeat first|apply rA_|apply rN_|apply rD_); exact (Kd.R_mono (Kd.R_far (p := ⟨gb236, 1, none⟩) (Kd.R_far (p := ⟨gb236, 0, none⟩) (Kd.R_types HO231.out BK236.out (by decide)) (fun _ hk => hk.2) (.slice Ao46 t229.length co46)) (fun _ hk => hk.2) (.slice Ao50 t232.length co50)) (fun _ h_ => h_.1)))); (case side2 => exact (Kd.R_reads' HO231.out).2.1); (case side3 => refine (Kd.R_reads' (e := 3) (base := w.heap.size) (ok := fun k_ => ((((some k_ ≠ (.slice Ao46 t229.length co46 : Value).ownBlock ∧ some k_ ≠ (.slice Ao8 t208.length co8 : Value).ownBlock) ∧ some k_ ≠ (.slice Ao10 t211.length co10 : Value).ownBlock) ∧ some k_ ≠ (.slice Ao13 t216.length co13 : Value).ownBlock) ∧ some k_ ≠ (.slice Ao16 t219.length co16 : Value).ownBlock)) (n := t232.length) (c := co50) ?_).2.2; exact (by (with_reducible repeat first|apply rA_|apply rN_|apply rD_); exact (Kd.R_mono (Kd.R_far (p := ⟨gb236, 1, none⟩) (Kd.R_far (p := ⟨gb236, 0, none⟩) (Kd.R_types HO234.out BK236.out (by decide)) (fun _ hk => hk.2) (.slice Ao46 t229.length co46)) (fun _ hk => hk.2) (.slice Ao50 t232.length co50)) (fun _ h_ => h_.1)))); (case side4 => exact (Kd.R_reads' HO234.out).2.1); (case side5 => refine (Kd.R_reads' (e := 3) (base := w.heap.size) (ok := fun k_ => (((some k_ ≠ (.slice Ao10 t211.length co10 : Value).ownBlock ∧ (some k_ ≠ (.slice Ao13 t216.length co13 : Value).ownBlock ∧ some k_ ≠ (.slice Ao16 t219.length co16 : Value).ownBlock)) ∧ some k_ ≠ (.slice Ao46 t229.length co46 : Value).ownBlock) ∧ some k_ ≠ (.slice Ao50 t232.length co50 : Value).ownBlock)) (n := t208.length) (c := co8) ?_).2.2; exact (by (with_reducible repeat first|apply rA_|apply rN_|apply rD_); exact (Kd.R_mono (Kd.R_far (p := ⟨gb236, 1, none⟩) (Kd.R_far (p := ⟨gb236, 0, none⟩) (Kd.R_types HO_216000.out BK236.out (by decide)) (fun _ hk => hk.2) (.slice Ao46 t229.length co46)) (fun _ hk => hk.2) (.slice Ao50 t232.length co50)) (fun _ h_ => h_.1)))); (case side6 => exact (Kd.R_reads' HO_216000.out).2.1); (case side7 => refine (Kd.R_reads' (e := 3) (base := w.heap.size) (ok := fun k_ => (((some k_ ≠ (.slice Ao8 t208.length co8 : Value).ownBlock ∧ (some k_ ≠ (.slice Ao13 t216.length co13 : Value).ownBlock ∧ some k_ ≠ (.slice Ao16 t219.length co16 : Value).ownBlock)) ∧ some k_ ≠ (.slice Ao46 t229.length co46 : Value).ownBlock) ∧ some k_ ≠ (.slice Ao50 t232.length co50 : Value).ownBlock)) (n := t211.length) (c := co10) ?_).2.2; exact (by (with_reducible repeat first|apply rA_|apply rN_|apply rD_); exact (Kd.R_mono (Kd.R_far (p := ⟨gb236, 1, none⟩) (Kd.R_far (p := ⟨gb236, 0, none⟩) (Kd.R_types HO_216001.out BK236.out (by decide)) (fun _ hk => hk.2) (.slice Ao46 t229.length co46)) (fun _ hk => hk.2) (.slice Ao50 t232.length co50)) (fun _ h_ => h_.1)))); (case side8 => exact (Kd.R_reads' HO_216001.out).2.1); rintro e w58 ⟨rfl, hb⟩; refine ⟨_, rfl, ?_⟩; have n0_ := Aside0.mk (Kd.R_below (by (with_reducible repeat first|apply rA_|apply rN_|apply rD_); exact (Kd.R_mono (Kd.R_far (p := ⟨gb236, 1, none⟩) (Kd.R_far (p := ⟨gb236, 0, none⟩) (Kd.R_types HO_216000.out BK236.out (by decide)) (fun _ hk => hk.2) (.slice Ao46 t229.length co46)) (fun _ hk => hk.2) (.slice Ao50 t232.length co50)) (fun _ h_ => h_.1))) hb); have n1_ := Aside0.mk (Kd.R_below (by (with_reducible repeat first|apply rA_|apply rN_|apply rD_); exact (Kd.R_mono (Kd.R_far (p := ⟨gb236, 1, none⟩) (Kd.R_far (p := ⟨gb236, 0, none⟩) (Kd.R_types HO_216001.out BK236.out (by decide)) (fun _ hk => hk.2) (.slice Ao46 t229.length co46)) (fun _ hk => hk.2) (.slice Ao50 t232.length co50)) (fun _ h_ => h_.1))) hb); have n2_ := Aside0.mk (Kd.R_below (by (with_reducible repeat first|apply rA_|apply rN_|apply rD_); exact (Kd.R_mono (Kd.R_far (p := ⟨gb236, 1, none⟩) (Kd.R_far (p := ⟨gb236, 0, none⟩) (Kd.R_types HO_224000.out BK236.out (by decide)) (fun _ hk => hk.2) (.slice Ao46 t229.length co46)) (fun _ hk => hk.2) (.slice Ao50 t232.length co50)) (fun _ h_ => h_.1))) hb); have n3_ := Aside0.mk (Kd.R_below (by (with_reducible repeat first|apply rA_|apply rN_|apply rD_); exact (Kd.R_mono (Kd.R_far (p := ⟨gb236, 1, none⟩) (Kd.R_far (p := ⟨gb236, 0, none⟩) (Kd.R_types HO_224001.out BK236.out (by decide)) (fun _ hk => hk.2) (.slice Ao46 t229.length co46)) (fun _ hk => hk.2) (.slice Ao50 t232.length co50)) (fun _ h_ => h_.1))) hb); have n4_ := Aside0.mk (Kd.R_below (by (with_reducible repeat first|apply rA_|apply rN_|apply rD_); exact (Kd.R_mono (Kd.R_far (p := ⟨gb236, 1, none⟩) (Kd.R_far (p := ⟨gb236, 0, none⟩) (Kd.R_types HO231.out BK236.out (by decide)) (fun _ hk => hk.2) (.slice Ao46 t229.length co46)) (fun _ hk => hk.2) (.slice Ao50 t232.length co50)) (fun _ h_ => h_.1))) hb); have n5_ := Aside0.mk (Kd.R_below (by (with_reducible repeat first|apply rA_|apply rN_|apply rD_); exact (Kd.R_mono (Kd.R_far (p := ⟨gb236, 1, none⟩) (Kd.R_far (p := ⟨gb236, 0, none⟩) (Kd.R_types HO234.out BK236.out (by decide)) (fun _ hk => hk.2) (.slice Ao46 t229.length co46)) (fun _ hk => hk.2) (.slice Ao50 t232.length co50)) (fun _ h_ => h_.1))) hb); have n6_ := Aside0.mk (blk_below (g := gb215) (o := .cells #[.slice Ao8 t208.length co8, .slice Ao10 t211.length co10] 33 (0, 0)) (by (with_reducible repeat first|apply qN_|apply qD_|apply qA_); refine blk_far ?_ NB215_236.out _; (with_reducible repeat first|apply qN_|apply qD_|apply qA_); refine blk_far ?_ NB215_236.out _; (with_reducible repeat first|apply qN_|apply qD_|apply qA_); exact BK215.out) hb); have n7_ := Aside0.mk (blk_below (g := gb223) (o := .cells #[.slice Ao13 t216.length co13, .slice Ao16 t219.length co16] 33 (0, 0)) (by (with_reducible repeat first|apply qN_|apply qD_|apply qA_); refine blk_far ?_ NB223_236.out _; (with_reducible repeat first|apply qN_|apply qD_|apply qA_); refine blk_far ?_ NB223_236.out _; (with_reducible repeat first|apply qN_|apply qD_|apply qA_); exact BK223.out) hb); have n8_ := Aside0.mk (blk_below (g := gb236) (o := .cells #[.slice Ao46 t229.length co46, .slice Ao50 t232.length co50] 33 (0, 0)) (by (with_reducible repeat first|apply qN_|apply qD_|apply qA_); refine blk_put (cs := #[.slice Ao46 t229.length co46, .slice none 0 0]) ?_ 1 _ rfl; (with_reducible repeat first|apply qN_|apply qD_|apply qA_); refine blk_put (cs := #[.slice none 0 0, .slice none 0 0]) ?_ 0 _ rfl; (with_reducible repeat first|apply qN_|apply qD_|apply qA_); exact BK236.out) hb); have n9_ := Aside0.mk (below_step (by repeat (first | (with_reducible first|exact HB.out|apply vA_|apply vN_|apply vD_ | refine vS_ ?_ GE215.out | refine vS_ ?_ GE223.out | refine vS_ ?_ GE236.out) | exact HB.out)) hb); clear HO_216000; clear HO_216001; clear HO_224000; clear HO_224001; clear HO231; clear HO234; clear BK215; clear BK223; clear BK236; clear HB; have HO_216000 := n0_; have HO_216001 := n1_; have HO_224000 := n2_; have HO_224001 := n3_; have HO231 := n4_; have HO234 := n5_; have BK215 := n6_; have BK223 := n7_; have BK236 := n8_; have HB := n9_; clear n0_ n1_ n2_ n3_ n4_ n5_ n6_ n7_ n8_ n9_; (try clear hb); (try clear hb2); (try clear hk); (try clear hi)))
                  go_meet
                  case rel => exact ⟨_, ((t235 != t214)), (by first | rfl | (simp; done) | (simp [*]; done)), H', ⟨by have := HJ4.out; first | omega | exact Nat.le_refl _⟩, ⟨by (with_reducible repeat first|apply rA_|apply rN_|apply rD_); exact Kd.R_mono HO_216000.out (fun _ hk => ⟨hk.1.1.1, ⟨hk.1.1.2.1, ⟨hk.1.1.2.2, ⟨hk.1.2, hk.2⟩⟩⟩⟩)⟩, ⟨by (with_reducible repeat first|apply rA_|apply rN_|apply rD_); exact Kd.R_mono HO_216001.out (fun _ hk => ⟨hk.1.1.1, ⟨hk.1.1.2.1, ⟨hk.1.1.2.2, ⟨hk.1.2, hk.2⟩⟩⟩⟩)⟩, ⟨by (with_reducible repeat first|apply rA_|apply rN_|apply rD_); exact Kd.R_mono HO_224000.out (fun _ hk => ⟨hk.1.1.1, ⟨hk.1.1.2.1, ⟨hk.1.1.2.2, ⟨hk.1.2, hk.2⟩⟩⟩⟩)⟩, ⟨by (with_reducible repeat first|apply rA_|apply rN_|apply rD_); exact Kd.R_mono HO_224001.out (fun _ hk => ⟨hk.1.1.1, ⟨hk.1.1.2.1, ⟨hk.1.1.2.2, ⟨hk.1.2, hk.2⟩⟩⟩⟩)⟩, ⟨by (with_reducible repeat first|apply rA_|apply rN_|apply rD_); exact Kd.R_mono HO231.out (fun _ hk => ⟨hk.1.1.1.2, ⟨hk.1.1.2, ⟨hk.1.2, ⟨hk.2, hk.1.1.1.1⟩⟩⟩⟩)⟩, ⟨by (with_reducible repeat first|apply rA_|apply rN_|apply rD_); exact Kd.R_mono HO234.out (fun _ hk => ⟨hk.1.1.1.2, ⟨hk.1.1.2, ⟨hk.1.2, ⟨hk.2, hk.1.1.1.1⟩⟩⟩⟩)⟩, ⟨by (with_reducible repeat first|apply qN_|apply qD_|apply qA_); exact BK215.out⟩, ⟨by (with_reducible repeat first|apply qN_|apply qD_|apply qA_); exact BK223.out⟩, ⟨by (with_reducible repeat first|apply qN_|apply qD_|apply qA_); exact BK236.out⟩, ⟨by repeat (first | (with_reducible first|exact HB.out|apply vA_|apply vN_|apply vD_ | refine vS_ ?_ GE215.out | refine vS_ ?_ GE223.out | refine vS_ ?_ GE236.out) | exact HB.out)⟩⟩
                · replace c52 := Bool.eq_false_iff.mpr c52
                  subst c52
                  have H1 : (laws_FnExactReadPct.j1 kj4 t225 true t226 t227) = some r := by rw [if_neg (show ¬ (false = true) by decide)] at H; exact H
                  clear H
                  have H := H1
                  clear H1
                  have H' := Aside0.mk H
                  clear H
                  have hnb59 := NB236_215.out
                  have hnc59 := NB215_236.out
                  have hnb60 := NB236_223.out
                  have hnc60 := NB223_236.out
                  have hcz61_0 : w45.cell? ⟨gb236, 0, none⟩ = some (.slice none 0 0) := (blk_cell BK236.out 0).trans rfl
                  have hcz61_1 : w45.cell? ⟨gb236, 1, none⟩ = some (.slice none 0 0) := (blk_cell BK236.out 1).trans rfl
                  have hfz61_0 := blk_frozen BK236.out 0
                  have hfz61_1 := blk_frozen BK236.out 1
                  have hnb62 := NB215_223.out
                  have hnc62 := NB223_215.out
                  have hcz63_0 : w45.cell? ⟨gb215, 0, none⟩ = some (.slice Ao8 t208.length co8) := (blk_cell BK215.out 0).trans rfl
                  have hcz63_1 : w45.cell? ⟨gb215, 1, none⟩ = some (.slice Ao10 t211.length co10) := (blk_cell BK215.out 1).trans rfl
                  have hfz63_0 := blk_frozen BK215.out 0
                  have hfz63_1 := blk_frozen BK215.out 1
                  go_wp2_with (first | ((with_reducible refine gate_callee (f := 15) rfl ?_); refine goesL_ (some 51) rfl rfl Tryd.func15 (by kernel_rfl) rfl #[.agg #[.slice Ao46 t229.length co46, .slice Ao50 t232.length co50], .agg #[.slice Ao8 t208.length co8, .slice Ao10 t211.length co10]] rfl (by (try simp only [List.map_toArray, List.map_cons, List.map_nil]); first | done | rfl | (simp only [List.length_drop, List.length_take]; rfl)) ?_; (with_reducible refine (laws_eqPct.calls kj4 _ _ t229 _ _ t232 _ _ t208 _ _ t211 false _ ?side1 ?side2 ?side3 ?side4 ?side5 ?side6 ?side7 ?side8 A51.out).mono ?_); (case side1 => refine (Kd.R_reads' (e := 3) (base := w.heap.size) (ok := fun k_ => ((((some k_ ≠ (.slice Ao50 t232.length co50 : Value).ownBlock ∧ some k_ ≠ (.slice Ao8 t208.length co8 : Value).ownBlock) ∧ some k_ ≠ (.slice Ao10 t211.length co10 : Value).ownBlock) ∧ some k_ ≠ (.slice Ao13 t216.length co13 : Value).ownBlock) ∧ some k_ ≠ (.slice Ao16 t219.length co16 : Value).ownBlock)) (n := t229.length) (c := co46) ?_).2.2; exact (by (with_reducible repeat first|apply rA_|apply rN_|apply rD_); exact (Kd.R_mono (Kd.R_far (p := ⟨gb236, 1, none⟩) (Kd.R_far (p := ⟨gb236, 0, none⟩) (Kd.R_types HO231.out BK236.out (by decide)) (fun _ hk => hk.2) (.slice Ao46 t229.length co46)) (fun _ hk => hk.2) (.slice Ao50 t232.length co50)) (fun _ h_ => h_.1)))); (case side2 => exact (Kd.R_reads' HO231.out).2.1); (case side3 => refine (Kd.R_reads' (e := 3) (base := w.heap.size) (ok := fun k_ => ((((some k_ ≠ (.slice Ao46 t229.length co46 : Value).ownBlock ∧ some k_ ≠ (.slice Ao8 t208.length co8 : Value).ownBlock) ∧ some k_ ≠ (.slice Ao10 t211.length co10 : Value).ownBlock) ∧ some k_ ≠ (.slice Ao13 t216.length co13 : Value).ownBlock) ∧ some k_ ≠ (.slice Ao16 t219.length co16 : Value).ownBlock)) (n := t232.length) (c := co50) ?_).2.2; exact (by (with_reducible repeat first|apply rA_|apply rN_|apply rD_); exact (Kd.R_mono (Kd.R_far (p := ⟨gb236, 1, none⟩) (Kd.R_far (p := ⟨gb236, 0, none⟩) (Kd.R_types HO234.out BK236.out (by decide)) (fun _ hk => hk.2) (.slice Ao46 t229.length co46)) (fun _ hk => hk.2) (.slice Ao50 t232.length co50)) (fun _ h_ => h_.1)))); (case side4 => exact (Kd.R_reads' HO234.out).2.1); (case side5 => refine (Kd.R_reads' (e := 3) (base := w.heap.size) (ok := fun k_ => (((some k_ ≠ (.slice Ao10 t211.length co10 : Value).ownBlock ∧ (some k_ ≠ (.slice Ao13 t216.length co13 : Value).ownBlock ∧ some k_ ≠ (.slice Ao16 t219.length co16 : Value).ownBlock)) ∧ some k_ ≠ (.slice Ao46 t229.length co46 : Value).ownBlock) ∧ some k_ ≠ (.slice Ao50 t232.length co50 : Value).ownBlock)) (n := t208.length) (c := co8) ?_).2.2; exact (by (with_reducible repeat first|apply rA_|apply rN_|apply rD_); exact (Kd.R_mono (Kd.R_far (p := ⟨gb236, 1, none⟩) (Kd.R_far (p := ⟨gb236, 0, none⟩) (Kd.R_types HO_216000.out BK236.out (by decide)) (fun _ hk => hk.2) (.slice Ao46 t229.length co46)) (fun _ hk => hk.2) (.slice Ao50 t232.length co50)) (fun _ h_ => h_.1)))); (case side6 => exact (Kd.R_reads' HO_216000.out).2.1); (case side7 => refine (Kd.R_reads' (e := 3) (base := w.heap.size) (ok := fun k_ => (((some k_ ≠ (.slice Ao8 t208.length co8 : Value).ownBlock ∧ (some k_ ≠ (.slice Ao13 t216.length co13 : Value).ownBlock ∧ some k_ ≠ (.slice Ao16 t219.length co16 : Value).ownBlock)) ∧ some k_ ≠ (.slice Ao46 t229.length co46 : Value).ownBlock) ∧ some k_ ≠ (.slice Ao50 t232.length co50 : Value).ownBlock)) (n := t211.length) (c := co10) ?_).2.2; exact (by (with_reducible repeat first|apply rA_|apply rN_|apply rD_); exact (Kd.R_mono (Kd.R_far (p := ⟨gb236, 1, none⟩) (Kd.R_far (p := ⟨gb236, 0, none⟩) (Kd.R_types HO_216001.out BK236.out (by decide)) (fun _ hk => hk.2) (.slice Ao46 t229.length co46)) (fun _ hk => hk.2) (.slice Ao50 t232.length co50)) (fun _ h_ => h_.1)))); (case side8 => exact (Kd.R_reads' HO_216001.out).2.1); rintro e w64 ⟨rfl, hb⟩; refine ⟨_, rfl, ?_⟩; have n0_ := Aside0.mk (Kd.R_below (by (with_reducible repeat first|apply rA_|apply rN_|apply rD_); exact (Kd.R_mono (Kd.R_far (p := ⟨gb236, 1, none⟩) (Kd.R_far (p := ⟨gb236, 0, none⟩) (Kd.R_types HO_216000.out BK236.out (by decide)) (fun _ hk => hk.2) (.slice Ao46 t229.length co46)) (fun _ hk => hk.2) (.slice Ao50 t232.length co50)) (fun _ h_ => h_.1))) hb); have n1_ := Aside0.mk (Kd.R_below (by (with_reducible repeat first|apply rA_|apply rN_|apply rD_); exact (Kd.R_mono (Kd.R_far (p := ⟨gb236, 1, none⟩) (Kd.R_far (p := ⟨gb236, 0, none⟩) (Kd.R_types HO_216001.out BK236.out (by decide)) (fun _ hk => hk.2) (.slice Ao46 t229.length co46)) (fun _ hk => hk.2) (.slice Ao50 t232.length co50)) (fun _ h_ => h_.1))) hb); have n2_ := Aside0.mk (Kd.R_below (by (with_reducible repeat first|apply rA_|apply rN_|apply rD_); exact (Kd.R_mono (Kd.R_far (p := ⟨gb236, 1, none⟩) (Kd.R_far (p := ⟨gb236, 0, none⟩) (Kd.R_types HO_224000.out BK236.out (by decide)) (fun _ hk => hk.2) (.slice Ao46 t229.length co46)) (fun _ hk => hk.2) (.slice Ao50 t232.length co50)) (fun _ h_ => h_.1))) hb); have n3_ := Aside0.mk (Kd.R_below (by (with_reducible repeat first|apply rA_|apply rN_|apply rD_); exact (Kd.R_mono (Kd.R_far (p := ⟨gb236, 1, none⟩) (Kd.R_far (p := ⟨gb236, 0, none⟩) (Kd.R_types HO_224001.out BK236.out (by decide)) (fun _ hk => hk.2) (.slice Ao46 t229.length co46)) (fun _ hk => hk.2) (.slice Ao50 t232.length co50)) (fun _ h_ => h_.1))) hb); have n4_ := Aside0.mk (Kd.R_below (by (with_reducible repeat first|apply rA_|apply rN_|apply rD_); exact (Kd.R_mono (Kd.R_far (p := ⟨gb236, 1, none⟩) (Kd.R_far (p := ⟨gb236, 0, none⟩) (Kd.R_types HO231.out BK236.out (by decide)) (fun _ hk => hk.2) (.slice Ao46 t229.length co46)) (fun _ hk => hk.2) (.slice Ao50 t232.length co50)) (fun _ h_ => h_.1))) hb); have n5_ := Aside0.mk (Kd.R_below (by (with_reducible repeat first|apply rA_|apply rN_|apply rD_); exact (Kd.R_mono (Kd.R_far (p := ⟨gb236, 1, none⟩) (Kd.R_far (p := ⟨gb236, 0, none⟩) (Kd.R_types HO234.out BK236.out (by decide)) (fun _ hk => hk.2) (.slice Ao46 t229.length co46)) (fun _ hk => hk.2) (.slice Ao50 t232.length co50)) (fun _ h_ => h_.1))) hb); have n6_ := Aside0.mk (blk_below (g := gb215) (o := .cells #[.slice Ao8 t208.length co8, .slice Ao10 t211.length co10] 33 (0, 0)) (by (with_reducible repeat first|apply qN_|apply qD_|apply qA_); refine blk_far ?_ NB215_236.out _; (with_reducible repeat first|apply qN_|apply qD_|apply qA_); refine blk_far ?_ NB215_236.out _; (with_reducible repeat first|apply qN_|apply qD_|apply qA_); exact BK215.out) hb); have n7_ := Aside0.mk (blk_below (g := gb223) (o := .cells #[.slice Ao13 t216.length co13, .slice Ao16 t219.length co16] 33 (0, 0)) (by (with_reducible repeat first|apply qN_|apply qD_|apply qA_); refine blk_far ?_ NB223_236.out _; (with_reducible repeat first|apply qN_|apply qD_|apply qA_); refine blk_far ?_ NB223_236.out _; (with_reducible repeat first|apply qN_|apply qD_|apply qA_); exact BK223.out) hb); have n8_ := Aside0.mk (blk_below (g := gb236) (o := .cells #[.slice Ao46 t229.length co46, .slice Ao50 t232.length co50] 33 (0, 0)) (by (with_reducible repeat first|apply qN_|apply qD_|apply qA_); refine blk_put (cs := #[.slice Ao46 t229.length co46, .slice none 0 0]) ?_ 1 _ rfl; (with_reducible repeat first|apply qN_|apply qD_|apply qA_); refine blk_put (cs := #[.slice none 0 0, .slice none 0 0]) ?_ 0 _ rfl; (with_reducible repeat first|apply qN_|apply qD_|apply qA_); exact BK236.out) hb); have n9_ := Aside0.mk (below_step (by repeat (first | (with_reducible first|exact HB.out|apply vA_|apply vN_|apply vD_ | refine vS_ ?_ GE215.out | refine vS_ ?_ GE223.out | refine vS_ ?_ GE236.out) | exact HB.out)) hb); clear HO_216000; clear HO_216001; clear HO_224000; clear HO_224001; clear HO231; clear HO234; clear BK215; clear BK223; clear BK236; clear HB; have HO_216000 := n0_; have HO_216001 := n1_; have HO_224000 := n2_; have HO_224001 := n3_; have HO231 := n4_; have HO234 := n5_; have BK215 := n6_; have BK223 := n7_; have BK236 := n8_; have HB := n9_; clear n0_ n1_ n2_ n3_ n4_ n5_ n6_ n7_ n8_ n9_; (try clear hb); (try clear hb2); (try clear hk); (try clear hi)))
                  go_meet
                  case rel => exact ⟨_, (true), (by first | rfl | (simp; done) | (simp [*]; done)), H', ⟨by have := HJ4.out; first | omega | exact Nat.le_refl _⟩, ⟨by (with_reducible repeat first|apply rA_|apply rN_|apply rD_); exact Kd.R_mono HO_216000.out (fun _ hk => ⟨hk.1.1.1, ⟨hk.1.1.2.1, ⟨hk.1.1.2.2, ⟨hk.1.2, hk.2⟩⟩⟩⟩)⟩, ⟨by (with_reducible repeat first|apply rA_|apply rN_|apply rD_); exact Kd.R_mono HO_216001.out (fun _ hk => ⟨hk.1.1.1, ⟨hk.1.1.2.1, ⟨hk.1.1.2.2, ⟨hk.1.2, hk.2⟩⟩⟩⟩)⟩, ⟨by (with_reducible repeat first|apply rA_|apply rN_|apply rD_); exact Kd.R_mono HO_224000.out (fun _ hk => ⟨hk.1.1.1, ⟨hk.1.1.2.1, ⟨hk.1.1.2.2, ⟨hk.1.2, hk.2⟩⟩⟩⟩)⟩, ⟨by (with_reducible repeat first|apply rA_|apply rN_|apply rD_); exact Kd.R_mono HO_224001.out (fun _ hk => ⟨hk.1.1.1, ⟨hk.1.1.2.1, ⟨hk.1.1.2.2, ⟨hk.1.2, hk.2⟩⟩⟩⟩)⟩, ⟨by (with_reducible repeat first|apply rA_|apply rN_|apply rD_); exact Kd.R_mono HO231.out (fun _ hk => ⟨hk.1.1.1.2, ⟨hk.1.1.2, ⟨hk.1.2, ⟨hk.2, hk.1.1.1.1⟩⟩⟩⟩)⟩, ⟨by (with_reducible repeat first|apply rA_|apply rN_|apply rD_); exact Kd.R_mono HO234.out (fun _ hk => ⟨hk.1.1.1.2, ⟨hk.1.1.2, ⟨hk.1.2, ⟨hk.2, hk.1.1.1.1⟩⟩⟩⟩)⟩, ⟨by (with_reducible repeat first|apply qN_|apply qD_|apply qA_); exact BK215.out⟩, ⟨by (with_reducible repeat first|apply qN_|apply qD_|apply qA_); exact BK223.out⟩, ⟨by (with_reducible repeat first|apply qN_|apply qD_|apply qA_); exact BK236.out⟩, ⟨by repeat (first | (with_reducible first|exact HB.out|apply vA_|apply vN_|apply vD_ | refine vS_ ?_ GE215.out | refine vS_ ?_ GE223.out | refine vS_ ?_ GE236.out) | exact HB.out)⟩⟩
              case rest =>
                clear HC38
                try clear c1
                try clear c2
                try clear c2b0
                try clear c2b1
                try clear p2
                try clear c3
                try clear c4
                try clear c5
                try clear c6
                try clear c13
                try clear c14
                try clear c15
                try clear c16
                try clear c17
                try clear c18
                try clear c19
                try clear c23
                try clear c27
                try clear c30
                try clear c30b0
                try clear c31
                try clear c36
                try clear c36b0
                try clear c36b1
                try clear c39
                try clear c47
                try clear c48
                try clear c52
                try clear c53
                try clear c54
                try clear c56
                try clear c59
                try clear c60
                try clear c62
                try clear hcz15_0
                try clear hcz15_1
                try clear hcz20_0
                try clear hcz20_1
                try clear hcz21_0
                try clear hcz21_1
                try clear hcz24_0
                try clear hcz24_1
                try clear hcz25_0
                try clear hcz25_1
                try clear hcz32_0
                try clear hcz32_1
                try clear hcz34_0
                try clear hcz34_1
                try clear hcz40_0
                try clear hcz40_1
                try clear hcz42_0
                try clear hcz42_1
                try clear hcz49_0
                try clear hcz49_1
                try clear hcz55_0
                try clear hcz55_1
                try clear hcz57_0
                try clear hcz57_1
                try clear hcz61_0
                try clear hcz61_1
                try clear hcz63_0
                try clear hcz63_1
                try clear hcz9_0
                try clear hcz9_1
                try clear hfz15_0
                try clear hfz15_1
                try clear hfz20_0
                try clear hfz20_1
                try clear hfz21_0
                try clear hfz21_1
                try clear hfz24_0
                try clear hfz24_1
                try clear hfz25_0
                try clear hfz25_1
                try clear hfz32_0
                try clear hfz32_1
                try clear hfz34_0
                try clear hfz34_1
                try clear hfz40_0
                try clear hfz40_1
                try clear hfz42_0
                try clear hfz42_1
                try clear hfz49_0
                try clear hfz49_1
                try clear hfz55_0
                try clear hfz55_1
                try clear hfz57_0
                try clear hfz57_1
                try clear hfz61_0
                try clear hfz61_1
                try clear hfz63_0
                try clear hfz63_1
                try clear hfz9_0
                try clear hfz9_1
                try clear p2
                obtain ⟨kq, x57_37, rfl, HA, HJ37, HO_216000, HO_216001, HO_224000, HO_224001, HO_237000, HO_237001, BK215, BK223, BK236, HB⟩ := hcut
                have hl224000_37 := (Kd.R_reads' HO_224000.out).1
                rw [hl224000_37] at HO_224000
                (try simp only [hl224000_37])
                (try simp only [hl224000_37] at BK215)
                (try simp only [hl224000_37] at BK223)
                (try simp only [hl224000_37] at BK236)
                (try simp only [hl224000_37] at HO_216000)
                (try simp only [hl224000_37] at HO_216001)
                (try simp only [hl224000_37] at HO_224001)
                (try simp only [hl224000_37] at HO_237000)
                (try simp only [hl224000_37] at HO_237001)
                have hl224001_37 := (Kd.R_reads' HO_224001.out).1
                rw [hl224001_37] at HO_224001
                (try simp only [hl224001_37])
                (try simp only [hl224001_37] at BK215)
                (try simp only [hl224001_37] at BK223)
                (try simp only [hl224001_37] at BK236)
                (try simp only [hl224001_37] at HO_216000)
                (try simp only [hl224001_37] at HO_216001)
                (try simp only [hl224001_37] at HO_224000)
                (try simp only [hl224001_37] at HO_237000)
                (try simp only [hl224001_37] at HO_237001)
                cases kq with
                | zero => exact absurd HA.out (by simp [laws_FnExactReadPct.j1])
                | succ kj37 =>
                  have H := HA.out
                  clear HA
                  simp only [laws_FnExactReadPct.j1] at H
                  by_cases c65 : x57_37 = true
                  · subst c65
                    have H1 : (some false) = some r := by rw [if_pos rfl] at H; exact H
                    clear H
                    have H := H1
                    clear H1
                    obtain rfl := Option.some.inj H
                    go_wp2
                    go_ret
                    exact ⟨by first | rfl | (simp [errW_none, errW_some] <;> rfl) | (simp [*, errW_none, errW_some] <;> rfl), by repeat (first | (with_reducible first|exact HB.out|apply vA_|apply vN_|apply vD_ | refine vS_ ?_ GE215.out | refine vS_ ?_ GE223.out | refine vS_ ?_ GE236.out) | exact HB.out)⟩
                  · replace c65 := Bool.eq_false_iff.mpr c65
                    subst c65
                    have H1 : ((laws_heldPct.f kj37 t226 t227 1).bind fun t238 => (if t238 < 0 then (some false) else (if t238 = t225 then (some true) else (some false)))) = some r := by rw [if_neg (show ¬ (false = true) by decide)] at H; exact H
                    clear H
                    have H := H1
                    clear H1
                    replace H := Option.bind_eq_some_iff.mp H
                    obtain ⟨t238, A660, H⟩ := H
                    replace H : (if t238 < 0 then (some false) else (if t238 = t225 then (some true) else (some false))) = some r := H
                    have A66 := Aside0.mk A660
                    clear A660
                    by_cases c67 : t238 < 0
                    · rw [if_pos c67] at H
                      have c67b0 : decide (t238 < 0) = true := decide_eq_true c67
                      clear c67
                      obtain rfl := Option.some.inj H
                      have hnb68 := NB223_215.out
                      have hnc68 := NB215_223.out
                      have hnb69 := NB223_236.out
                      have hnc69 := NB236_223.out
                      have hcz70_0 : wc.cell? ⟨gb223, 0, none⟩ = some (.slice Ao13 t226.length co13) := (blk_cell BK223.out 0).trans rfl
                      have hcz70_1 : wc.cell? ⟨gb223, 1, none⟩ = some (.slice Ao16 t227.length co16) := (blk_cell BK223.out 1).trans rfl
                      have hfz70_0 := blk_frozen BK223.out 0
                      have hfz70_1 := blk_frozen BK223.out 1
                      go_wp2_with (first | ((with_reducible refine gate_callee (f := 17) rfl ?_); refine goesL_ (some 60) rfl rfl Tryd.func17 (by kernel_rfl) rfl #[.agg #[.slice Ao13 t226.length co13, .slice Ao16 t227.length co16], .int .i64 1] rfl (by (try simp only [List.map_toArray, List.map_cons, List.map_nil]); first | done | rfl | (simp only [List.length_drop, List.length_take]; rfl)) ?_; (with_reducible refine (laws_heldPct.calls kj37 _ _ t226 _ _ t227 1 t238 _ ?side1 ?side2 ?side3 ?side4 A66.out).mono ?_); (case side1 => repeat (first | exact (Kd.R_reads' HO_224000.out).2.2 | with_reducible apply cA_|with_reducible apply cN_|with_reducible apply cD_)); (case side2 => exact (Kd.R_reads' HO_224000.out).2.1); (case side3 => repeat (first | exact (Kd.R_reads' HO_224001.out).2.2 | with_reducible apply cA_|with_reducible apply cN_|with_reducible apply cD_)); (case side4 => exact (Kd.R_reads' HO_224001.out).2.1); rintro e w71 ⟨rfl, hb⟩; refine ⟨_, rfl, ?_⟩; have n0_ := Aside0.mk (Kd.R_below (by (with_reducible repeat first|apply rA_|apply rN_|apply rD_); exact HO_216000.out) hb); have n1_ := Aside0.mk (Kd.R_below (by (with_reducible repeat first|apply rA_|apply rN_|apply rD_); exact HO_216001.out) hb); have n2_ := Aside0.mk (Kd.R_below (by (with_reducible repeat first|apply rA_|apply rN_|apply rD_); exact HO_224000.out) hb); have n3_ := Aside0.mk (Kd.R_below (by (with_reducible repeat first|apply rA_|apply rN_|apply rD_); exact HO_224001.out) hb); have n4_ := Aside0.mk (Kd.R_below (by (with_reducible repeat first|apply rA_|apply rN_|apply rD_); exact HO_237000.out) hb); have n5_ := Aside0.mk (Kd.R_below (by (with_reducible repeat first|apply rA_|apply rN_|apply rD_); exact HO_237001.out) hb); have n6_ := Aside0.mk (blk_below (by (with_reducible repeat first|apply qN_|apply qD_|apply qA_); exact BK215.out) hb); have n7_ := Aside0.mk (blk_below (by (with_reducible repeat first|apply qN_|apply qD_|apply qA_); exact BK223.out) hb); have n8_ := Aside0.mk (blk_below (by (with_reducible repeat first|apply qN_|apply qD_|apply qA_); exact BK236.out) hb); have n9_ := Aside0.mk (below_step (by repeat (first | (with_reducible first|exact HB.out|apply vA_|apply vN_|apply vD_ | refine vS_ ?_ GE215.out | refine vS_ ?_ GE223.out | refine vS_ ?_ GE236.out) | exact HB.out)) hb); clear HO_216000; clear HO_216001; clear HO_224000; clear HO_224001; clear HO_237000; clear HO_237001; clear BK215; clear BK223; clear BK236; clear HB; have HO_216000 := n0_; have HO_216001 := n1_; have HO_224000 := n2_; have HO_224001 := n3_; have HO_237000 := n4_; have HO_237001 := n5_; have BK215 := n6_; have BK223 := n7_; have BK236 := n8_; have HB := n9_; clear n0_ n1_ n2_ n3_ n4_ n5_ n6_ n7_ n8_ n9_; (try clear hb); (try clear hb2); (try clear hk); (try clear hi)))
                      go_ret
                      exact ⟨by first | rfl | (simp [errW_none, errW_some] <;> rfl) | (simp [*, errW_none, errW_some] <;> rfl), by repeat (first | (with_reducible first|exact HB.out|apply vA_|apply vN_|apply vD_ | refine vS_ ?_ GE215.out | refine vS_ ?_ GE223.out | refine vS_ ?_ GE236.out) | exact HB.out)⟩
                    · rw [if_neg c67] at H
                      have c67b0 : decide (t238 < 0) = false := decide_eq_false c67
                      clear c67
                      by_cases c72 : t238 = t225
                      · rw [if_pos c72] at H
                        have c72b0 : (t238 == t225) = true := beq_iff_eq.mpr c72
                        have c72b1 : (t238 != t225) = false := bne_eq_false_iff_eq.mpr c72
                        clear c72
                        obtain rfl := Option.some.inj H
                        have hnb73 := NB223_215.out
                        have hnc73 := NB215_223.out
                        have hnb74 := NB223_236.out
                        have hnc74 := NB236_223.out
                        have hcz75_0 : wc.cell? ⟨gb223, 0, none⟩ = some (.slice Ao13 t226.length co13) := (blk_cell BK223.out 0).trans rfl
                        have hcz75_1 : wc.cell? ⟨gb223, 1, none⟩ = some (.slice Ao16 t227.length co16) := (blk_cell BK223.out 1).trans rfl
                        have hfz75_0 := blk_frozen BK223.out 0
                        have hfz75_1 := blk_frozen BK223.out 1
                        go_wp2_with (first | ((with_reducible refine gate_callee (f := 17) rfl ?_); refine goesL_ (some 60) rfl rfl Tryd.func17 (by kernel_rfl) rfl #[.agg #[.slice Ao13 t226.length co13, .slice Ao16 t227.length co16], .int .i64 1] rfl (by (try simp only [List.map_toArray, List.map_cons, List.map_nil]); first | done | rfl | (simp only [List.length_drop, List.length_take]; rfl)) ?_; (with_reducible refine (laws_heldPct.calls kj37 _ _ t226 _ _ t227 1 t238 _ ?side1 ?side2 ?side3 ?side4 A66.out).mono ?_); (case side1 => repeat (first | exact (Kd.R_reads' HO_224000.out).2.2 | with_reducible apply cA_|with_reducible apply cN_|with_reducible apply cD_)); (case side2 => exact (Kd.R_reads' HO_224000.out).2.1); (case side3 => repeat (first | exact (Kd.R_reads' HO_224001.out).2.2 | with_reducible apply cA_|with_reducible apply cN_|with_reducible apply cD_)); (case side4 => exact (Kd.R_reads' HO_224001.out).2.1); rintro e w76 ⟨rfl, hb⟩; refine ⟨_, rfl, ?_⟩; have n0_ := Aside0.mk (Kd.R_below (by (with_reducible repeat first|apply rA_|apply rN_|apply rD_); exact HO_216000.out) hb); have n1_ := Aside0.mk (Kd.R_below (by (with_reducible repeat first|apply rA_|apply rN_|apply rD_); exact HO_216001.out) hb); have n2_ := Aside0.mk (Kd.R_below (by (with_reducible repeat first|apply rA_|apply rN_|apply rD_); exact HO_224000.out) hb); have n3_ := Aside0.mk (Kd.R_below (by (with_reducible repeat first|apply rA_|apply rN_|apply rD_); exact HO_224001.out) hb); have n4_ := Aside0.mk (Kd.R_below (by (with_reducible repeat first|apply rA_|apply rN_|apply rD_); exact HO_237000.out) hb); have n5_ := Aside0.mk (Kd.R_below (by (with_reducible repeat first|apply rA_|apply rN_|apply rD_); exact HO_237001.out) hb); have n6_ := Aside0.mk (blk_below (by (with_reducible repeat first|apply qN_|apply qD_|apply qA_); exact BK215.out) hb); have n7_ := Aside0.mk (blk_below (by (with_reducible repeat first|apply qN_|apply qD_|apply qA_); exact BK223.out) hb); have n8_ := Aside0.mk (blk_below (by (with_reducible repeat first|apply qN_|apply qD_|apply qA_); exact BK236.out) hb); have n9_ := Aside0.mk (below_step (by repeat (first | (with_reducible first|exact HB.out|apply vA_|apply vN_|apply vD_ | refine vS_ ?_ GE215.out | refine vS_ ?_ GE223.out | refine vS_ ?_ GE236.out) | exact HB.out)) hb); clear HO_216000; clear HO_216001; clear HO_224000; clear HO_224001; clear HO_237000; clear HO_237001; clear BK215; clear BK223; clear BK236; clear HB; have HO_216000 := n0_; have HO_216001 := n1_; have HO_224000 := n2_; have HO_224001 := n3_; have HO_237000 := n4_; have HO_237001 := n5_; have BK215 := n6_; have BK223 := n7_; have BK236 := n8_; have HB := n9_; clear n0_ n1_ n2_ n3_ n4_ n5_ n6_ n7_ n8_ n9_; (try clear hb); (try clear hb2); (try clear hk); (try clear hi)))
                        go_ret
                        exact ⟨by first | rfl | (simp [errW_none, errW_some] <;> rfl) | (simp [*, errW_none, errW_some] <;> rfl), by repeat (first | (with_reducible first|exact HB.out|apply vA_|apply vN_|apply vD_ | refine vS_ ?_ GE215.out | refine vS_ ?_ GE223.out | refine vS_ ?_ GE236.out) | exact HB.out)⟩
                      · rw [if_neg c72] at H
                        have c72b0 : (t238 == t225) = false := beq_eq_false_iff_ne.mpr c72
                        have c72b1 : (t238 != t225) = true := bne_iff_ne.mpr c72
                        obtain rfl := Option.some.inj H
                        have hnb77 := NB223_215.out
                        have hnc77 := NB215_223.out
                        have hnb78 := NB223_236.out
                        have hnc78 := NB236_223.out
                        have hcz79_0 : wc.cell? ⟨gb223, 0, none⟩ = some (.slice Ao13 t226.length co13) := (blk_cell BK223.out 0).trans rfl
                        have hcz79_1 : wc.cell? ⟨gb223, 1, none⟩ = some (.slice Ao16 t227.length co16) := (blk_cell BK223.out 1).trans rfl
                        have hfz79_0 := blk_frozen BK223.out 0
                        have hfz79_1 := blk_frozen BK223.out 1
                        go_wp2_with (first | ((with_reducible refine gate_callee (f := 17) rfl ?_); refine goesL_ (some 60) rfl rfl Tryd.func17 (by kernel_rfl) rfl #[.agg #[.slice Ao13 t226.length co13, .slice Ao16 t227.length co16], .int .i64 1] rfl (by (try simp only [List.map_toArray, List.map_cons, List.map_nil]); first | done | rfl | (simp only [List.length_drop, List.length_take]; rfl)) ?_; (with_reducible refine (laws_heldPct.calls kj37 _ _ t226 _ _ t227 1 t238 _ ?side1 ?side2 ?side3 ?side4 A66.out).mono ?_); (case side1 => repeat (first | exact (Kd.R_reads' HO_224000.out).2.2 | with_reducible apply cA_|with_reducible apply cN_|with_reducible apply cD_)); (case side2 => exact (Kd.R_reads' HO_224000.out).2.1); (case side3 => repeat (first | exact (Kd.R_reads' HO_224001.out).2.2 | with_reducible apply cA_|with_reducible apply cN_|with_reducible apply cD_)); (case side4 => exact (Kd.R_reads' HO_224001.out).2.1); rintro e w80 ⟨rfl, hb⟩; refine ⟨_, rfl, ?_⟩; have n0_ := Aside0.mk (Kd.R_below (by (with_reducible repeat first|apply rA_|apply rN_|apply rD_); exact HO_216000.out) hb); have n1_ := Aside0.mk (Kd.R_below (by (with_reducible repeat first|apply rA_|apply rN_|apply rD_); exact HO_216001.out) hb); have n2_ := Aside0.mk (Kd.R_below (by (with_reducible repeat first|apply rA_|apply rN_|apply rD_); exact HO_224000.out) hb); have n3_ := Aside0.mk (Kd.R_below (by (with_reducible repeat first|apply rA_|apply rN_|apply rD_); exact HO_224001.out) hb); have n4_ := Aside0.mk (Kd.R_below (by (with_reducible repeat first|apply rA_|apply rN_|apply rD_); exact HO_237000.out) hb); have n5_ := Aside0.mk (Kd.R_below (by (with_reducible repeat first|apply rA_|apply rN_|apply rD_); exact HO_237001.out) hb); have n6_ := Aside0.mk (blk_below (by (with_reducible repeat first|apply qN_|apply qD_|apply qA_); exact BK215.out) hb); have n7_ := Aside0.mk (blk_below (by (with_reducible repeat first|apply qN_|apply qD_|apply qA_); exact BK223.out) hb); have n8_ := Aside0.mk (blk_below (by (with_reducible repeat first|apply qN_|apply qD_|apply qA_); exact BK236.out) hb); have n9_ := Aside0.mk (below_step (by repeat (first | (with_reducible first|exact HB.out|apply vA_|apply vN_|apply vD_ | refine vS_ ?_ GE215.out | refine vS_ ?_ GE223.out | refine vS_ ?_ GE236.out) | exact HB.out)) hb); clear HO_216000; clear HO_216001; clear HO_224000; clear HO_224001; clear HO_237000; clear HO_237001; clear BK215; clear BK223; clear BK236; clear HB; have HO_216000 := n0_; have HO_216001 := n1_; have HO_224000 := n2_; have HO_224001 := n3_; have HO_237000 := n4_; have HO_237001 := n5_; have BK215 := n6_; have BK223 := n7_; have BK236 := n8_; have HB := n9_; clear n0_ n1_ n2_ n3_ n4_ n5_ n6_ n7_ n8_ n9_; (try clear hb); (try clear hb2); (try clear hk); (try clear hi)))
                        go_ret
                        exact ⟨by first | rfl | (simp [errW_none, errW_some] <;> rfl) | (simp [*, errW_none, errW_some] <;> rfl), by repeat (first | (with_reducible first|exact HB.out|apply vA_|apply vN_|apply vD_ | refine vS_ ?_ GE215.out | refine vS_ ?_ GE223.out | refine vS_ ?_ GE236.out) | exact HB.out)⟩
            · rw [if_neg c36] at H
              have c36b0 : (t228 == t225) = false := beq_eq_false_iff_ne.mpr c36
              have c36b1 : (t228 != t225) = true := bne_iff_ne.mpr c36
              obtain rfl := Option.some.inj H
              have hnb81 := NB223_215.out
              have hnc81 := NB215_223.out
              have hcz82_0 : wc.cell? ⟨gb223, 0, none⟩ = some (.slice Ao13 t216.length co13) := (blk_cell BK223.out 0).trans rfl
              have hcz82_1 : wc.cell? ⟨gb223, 1, none⟩ = some (.slice Ao16 t219.length co16) := (blk_cell BK223.out 1).trans rfl
              have hfz82_0 := blk_frozen BK223.out 0
              have hfz82_1 := blk_frozen BK223.out 1
              go_wp2_with (first | ((with_reducible refine gate_callee (f := 16) rfl ?_); refine goesL_ (some 35) rfl rfl Tryd.func16 (by kernel_rfl) rfl #[.agg #[.slice Ao13 t216.length co13, .slice Ao16 t219.length co16], .int .i64 1] rfl (by (try simp only [List.map_toArray, List.map_cons, List.map_nil]); first | done | rfl | (simp only [List.length_drop, List.length_take]; rfl)) ?_; (with_reducible refine (laws_markPct.calls kj4 (fun k_ => some k_ = (.slice Ao13 t216.length co13 : Value).ownBlock) (.slice Ao13 t216.length co13) t216 (fun k_ => some k_ = (.slice Ao16 t219.length co16 : Value).ownBlock) (.slice Ao16 t219.length co16) t219 1 t225 t226 t227 w _ ?side1 ?side2 ?side3 ?side4 ?side5 A28.out).mono ?_); (case side1 => repeat (first | (with_reducible first|exact HB.out|apply vA_|apply vN_|apply vD_ | refine vS_ ?_ GE215.out | refine vS_ ?_ GE223.out) | exact HB.out)); (case side2 => exact Kd.R_tight rfl HO_224000.out); (case side3 => exact fun k_ e_ => (HO_224000.out.1 k_ e_.symm).2.2); (case side4 => exact Kd.R_tight rfl HO_224001.out); (case side5 => exact fun k_ e_ => (HO_224001.out.1 k_ e_.symm).2.2); rintro e w83 ⟨rfl, hy0, hy1, hb, hkp⟩; refine ⟨_, rfl, ?_⟩; have n0_ := Aside0.mk (Kd.R_mono (ok' := fun k_ => some k_ ≠ (.slice Ao10 t211.length co10 : Value).ownBlock ∧ some k_ ≠ (.slice Ao13 t216.length co13 : Value).ownBlock ∧ some k_ ≠ (.slice Ao16 t219.length co16 : Value).ownBlock) (Kd.R_keptB (HO_216000.out) hkp (fun k_ hk_ hs_ => Or.elim hs_ (fun e_ => (hk_.2.1) e_) (fun e_ => (hk_.2.2) e_))) (fun k_ hk_ => ⟨hk_.1.1, hk_.1.2.1, hk_.1.2.2⟩)); have n1_ := Aside0.mk (Kd.R_mono (ok' := fun k_ => some k_ ≠ (.slice Ao8 t208.length co8 : Value).ownBlock ∧ some k_ ≠ (.slice Ao13 t216.length co13 : Value).ownBlock ∧ some k_ ≠ (.slice Ao16 t219.length co16 : Value).ownBlock) (Kd.R_keptB (HO_216001.out) hkp (fun k_ hk_ hs_ => Or.elim hs_ (fun e_ => (hk_.2.1) e_) (fun e_ => (hk_.2.2) e_))) (fun k_ hk_ => ⟨hk_.1.1, hk_.1.2.1, hk_.1.2.2⟩)); have n2_ := Aside0.mk (Kd.R_reok rfl hy0 (fun k_ e_ => HO_224000.out.1 k_ e_)); have n3_ := Aside0.mk (Kd.R_reok rfl hy1 (fun k_ e_ => HO_224001.out.1 k_ e_)); have n4_ := Aside0.mk (blk_kept (by (with_reducible repeat first|apply qN_|apply qD_|apply qA_); exact BK215.out) hkp (fun hs_ => Or.elim hs_ (fun e_ => (fun e_ => (Kd.R_ne HO_224000.out BK215.out (by decide)) e_) e_) (fun e_ => (fun e_ => (Kd.R_ne HO_224001.out BK215.out (by decide)) e_) e_))); have n5_ := Aside0.mk (blk_kept (by (with_reducible repeat first|apply qN_|apply qD_|apply qA_); exact BK223.out) hkp (fun hs_ => Or.elim hs_ (fun e_ => (fun e_ => (Kd.R_ne HO_224000.out BK223.out (by decide)) e_) e_) (fun e_ => (fun e_ => (Kd.R_ne HO_224001.out BK223.out (by decide)) e_) e_))); have n6_ := Aside0.mk (hb); clear HO_216000; clear HO_216001; clear HO_224000; clear HO_224001; clear BK215; clear BK223; clear HB; have HO_216000 := n0_; have HO_216001 := n1_; have HO_224000 := n2_; have HO_224001 := n3_; have BK215 := n4_; have BK223 := n5_; have HB := n6_; clear n0_ n1_ n2_ n3_ n4_ n5_ n6_; (try clear hb); (try clear hkp); (try clear hy0); (try clear hy1); have hcz84_0 : w83.cell? ⟨gb223, 0, none⟩ = some (.slice Ao13 t216.length co13) := (blk_cell BK223.out 0).trans rfl; have hcz84_1 : w83.cell? ⟨gb223, 1, none⟩ = some (.slice Ao16 t219.length co16) := (blk_cell BK223.out 1).trans rfl; have hfz84_0 := blk_frozen BK223.out 0; have hfz84_1 := blk_frozen BK223.out 1) | ((with_reducible refine gate_callee (f := 17) rfl ?_); refine goesL_ (some 38) rfl rfl Tryd.func17 (by kernel_rfl) rfl #[.agg #[.slice Ao13 t226.length co13, .slice Ao16 t227.length co16], .int .i64 1] rfl (by (try simp only [List.map_toArray, List.map_cons, List.map_nil]); first | done | (rw [show t226.length = t216.length from (Kd.R_reads' HO_224000.out).1.symm, show t227.length = t219.length from (Kd.R_reads' HO_224001.out).1.symm] <;> rfl) | rfl | (simp only [List.length_drop, List.length_take]; rfl)) ?_; (with_reducible refine (laws_heldPct.calls kj4 _ _ t226 _ _ t227 1 t228 _ ?side1 ?side2 ?side3 ?side4 A29.out).mono ?_); (case side1 => repeat (first | exact (Kd.R_reads' HO_224000.out).2.2 | with_reducible apply cA_|with_reducible apply cN_|with_reducible apply cD_)); (case side2 => rw [show t226.length = t216.length from (Kd.R_reads' HO_224000.out).1.symm]; exact (Kd.R_reads' HO_224000.out).2.1); (case side3 => repeat (first | exact (Kd.R_reads' HO_224001.out).2.2 | with_reducible apply cA_|with_reducible apply cN_|with_reducible apply cD_)); (case side4 => rw [show t227.length = t219.length from (Kd.R_reads' HO_224001.out).1.symm]; exact (Kd.R_reads' HO_224001.out).2.1); rintro e w85 ⟨rfl, hb⟩; refine ⟨_, rfl, ?_⟩; have n0_ := Aside0.mk (Kd.R_below (by (with_reducible repeat first|apply rA_|apply rN_|apply rD_); exact HO_216000.out) hb); have n1_ := Aside0.mk (Kd.R_below (by (with_reducible repeat first|apply rA_|apply rN_|apply rD_); exact HO_216001.out) hb); have n2_ := Aside0.mk (Kd.R_below (by (with_reducible repeat first|apply rA_|apply rN_|apply rD_); exact HO_224000.out) hb); have n3_ := Aside0.mk (Kd.R_below (by (with_reducible repeat first|apply rA_|apply rN_|apply rD_); exact HO_224001.out) hb); have n4_ := Aside0.mk (blk_below (by (with_reducible repeat first|apply qN_|apply qD_|apply qA_); exact BK215.out) hb); have n5_ := Aside0.mk (blk_below (by (with_reducible repeat first|apply qN_|apply qD_|apply qA_); exact BK223.out) hb); have n6_ := Aside0.mk (below_step (by repeat (first | (with_reducible first|exact HB.out|apply vA_|apply vN_|apply vD_ | refine vS_ ?_ GE215.out | refine vS_ ?_ GE223.out) | exact HB.out)) hb); clear HO_216000; clear HO_216001; clear HO_224000; clear HO_224001; clear BK215; clear BK223; clear HB; have HO_216000 := n0_; have HO_216001 := n1_; have HO_224000 := n2_; have HO_224001 := n3_; have BK215 := n4_; have BK223 := n5_; have HB := n6_; clear n0_ n1_ n2_ n3_ n4_ n5_ n6_; (try clear hb); (try clear hb2); (try clear hk); (try clear hi)))
              go_ret
              exact ⟨by first | rfl | (simp [errW_none, errW_some] <;> rfl) | (simp [*, errW_none, errW_some] <;> rfl), by repeat (first | (with_reducible first|exact HB.out|apply vA_|apply vN_|apply vD_ | refine vS_ ?_ GE215.out | refine vS_ ?_ GE223.out) | exact HB.out)⟩


end Go.Proofs.YthdpiceiemkjlaaDoor.GReadPct

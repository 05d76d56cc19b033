/- FnNumText: called with any values of its parameters' types, the law returns true and leaves its arguments as they were, where the library's tables hold what the program's text lays in them (tied). No other condition. -/
import Derived.Test.YthdpiceiemkjlaaDoorRows
import Derived.Test.YthdpiceiemkjlaaDoorQFnNumText
import Derived.Test.YthdpiceiemkjlaaDoorPureFnNumText
import Derived.WalkKit
import Derived.ProofKit
import Derived.OpenShut
import Derived.ShutString
import Derived.ChangeOld
import Derived.Below
import Derived.SizedLaws
import Derived.Carry
import Derived.LaidMore
import Derived.LaidLaws
import Derived.Lib.LaidTab
import Derived.Stop.LaidErr
import Derived.Stop.Joined
import Derived.SevenTiedAt
import Derived.Test.YthdpiceiemkjlaaDoorCards
import Derived.Test.YthdpiceiemkjlaaDoorTie
import Derived.Test.YthdpiceiemkjlaaDoorMTxt
import Derived.Lay
import Derived.Test.YthdpiceiemkjlaaDoorMRead
set_option linter.unusedVariables false
set_option linter.unusedSimpArgs false
namespace Go.Proofs.YthdpiceiemkjlaaDoor.fnNumText
open Go.ChangeShapes Go.WideShapes Go.ChangeAt Go.RowKit Go.Proofs.YthdpiceiemkjlaaDoorW.PrintWords Go.Proofs.YthdpiceiemkjlaaDoor.GFnNumText
theorem own : ownKnob Tryd.prog.godebug = none := by kernel_rfl
theorem laidOut : laidOutB Tryd.prog = true := by kernel_rfl
theorem tabs {W : World} (h : laidMetH Tryd.prog Rows.fnNumTextRow.laid W) (hs : W.ShapedOpen Tryd.prog) : Go.Proofs.YthdpiceiemkjlaaDoor.MRead.Tabs2 W := by
  rw [MakeChecks.laidMetH_plain _ _ _ (by kernel_rfl)] at h
  have h2 : laidMet Tryd.prog (("internal/strconv.uint64pow10", Lib.tabData .u64 Lib.pow10Tab) :: Rows.fnNumTextRow.laid.drop 3) W := h.tail.tail
  exact ⟨Lib.tabIs_of_head (g := 4) (t := 117) (e := 57) (n := 20) (by kernel_rfl) (by kernel_rfl) Tryd.underlying117 Tryd.underlying57 (by kernel_rfl) (by kernel_rfl) h2, Go.Proofs.YthdpiceiemkjlaaDoor.MRead.max_cell hs, (Go.Proofs.YthdpiceiemkjlaaDoor.MRead.err_cell (n := "strconv.ErrSyntax") (text := [105, 110, 118, 97, 108, 105, 100, 32, 115, 121, 110, 116, 97, 120]) (r := Rows.fnNumTextRow.laid.drop 5) (show laidMet Tryd.prog _ W from h.tail.tail.tail.tail) (by kernel_rfl) (by kernel_rfl)), (Go.Proofs.YthdpiceiemkjlaaDoor.MRead.err_cell (n := "strconv.ErrRange") (text := [118, 97, 108, 117, 101, 32, 111, 117, 116, 32, 111, 102, 32, 114, 97, 110, 103, 101]) (r := Rows.fnNumTextRow.laid.drop 4) (show laidMet Tryd.prog _ W from h.tail.tail.tail) (by kernel_rfl) (by kernel_rfl))⟩
set_option maxRecDepth 100000 in
theorem lifted (os : Os) (started : os.Started) (H : Type) (enc : TypeId × Value → H) :
    ReturnsInHanded {} Tryd.checked os 3 .any (fun w args => (Rows.fnNumTextSpec.pre enc Tryd.prog Tryd.f3 Rows.fnNumTextRow.domain false w args ∧ laidMetH Tryd.prog Rows.fnNumTextRow.laid w) ∧ sizedMet enc Tryd.prog Tryd.f3 (OpenSpec.ofChange Rows.fnNumTextSpec) false w args) (Rows.fnNumTextSpec.post enc Tryd.prog Tryd.f3 false true false false) := by
  refine Go.Proofs.YthdpiceiemkjlaaDoor.MRead.handed_shaped (C := Tryd.checked) (X := fun w _ => laidMetH Tryd.prog Rows.fnNumTextRow.laid w) (fun _ _ _ hh h => h.of_heap hh) own started (by kernel_rfl) Tryd.func3
    (ChangeSpec.witness_shaped (enc := enc) (C := Tryd.checked) (os := os) (X := fun w _ => laidMetH Tryd.prog Rows.fnNumTextRow.laid w) false (World.laidAll Tryd.prog os Rows.fnNumTextRow.laid) #[.slice none 0 0, .slice none 0 0] 8 (World.laidAll_os _ _ _) (World.shaped_of_ZipB (by kernel_rfl) (by kernel_rfl)) (by kernel_rfl) (by kernel_rfl) (by kernel_rfl)
      (by rw [MakeChecks.laidMetH_plain _ _ _ (by kernel_rfl)]; exact laidMet_laidAll _ (by kernel_rfl) (by kernel_rfl))) ?_
  intro W base args ds gs before hval0 hW hcnd hsz0 hLd hSh _
  have hTab := tabs hLd hSh
  have hsz : (DataW.weightsEach Tryd.prog (Tryd.f3.params.toList ++ Rows.fnNumTextSpec.plain.varTypes Tryd.prog) (ds ++ gs)).all (· ≤ reachBytes) = true := hsz0
  have hval : ∀ (j : Nat) t v, Tryd.f3.params[j]? = some t → args[j]? = some v → Value.okWide Tryd.prog W .any base t v := hval0
  have hW' := hW
  obtain ⟨p, q, hA0, hV, rfl, hfz, hnd⟩ := hW
  have hA : DataW.TrodAll enc Tryd.prog W 0 (fun _ => true) true Tryd.f3.params.toList args.toList ds p := hA0
  rw [Tryd.params3] at hA hval hsz
  obtain ⟨v0, vs0, d0, ds0, p0, q0, hargs, rfl, rfl, h0, r0⟩ := trodAll_cons hA
  obtain ⟨v1, vs1, d1, ds1, p1, q1, rfl, rfl, rfl, h1, r1⟩ := trodAll_cons r0
  obtain ⟨rfl, rfl, rfl⟩ := trodAll_nil r1
  obtain rfl : args = #[v0, v1] := by cases args; simp_all
  obtain ⟨rfl, rfl⟩ := trodVars_none hV
  have k0 := h0
  have lt0 : ∀ x ∈ p0, x.block < W.heap.size := by obtain ⟨m, hm⟩ := k0; exact DataW.trod_lt m _ _ _ hm
  obtain ⟨a0, len0, cap0, rfl⟩ := okWide_slice Tryd.underlying22 (hval 0 22 v0 rfl rfl)
  have b0 : len0 * 1 ≤ 140737488351232 := sized_any hsz (j := 0) (t := 22) rfl rfl Tryd.underlying22 (by kernel_rfl) h0
  obtain ⟨y0, K0, o0⟩ : ∃ y, (Kd.slice 5 (Kd.int .u8)).K W y [.slice a0 len0 cap0] ∧ (okL okU8) y := by obtain ⟨m, hm⟩ := h0; exact opens22 _ _ _ _ _ _ _ _ _ hm
  obtain ⟨A0, c0, e0, lc0, C0⟩ := K0
  injection e0 with e0 _
  injection e0 with ea0 eb0 ec0
  subst ea0 eb0 ec0
  have k1 := h1
  have lt1 : ∀ x ∈ p1, x.block < W.heap.size := by obtain ⟨m, hm⟩ := k1; exact DataW.trod_lt m _ _ _ hm
  obtain ⟨a1, len1, cap1, rfl⟩ := okWide_slice Tryd.underlying22 (hval 1 22 v1 rfl rfl)
  have b1 : len1 * 1 ≤ 140737488351232 := sized_any hsz (j := 1) (t := 22) rfl rfl Tryd.underlying22 (by kernel_rfl) h1
  obtain ⟨y1, K1, o1⟩ : ∃ y, (Kd.slice 5 (Kd.int .u8)).K W y [.slice a1 len1 cap1] ∧ (okL okU8) y := by obtain ⟨m, hm⟩ := h1; exact opens22 _ _ _ _ _ _ _ _ _ hm
  obtain ⟨A1, c1, e1, lc1, C1⟩ := K1
  injection e1 with e1 _
  injection e1 with ea1 eb1 ec1
  subst ea1 eb1 ec1
  obtain ⟨k, hk⟩ := Pure.FnNumText y0 y1 o0 b0 o1 b1
  clear hA0 hval0 hsz0 hsz
  refine (Pure.laws_FnNumText.calls (hT := hTab) k _ _ y0 _ _ y1 true W C0 lc0 C1 lc1 hk).mono fun e W' ⟨he, bel0⟩ => ?_
  have bel : Below W.heap.size W W' := bel0
  subst he
  exact ⟨_, rfl, _, _, _, [], _, [], hW', trodAll_mk1 (shut_bool Tryd.underlying4 _), (trodAll_cons_mk (Below.trod laidOut (by kernel_rfl) (of_decide_eq_true (by kernel_rfl)) k0 bel lt0) (trodAll_cons_mk (Below.trod laidOut (by kernel_rfl) (of_decide_eq_true (by kernel_rfl)) k1 bel lt1) trodAll_mk0)), rfl, bel.frame _, fun h => by cases h⟩
theorem over : Rows.fnNumTextRow.holds Tryd.pinned (OpenSpec.ofChange Rows.fnNumTextSpec) :=
  OpenClaim.holds_of_wide 3 Tryd.f3 rfl rfl rfl rfl rfl rfl rfl ⟨rfl, rfl, rfl, rfl, rfl⟩ rfl rfl rfl rfl rfl (by kernel_rfl) Tryd.func3 (by kernel_rfl)
    (of_decide_eq_true (by kernel_rfl)) (by unfold Func.isWrapper; first | (rw [if_pos (by decide +kernel)]; kernel_rfl) | (rw [if_neg (by decide +kernel)]; exact ⟨rfl, rfl⟩))
    (fun os started H enc _ => lifted os started H enc)
theorem card : Rows.FnNumTextCardSaid :=
  Claim7.holds_tied_plain_at .later [] [.data, .data, .data, .sentinel, .sentinel] true (true, "e817555e758c0cfe926db85ef9ce79a856aee6456bff9158bce9ea823c061968") true
    over (fun _ h => by cases h) (by kernel_rfl) (fun _ h => by cases h) fnNumText_row_tie rfl ⟨rfl, rfl⟩ (by kernel_rfl) rfl
    (fun f fn hf hfn => by
      obtain rfl : f = 3 := Option.some.inj ((show Tryd.prog.funcNamed "loop.example/g00696/laws.FnNumText" = some 3 by kernel_rfl).symm.trans hf) |>.symm
      obtain rfl : fn = Tryd.f3 := (Option.some.inj (Tryd.func3.symm.trans hfn)).symm
      exact ⟨by kernel_rfl, fun j t ht => by
        rw [Tryd.params3] at ht
        have hm : t ∈ [22, 22] := by simpa using Array.mem_of_getElem? ht
        have hall : ([22, 22].all fun u => !Tryd.prog.wantsStandIn u) = true := by kernel_rfl
        exact (show Tryd.prog.wantsStandIn t = false by simpa using List.all_eq_true.1 hall t hm)⟩)
    (by kernel_rfl)
#print axioms card
end Go.Proofs.YthdpiceiemkjlaaDoor.fnNumText
namespace Go.Proofs.YthdpiceiemkjlaaDoor
/-- The card, under a short name, for the claim. -/
theorem fnNumText_holds : Rows.FnNumTextCardSaid := fnNumText.card
end Go.Proofs.YthdpiceiemkjlaaDoor

/- FnExactReadOp: called with any values of its parameters' types, the law returns true and leaves its arguments as they were, where the library's tables hold what the program's text lays in them (tied). No other condition. -/
import Derived.Test.YtpfbiopcfbokbaaDoorRows
import Derived.Test.YtpfbiopcfbokbaaDoorQFnExactReadOp
import Derived.Test.YtpfbiopcfbokbaaDoorPureFnExactReadOp
import Derived.WalkKit
import Derived.ProofKit
import Derived.OpenShut
import Derived.ShutString
import Derived.ChangeOld
import Derived.Below
import Derived.SizedLaws
import Derived.Carry
import Derived.LaidMore
import Derived.LaidLaws
import Derived.Lib.LaidTab
import Derived.Stop.LaidErr
import Derived.Stop.Joined
import Derived.SevenTiedAt
import Derived.Test.YtpfbiopcfbokbaaDoorCards
import Derived.Test.YtpfbiopcfbokbaaDoorTie
import Derived.Test.YtpfbiopcfbokbaaDoorMTxt
import Derived.Lay
import Derived.Test.YtpfbiopcfbokbaaDoorMRead
set_option linter.unusedVariables false
set_option linter.unusedSimpArgs false
namespace Go.Proofs.YtpfbiopcfbokbaaDoor.fnExactReadOp
open Go.ChangeShapes Go.WideShapes Go.ChangeAt Go.RowKit Go.Proofs.YtpfbiopcfbokbaaDoorW.PrintWords Go.Proofs.YtpfbiopcfbokbaaDoor.GReadOp
theorem own : ownKnob Tryd.prog.godebug = none := by kernel_rfl
theorem laidOut : laidOutB Tryd.prog = true := by kernel_rfl
theorem tabs {W : World} (h : laidMetH Tryd.prog Rows.fnExactReadOpRow.laid W) (hs : W.ShapedOpen Tryd.prog) : Go.Proofs.YtpfbiopcfbokbaaDoor.MRead.Tabs2 W := by
  rw [MakeChecks.laidMetH_plain _ _ _ (by kernel_rfl)] at h
  have h2 : laidMet Tryd.prog (("internal/strconv.uint64pow10", Lib.tabData .u64 Lib.pow10Tab) :: Rows.fnExactReadOpRow.laid.drop 3) W := h.tail.tail
  exact ⟨Lib.tabIs_of_head (g := 4) (t := 152) (e := 91) (n := 20) (by kernel_rfl) (by kernel_rfl) Tryd.underlying152 Tryd.underlying91 (by kernel_rfl) (by kernel_rfl) h2, Go.Proofs.YtpfbiopcfbokbaaDoor.MRead.max_cell hs, (Go.Proofs.YtpfbiopcfbokbaaDoor.MRead.err_cell (n := "strconv.ErrSyntax") (text := [105, 110, 118, 97, 108, 105, 100, 32, 115, 121, 110, 116, 97, 120]) (r := Rows.fnExactReadOpRow.laid.drop 6) (show laidMet Tryd.prog _ W from h.tail.tail.tail.tail.tail) (by kernel_rfl) (by kernel_rfl)), (Go.Proofs.YtpfbiopcfbokbaaDoor.MRead.err_cell (n := "strconv.ErrRange") (text := [118, 97, 108, 117, 101, 32, 111, 117, 116, 32, 111, 102, 32, 114, 97, 110, 103, 101]) (r := Rows.fnExactReadOpRow.laid.drop 5) (show laidMet Tryd.prog _ W from h.tail.tail.tail.tail) (by kernel_rfl) (by kernel_rfl))⟩
set_option maxRecDepth 100000 in
theorem lifted (os : Os) (started : os.Started) (H : Type) (enc : TypeId × Value → H) :
    ReturnsInHanded {} Tryd.checked os 5 .any (fun w args => (Rows.fnExactReadOpSpec.pre enc Tryd.prog Tryd.f5 Rows.fnExactReadOpRow.domain false w args ∧ laidMetH Tryd.prog Rows.fnExactReadOpRow.laid w) ∧ sizedMet enc Tryd.prog Tryd.f5 (OpenSpec.ofChange Rows.fnExactReadOpSpec) false w args) (Rows.fnExactReadOpSpec.post enc Tryd.prog Tryd.f5 false true false false) := by
  refine Go.Proofs.YtpfbiopcfbokbaaDoor.MRead.handed_shaped (C := Tryd.checked) (X := fun w _ => laidMetH Tryd.prog Rows.fnExactReadOpRow.laid w) (fun _ _ _ hh h => h.of_heap hh) own started (by kernel_rfl) Tryd.func5
    (ChangeSpec.witness_shaped (enc := enc) (C := Tryd.checked) (os := os) (X := fun w _ => laidMetH Tryd.prog Rows.fnExactReadOpRow.laid w) false (World.laidAll Tryd.prog os Rows.fnExactReadOpRow.laid) #[.string ByteArray.empty] 8 (World.laidAll_os _ _ _) (World.shaped_of_ZipB (by kernel_rfl) (by kernel_rfl)) (by kernel_rfl) (by kernel_rfl) (by kernel_rfl)
      (by rw [MakeChecks.laidMetH_plain _ _ _ (by kernel_rfl)]; exact laidMet_laidAll _ (by kernel_rfl) (by kernel_rfl))) ?_
  intro W base args ds gs before hval0 hW hcnd hsz0 hLd hSh _
  have hTab := tabs hLd hSh
  have hsz : (DataW.weightsEach Tryd.prog (Tryd.f5.params.toList ++ Rows.fnExactReadOpSpec.plain.varTypes Tryd.prog) (ds ++ gs)).all (· ≤ reachBytes) = true := hsz0
  have hval : ∀ (j : Nat) t v, Tryd.f5.params[j]? = some t → args[j]? = some v → Value.okWide Tryd.prog W .any base t v := hval0
  have hW' := hW
  obtain ⟨p, q, hA0, hV, rfl, hfz, hnd⟩ := hW
  have hA : DataW.TrodAll enc Tryd.prog W 0 (fun _ => true) true Tryd.f5.params.toList args.toList ds p := hA0
  rw [Tryd.params5] at hA hval hsz
  obtain ⟨v0, vs0, d0, ds0, p0, q0, hargs, rfl, rfl, h0, r0⟩ := trodAll_cons hA
  obtain ⟨rfl, rfl, rfl⟩ := trodAll_nil r0
  obtain rfl : args = #[v0] := by cases args; simp_all
  obtain ⟨rfl, rfl⟩ := trodVars_none hV
  have k0 := h0
  have lt0 : ∀ x ∈ p0, x.block < W.heap.size := by obtain ⟨m, hm⟩ := k0; exact DataW.trod_lt m _ _ _ hm
  obtain ⟨y0, K0, o0⟩ : ∃ y, Kd.string.K W y v0.cells.toList ∧ okS y := by obtain ⟨m, hm⟩ := h0; exact opens9 _ _ _ _ _ _ _ _ _ hm
  obtain ⟨b0, rfl, rfl, _, _⟩ := Go.ChangeMaps.open_string Tryd.underlying9 (hval 0 9 v0 rfl rfl) h0
  have w0 : b0.size ≤ 140737488351232 := by
    have z := sized_string hsz (j := 0) (t := 9) rfl rfl
    rw [Array.length_toList] at z
    exact z
  obtain rfl : b0 = y0 := by have q : ([Value.string b0] : List Value) = [Value.string y0] := K0; injection q with q; injection q
  obtain ⟨k, hk⟩ := Pure.FnExactReadOp b0 o0 w0
  clear hA0 hval0 hsz0 hsz
  refine (laws_FnExactReadOp.calls (hT := hTab) k b0 true W  hk).mono fun e W' ⟨he, bel0⟩ => ?_
  have bel : Below W.heap.size W W' := bel0
  subst he
  exact ⟨_, rfl, _, _, _, [], _, [], hW', trodAll_mk1 (shut_bool Tryd.underlying4 _), (trodAll_cons_mk (Below.trod laidOut (by kernel_rfl) (of_decide_eq_true (by kernel_rfl)) k0 bel lt0) trodAll_mk0), rfl, bel.frame _, fun h => by cases h⟩
theorem over : Rows.fnExactReadOpRow.holds Tryd.pinned (OpenSpec.ofChange Rows.fnExactReadOpSpec) :=
  OpenClaim.holds_of_wide 5 Tryd.f5 rfl rfl rfl rfl rfl rfl rfl ⟨rfl, rfl, rfl, rfl, rfl⟩ rfl rfl rfl rfl rfl (by kernel_rfl) Tryd.func5 (by kernel_rfl)
    (of_decide_eq_true (by kernel_rfl)) (by unfold Func.isWrapper; first | (rw [if_pos (by decide +kernel)]; kernel_rfl) | (rw [if_neg (by decide +kernel)]; exact ⟨rfl, rfl⟩))
    (fun os started H enc _ => lifted os started H enc)
theorem card : Rows.FnExactReadOpCardSaid :=
  Claim7.holds_tied_plain_at .later [] [.data, .data, .data, .data, .sentinel, .sentinel, .pinned] true (true, "556b745aee85eda464e6c405c907872a2c92d10e372929d6e21ba6c3f32b36e4") true
    over (fun _ h => by cases h) (by kernel_rfl) (fun _ h => by cases h) fnExactReadOp_row_tie rfl ⟨rfl, rfl⟩ (by kernel_rfl) rfl
    (fun f fn hf hfn => by
      obtain rfl : f = 5 := Option.some.inj ((show Tryd.prog.funcNamed "loop.example/g00696/laws.FnExactReadOp" = some 5 by kernel_rfl).symm.trans hf) |>.symm
      obtain rfl : fn = Tryd.f5 := (Option.some.inj (Tryd.func5.symm.trans hfn)).symm
      exact ⟨by kernel_rfl, fun j t ht => by
        rw [Tryd.params5] at ht
        have hm : t ∈ [9] := by simpa using Array.mem_of_getElem? ht
        have hall : ([9].all fun u => !Tryd.prog.wantsStandIn u) = true := by kernel_rfl
        exact (show Tryd.prog.wantsStandIn t = false by simpa using List.all_eq_true.1 hall t hm)⟩)
    (by kernel_rfl)
#print axioms card
end Go.Proofs.YtpfbiopcfbokbaaDoor.fnExactReadOp
namespace Go.Proofs.YtpfbiopcfbokbaaDoor
/-- The card, under a short name, for the claim. -/
theorem fnExactReadOp_holds : Rows.FnExactReadOpCardSaid := fnExactReadOp.card
end Go.Proofs.YtpfbiopcfbokbaaDoor

/- FnNumText: the walk through the law. -/
import Derived.Test.YthdpiceiemkjlaaDoorGFnNumTextx8
import Derived.Test.YthdpiceiemkjlaaDoorMBase
import Derived.KernelRfl
import Derived.Test.YthdpiceiemkjlaaDoorPureTextFacts
import Derived.Test.YthdpiceiemkjlaaDoorPureTextFacts2
import Derived.Test.YthdpiceiemkjlaaDoorPureDrawsText
import Derived.Test.YthdpiceiemkjlaaDoorPureDrawsText2
set_option linter.unusedVariables false
set_option linter.unusedSimpArgs false
namespace Go.Proofs.YthdpiceiemkjlaaDoor.Pure
open Go.RowKit Go.Proofs.YthdpiceiemkjlaaDoor.GFnNumText Go.Proofs.YthdpiceiemkjlaaDoorW.PrintWords Go.Proofs.YthdpiceiemkjlaaDoorW.PrintLast Go.Proofs.YthdpiceiemkjlaaDoorW.PrintMore Go.Proofs.YthdpiceiemkjlaaDoor.MBase
open Go.Proofs.YthdpiceiemkjlaaDoor Go.Proofs.YthdpiceiemkjlaaDoor.MNum Go.Proofs.YthdpiceiemkjlaaDoor.MIeee Go.Proofs.YthdpiceiemkjlaaDoor.MReal
set_option maxHeartbeats 16000000 in
set_option maxRecDepth 100000 in
theorem walk (A0 : Option Addr) (c0 : Nat) (l0 : List Int) (A1 : Option Addr) (c1 : Nat) (l1 : List Int) (w : World) (hT : Go.Proofs.YthdpiceiemkjlaaDoor.MRead.Tabs2 w) (hr0 : Kd.C (Kd.int .u8) w A0 l0.length l0) (hc0 : l0.length ≤ c0) (hr1 : Kd.C (Kd.int .u8) w A1 l1.length l1) (hc1 : l1.length ≤ c1) (h0 : okBy l0) (h1 : okBy l1) :
    Calls Tryd.prog 3 #[.slice A0 l0.length c0, .slice A1 l1.length c1] w fun e w' => e = .returned (.bool true) ∧ Below w.heap.size w w' := by
  have HTab := Aside0.mk hT
  have HR0 := Aside0.mk hr0
  have HC0 := Aside0.mk hc0
  have HR1 := Aside0.mk hr1
  have HC1 := Aside0.mk hc1
  have H0 := Aside0.mk h0
  have H1 := Aside0.mk h1
  have HB := Aside0.mk (Below.refl w.heap.size w)
  clear hT hr0 hc0 hr1 hc1 h0 h1
  obtain ⟨b, hb⟩ : ∃ b, laws_big.f l0 l1 = some b := by unfold laws_big.f; split <;> exact ⟨_, rfl⟩
  have A2 := Aside0.mk hb
  clear hb
  cases b
  case true =>
    go_enter Tryd.func3, Tryd.ntmps3
    go_wp2_with (first | (go_at_call 5; (with_reducible refine (laws_big.calls _ _ l0 _ _ l1 true _ HR0.out HC0.out HR1.out HC1.out A2.out).mono ?_); rintro e w' ⟨rfl, ⟨nd, rfl⟩⟩))
    go_ret
    exact ⟨rfl, by repeat (first | (with_reducible first | exact HB.out | apply below_alloc | apply pw_below_drewN | apply below_drew1) | exact HB.out)⟩
  go_enter Tryd.func3, Tryd.ntmps3
  go_upto_region 4 with (first | (go_at_call 5; (with_reducible refine (laws_big.calls _ _ l0 _ _ l1 false _ HR0.out HC0.out HR1.out HC1.out A2.out).mono ?_); rintro e w' ⟨rfl, ⟨nd, rfl⟩⟩) | (go_at_call 6; (with_reducible refine (drawNumText_any (c0 := c0) H0.out (by repeat (first | exact HR0.out | (with_reducible refine Kd.C_alloc ?_ _) | (with_reducible refine Kd.C_drewN ?_ _) | (with_reducible refine Kd.C_drew ?_)))).mono ?_); rintro e w' ⟨x, hx, rfl, hb⟩; have HX := Aside0.mk hx; clear hx; have n0_ := Aside0.mk (below_step (by repeat (first | (with_reducible first | exact HB.out | apply below_alloc | apply pw_below_drewN | apply below_drew1) | exact HB.out)) hb); clear HB hb; have HB := n0_; clear n0_))
  obtain ⟨l, y, hl, hy, hs, hi, hr, hsm⟩ := readback HX.out
  obtain ⟨k1, hk1⟩ := hs.rounds
  obtain ⟨k2, hk2⟩ := hi.rounds
  obtain ⟨k3, hk3⟩ := hr.rounds
  obtain ⟨tx, htx⟩ : ∃ q, q = bs l := ⟨_, rfl⟩
  rw [← htx] at hk1 hk2 hk3
  have P1 := Aside0.mk hk1
  have P2 := Aside0.mk hk2
  have P3 := Aside0.mk hk3
  have HY := Aside0.mk hy
  have SM := Aside0.mk (show laws_sameNum.f y x = some true from by rw [law_same hy HX.out, hsm])
  clear hl hy hs hi hr hsm hk1 hk2 hk3 htx
  go_upto_region 9 with (first | (go_at_call 7; (with_reducible refine (impl_NumText.calls k2 x tx _ (Go.Proofs.YthdpiceiemkjlaaDoor.MRead.tabs2_below HTab.out (by repeat (first | (with_reducible first | exact HB.out | apply below_alloc | apply pw_below_drewN | apply below_drew1) | exact HB.out))) P2.out).mono ?_); rintro e w' ⟨rfl, hb⟩; have n0_ := Aside0.mk (below_step (by repeat (first | (with_reducible first | exact HB.out | apply below_alloc | apply pw_below_drewN | apply below_drew1) | exact HB.out)) hb); clear HB hb; have HB := n0_; clear n0_) | (go_at_call 8; (with_reducible refine (impl_ReadNum.calls k3 tx y true _ (Go.Proofs.YthdpiceiemkjlaaDoor.MRead.tabs2_below HTab.out (by repeat (first | (with_reducible first | exact HB.out | apply below_alloc | apply pw_below_drewN | apply below_drew1) | exact HB.out))) P3.out).mono ?_); rintro e w' ⟨rfl, hb⟩; have n0_ := Aside0.mk (below_step (by repeat (first | (with_reducible first | exact HB.out | apply below_alloc | apply pw_below_drewN | apply below_drew1) | exact HB.out)) hb); clear HB hb; have HB := n0_; clear n0_) | (go_at_call 9; (with_reducible refine (spec_NumText.calls k1 x tx _ P1.out).mono ?_); rintro e w' ⟨rfl, hb⟩; have n0_ := Aside0.mk (below_step (by repeat (first | (with_reducible first | exact HB.out | apply below_alloc | apply pw_below_drewN | apply below_drew1) | exact HB.out)) hb); clear HB hb; have HB := n0_; clear n0_) | (go_at_call 10; (with_reducible refine (laws_sameNum.calls y x true _ SM.out).mono ?_); rintro e w' ⟨rfl, ⟨nd, rfl⟩⟩) | (go_at_call 11; (with_reducible refine (drawReadNum_any (c0 := c1) H1.out (Kd.C_below HR1.out (by repeat (first | (with_reducible first | exact HB.out | apply below_alloc | apply pw_below_drewN | apply below_drew1) | exact HB.out)))).mono ?_); rintro e w' ⟨t, ht, rfl, hb⟩; have HT := Aside0.mk ht; clear ht; have n0_ := Aside0.mk (below_step (by repeat (first | (with_reducible first | exact HB.out | apply below_alloc | apply pw_below_drewN | apply below_drew1) | exact HB.out)) hb); clear HB hb; have HB := n0_; clear n0_))
  obtain ⟨l2, rfl⟩ := bs_ex t
  obtain ⟨y2, b, hy2, ⟨k4, hk4⟩, htext, hspec⟩ := read_both l2 (by have h9_ := HT.out; rw [bs_size] at h9_; exact h9_)
  have HY2 := Aside0.mk hy2
  obtain ⟨tt, htt⟩ : ∃ q, q = bs l2 := ⟨_, rfl⟩
  have HSP : ∀ w : World, Calls Tryd.prog 12 #[.string tt] w fun e w' => ∃ o, (o < 18446744073709551616 ∧ same y2 o = true) ∧ e = .returned (.tuple #[.float .f64 o, .bool b]) ∧ Drawn0 w w' := by rw [htt]; exact hspec
  rw [← htt] at hk4 htext
  rw [← htt]
  have P4 := Aside0.mk hk4
  have HTX := Aside0.mk htext
  have HS := Aside0.mk HSP
  clear hy2 hk4 htext hspec HSP HT htt
  cases b
  · go_wp2_with (first | (go_at_call 8; (with_reducible refine (impl_ReadNum.calls k4 tt y2 false _ (Go.Proofs.YthdpiceiemkjlaaDoor.MRead.tabs2_below HTab.out (by repeat (first | (with_reducible first | exact HB.out | apply below_alloc | apply pw_below_drewN | apply below_drew1) | exact HB.out))) P4.out).mono ?_); rintro e w' ⟨rfl, hb⟩; have n0_ := Aside0.mk (below_step (by repeat (first | (with_reducible first | exact HB.out | apply below_alloc | apply pw_below_drewN | apply below_drew1) | exact HB.out)) hb); clear HB hb; have HB := n0_; clear n0_) | (go_at_call 12; (with_reducible refine (HS.out _).mono ?_); rintro e w' ⟨o, ho, rfl, ⟨nd, rfl⟩⟩; have SO := Aside0.mk (show laws_sameNum.f y2 o = some true from by rw [law_same HY2.out ho.1, ho.2]); clear ho) | (go_at_call 10; (with_reducible refine (laws_sameNum.calls y2 _ true _ SO.out).mono ?_); rintro e w' ⟨rfl, ⟨nd, rfl⟩⟩))
    go_ret
    exact ⟨rfl, by repeat (first | (with_reducible first | exact HB.out | apply below_alloc | apply pw_below_drewN | apply below_drew1) | exact HB.out)⟩
  · obtain ⟨k5, hk5⟩ := HTX.out rfl
    have P5 := Aside0.mk hk5
    clear hk5
    go_wp2_with (first | (go_at_call 8; (with_reducible refine (impl_ReadNum.calls k4 tt y2 true _ (Go.Proofs.YthdpiceiemkjlaaDoor.MRead.tabs2_below HTab.out (by repeat (first | (with_reducible first | exact HB.out | apply below_alloc | apply pw_below_drewN | apply below_drew1) | exact HB.out))) P4.out).mono ?_); rintro e w' ⟨rfl, hb⟩; have n0_ := Aside0.mk (below_step (by repeat (first | (with_reducible first | exact HB.out | apply below_alloc | apply pw_below_drewN | apply below_drew1) | exact HB.out)) hb); clear HB hb; have HB := n0_; clear n0_) | (go_at_call 12; (with_reducible refine (HS.out _).mono ?_); rintro e w' ⟨o, ho, rfl, ⟨nd, rfl⟩⟩; have SO := Aside0.mk (show laws_sameNum.f y2 o = some true from by rw [law_same HY2.out ho.1, ho.2]); clear ho) | (go_at_call 10; (with_reducible refine (laws_sameNum.calls y2 _ true _ SO.out).mono ?_); rintro e w' ⟨rfl, ⟨nd, rfl⟩⟩) | (go_at_call 7; (with_reducible refine (impl_NumText.calls k5 y2 tt _ (Go.Proofs.YthdpiceiemkjlaaDoor.MRead.tabs2_below HTab.out (by repeat (first | (with_reducible first | exact HB.out | apply below_alloc | apply pw_below_drewN | apply below_drew1) | exact HB.out))) P5.out).mono ?_); rintro e w' ⟨rfl, hb⟩; have n0_ := Aside0.mk (below_step (by repeat (first | (with_reducible first | exact HB.out | apply below_alloc | apply pw_below_drewN | apply below_drew1) | exact HB.out)) hb); clear HB hb; have HB := n0_; clear n0_))
    go_ret
    exact ⟨rfl, by repeat (first | (with_reducible first | exact HB.out | apply below_alloc | apply pw_below_drewN | apply below_drew1) | exact HB.out)⟩

end Go.Proofs.YthdpiceiemkjlaaDoor.Pure

/- FnNumbers: for whatever numbers are drawn, they are in one order, and what one is made of makes it again. -/
import Derived.Test.YthdpiceiemkjlaaGNumbersx5
import Derived.Test.YthdpiceiemkjlaaMBase
import Derived.KernelRfl
import Derived.Test.YthdpiceiemkjlaaPureNumFacts
import Derived.Test.YthdpiceiemkjlaaPureDrawsNum
import Derived.Test.YthdpiceiemkjlaaGNumbersx5
import Derived.Test.YthdpiceiemkjlaaGNumbersx1
import Derived.Test.YthdpiceiemkjlaaGNumbersx3
import Derived.Test.YthdpiceiemkjlaaGNumbersx4
import Derived.Test.YthdpiceiemkjlaaMReal
import Derived.Test.YthdpiceiemkjlaaMNum
set_option linter.unusedVariables false
set_option linter.unusedSimpArgs false
namespace Go.Proofs.Ythdpiceiemkjlaa.Pure
open Go.RowKit Go.Proofs.Ythdpiceiemkjlaa.GNumbers Go.Proofs.YthdpiceiemkjlaaW.PrintWords Go.Proofs.YthdpiceiemkjlaaW.PrintLast Go.Proofs.YthdpiceiemkjlaaW.PrintMore Go.Proofs.Ythdpiceiemkjlaa.MBase
open Go.Proofs.Ythdpiceiemkjlaa Go.Proofs.Ythdpiceiemkjlaa.MNum Go.Proofs.Ythdpiceiemkjlaa.MIeee Go.Proofs.Ythdpiceiemkjlaa.MReal
theorem cmpI (x y : Nat) (n : Int) (w : World) (hx : x < 18446744073709551616)(hy : y < 18446744073709551616) (h : CmpN.cmpN x y = n) :
    Calls Try.prog 39 #[.float .f64 x, .float .f64 y] w fun e w' => e = .returned (.int .i64 n) ∧ Drawn0 w w' := by
  obtain ⟨k, hk⟩ := (CmpN.impl_cmp hx hy).rounds
  exact impl_CompareNum.calls k x y n w (by rw [← h]; exact hk)
theorem cmpS (x y : Nat) (n : Int) (w : World) (hx : x < 18446744073709551616)(hy : y < 18446744073709551616) (h : CmpN.cmpN x y = n) :
    Calls Try.prog 41 #[.float .f64 x, .float .f64 y] w fun e w' => e = .returned (.int .i64 n) ∧ Drawn0 w w' := by
  obtain ⟨k, hk⟩ := (CmpN.spec_cmp hx hy).rounds
  exact spec_CompareNum.calls k x y n w (by rw [← h]; exact hk)
theorem leastI (x y l : Nat) (w : World) (hx : x < 18446744073709551616)(hy : y < 18446744073709551616) (h : CmpN.leastN x y = l) :
    Calls Try.prog 40 #[.float .f64 x, .float .f64 y] w fun e w' => e = .returned (.float .f64 l) ∧ Drawn0 w w' := by
  obtain ⟨k, hk⟩ := (CmpN.impl_least hx hy).rounds
  exact impl_LeastNum.calls k x y l w (by rw [← h]; exact hk)
theorem leastS (x y l : Nat) (w : World) (hx : x < 18446744073709551616)(hy : y < 18446744073709551616) (h : CmpN.leastN x y = l) :
    Calls Try.prog 44 #[.float .f64 x, .float .f64 y] w fun e w' => e = .returned (.float .f64 l) ∧ Drawn0 w w' := by
  obtain ⟨k, hk⟩ := (CmpN.spec_least hx hy).rounds
  exact spec_LeastNum.calls k x y l w (by rw [← h]; exact hk)
theorem sameI (x y : Nat) (b : Bool) (w : World) (h : CmpN.same x y = b) :
    Calls Try.prog 42 #[.float .f64 x, .float .f64 y] w fun e w' => e = .returned (.bool b) ∧ Drawn0 w w' := impl_SameNum.calls x y b w (by rw [← h]; exact CmpN.impl_same)
theorem sameL (x y : Nat) (b : Bool) (w : World) (hx : x < 18446744073709551616)(hy : y < 18446744073709551616) (h : CmpN.same x y = b) :
    Calls Try.prog 43 #[.float .f64 x, .float .f64 y] w fun e w' => e = .returned (.bool b) ∧ Drawn0 w w' := laws_sameNum.calls x y b w (by rw [← h]; exact CmpN.law_same hx hy)
theorem kindI_ (x : Nat) (n : Int) (w : World) (hx : x < 18446744073709551616) (h : kindN x = n) :
    Calls Try.prog 48 #[.float .f64 x] w fun e w' => e = .returned (.int .i64 n) ∧ Drawn0 w w' := impl_KindOf.calls x n w (by rw [← h]; exact impl_kind hx)
theorem minusI_ (x : Nat) (b : Bool) (w : World) (hx : x < 18446744073709551616) (h : (if isNan x = true then false else CmpN.minus x) = b) :
    Calls Try.prog 50 #[.float .f64 x] w fun e w' => e = .returned (.bool b) ∧ Drawn0 w w' := impl_IsMinus.calls x b w (by rw [← h]; exact CmpN.impl_minus hx)
theorem minusS_ (x : Nat) (b : Bool) (w : World) (hx : x < 18446744073709551616) (h : (if isNan x = true then false else CmpN.minus x) = b) :
    Calls Try.prog 51 #[.float .f64 x] w fun e w' => e = .returned (.bool b) ∧ Drawn0 w w' := spec_IsMinus.calls x b w (by rw [← h]; exact CmpN.spec_minus hx)
theorem kindS_ (x : Nat) (n : Int) (w : World) (hx : x < 18446744073709551616) (h : kindN x = n) :
    Calls Try.prog 49 #[.float .f64 x] w fun e w' => e = .returned (.int .i64 n) ∧ Drawn0 w w' := by
  obtain ⟨k, hk⟩ := (spec_kind hx).rounds
  exact spec_KindOf.calls k x n w (by rw [← h]; exact hk)
set_option maxHeartbeats 16000000 in
set_option maxRecDepth 100000 in
theorem walk (k : Nat) (A0 : Option Addr) (c0 : Nat) (l0 : List Int) (A1 : Option Addr) (c1 : Nat) (l1 : List Int) (r : Bool) (w : World) (hr0 : Kd.C (Kd.int .u8) w A0 l0.length l0) (hc0 : l0.length ≤ c0) (hr1 : Kd.C (Kd.int .u8) w A1 l1.length l1) (hc1 : l1.length ≤ c1) (h0 : okBy l0) (h1 : okBy l1) :
    Calls Try.prog 8 #[.slice A0 l0.length c0, .slice A1 l1.length c1] w fun e w' => e = .returned (.bool true) ∧ Below w.heap.size w w' := by
  have HR0 := Aside0.mk hr0
  have HC0 := Aside0.mk hc0
  have HR1 := Aside0.mk hr1
  have HC1 := Aside0.mk hc1
  have H0 := Aside0.mk h0
  have H1 := Aside0.mk h1
  have HB := Aside0.mk (Below.refl w.heap.size w)
  clear hr0 hc0 hr1 hc1 h0 h1
  obtain ⟨b, hb⟩ : ∃ b, laws_big.f l0 l1 = some b := by unfold laws_big.f; split <;> exact ⟨_, rfl⟩
  have A2 := Aside0.mk hb
  clear hb
  cases b
  case true =>
    go_enter Try.func8, Try.ntmps8
    go_wp2_with (first | (go_at_call 28; (with_reducible refine (laws_big.calls _ _ l0 _ _ l1 true _ HR0.out HC0.out HR1.out HC1.out A2.out).mono ?_); rintro e w' ⟨rfl, ⟨nd, rfl⟩⟩))
    go_ret
    exact ⟨rfl, by repeat (first | (with_reducible first | exact HB.out | apply below_alloc | apply pw_below_drewN | apply below_drew1) | exact HB.out)⟩
  go_enter Try.func8, Try.ntmps8
  go_upto_region 4 with (first | (go_at_call 28; (with_reducible refine (laws_big.calls _ _ l0 _ _ l1 false _ HR0.out HC0.out HR1.out HC1.out A2.out).mono ?_); rintro e w' ⟨rfl, ⟨nd, rfl⟩⟩) | (go_at_call 38; (with_reducible refine (drawCompareNum_any (c0 := c0) H0.out (by repeat (first | exact HR0.out | (with_reducible refine Kd.C_alloc ?_ _) | (with_reducible refine Kd.C_drewN ?_ _) | (with_reducible refine Kd.C_drew ?_)))).mono ?_); rintro e w' ⟨x, y, hx, hy, rfl, hb⟩; have HX := Aside0.mk hx; have HY := Aside0.mk hy; clear hx hy; have n0_ := Aside0.mk (below_step (by repeat (first | (with_reducible first | exact HB.out | apply below_alloc | apply pw_below_drewN | apply below_drew1) | exact HB.out)) hb); clear HB hb; have HB := n0_; clear n0_))
  obtain ⟨n, hn⟩ : ∃ n, CmpN.cmpN x y = n := ⟨_, rfl⟩
  obtain ⟨l, hl⟩ : ∃ l, CmpN.leastN x y = l := ⟨_, rfl⟩
  obtain ⟨m, hm⟩ : ∃ m, CmpN.cmpN y x = m := ⟨_, rfl⟩
  have C1 := Aside0.mk hn
  have C2 := Aside0.mk hm
  have CL := Aside0.mk hl
  clear hn hm hl
  go_upto_region 7 with (first | (go_at_call 39; (with_reducible refine (cmpI x y n _ HX.out HY.out C1.out).mono ?_); rintro e w' ⟨rfl, ⟨nd, rfl⟩⟩) | (go_at_call 39; (with_reducible refine (cmpI y x m _ HY.out HX.out C2.out).mono ?_); rintro e w' ⟨rfl, ⟨nd, rfl⟩⟩) | (go_at_call 40; (with_reducible refine (leastI x y l _ HX.out HY.out CL.out).mono ?_); rintro e w' ⟨rfl, ⟨nd, rfl⟩⟩))
  go_cut [120] (fun s120 wx => s120 = .bool false ∧ Below w.heap.size w wx)
  case first =>
    have S3 := Aside0.mk (CmpN.same_refl x)
    have S4 := Aside0.mk (CmpN.same_refl y)
    have C3 := Aside0.mk ((CmpN.cmp_zero x x).mpr (CmpN.same_refl x))
    have C4 := Aside0.mk ((CmpN.cmp_zero y y).mpr (CmpN.same_refl y))
    have hneg := CmpN.cmp_neg HX.out HY.out
    have hcm := CmpN.same_comm x y
    have hz := CmpN.cmp_zero x y
    have hft := @CmpN.flt_cmp x y
    have hll : CmpN.leastN x y = if CmpN.cmpN x y ≤ 0 then x else y := rfl
    rw [C1.out] at hneg hz hft hll
    rw [C2.out] at hneg
    rw [CL.out] at hll
    have h3 := CmpN.cmp_vals x y
    rw [C1.out] at h3
    rcases h3 with rfl | rfl | rfl
    · obtain rfl : m = 1 := by omega
      obtain rfl : l = x := by rw [if_pos (by decide)] at hll; exact hll
      have S1 := Aside0.mk (show CmpN.same l y = false from Bool.eq_false_iff.mpr (fun e => absurd (hz.mpr e) (by decide)))
      have S2 := Aside0.mk (show CmpN.same y l = false from hcm.trans S1.out)
      clear hneg hz hft hll hcm
      cases hf : flt l y
      · go_wp2_with (first | (go_at_call 41; (with_reducible refine (cmpS l y (-1) _ HX.out HY.out C1.out).mono ?_); rintro e w' ⟨rfl, ⟨nd, rfl⟩⟩) | (go_at_call 42; (with_reducible refine (sameI l y false _ S1.out).mono ?_); rintro e w' ⟨rfl, ⟨nd, rfl⟩⟩) | (go_at_call 43; (with_reducible refine (sameL l y false _ HX.out HY.out S1.out).mono ?_); rintro e w' ⟨rfl, ⟨nd, rfl⟩⟩) | (go_at_call 43; (with_reducible refine (sameL l l true _ HX.out HX.out S3.out).mono ?_); rintro e w' ⟨rfl, ⟨nd, rfl⟩⟩) | (go_at_call 43; (with_reducible refine (sameL y y true _ HY.out HY.out S4.out).mono ?_); rintro e w' ⟨rfl, ⟨nd, rfl⟩⟩) | (go_at_call 43; (with_reducible refine (sameL y l false _ HY.out HX.out S2.out).mono ?_); rintro e w' ⟨rfl, ⟨nd, rfl⟩⟩) | (go_at_call 44; (with_reducible refine (leastS l y l _ HX.out HY.out CL.out).mono ?_); rintro e w' ⟨rfl, ⟨nd, rfl⟩⟩) | (go_at_call 39; (with_reducible refine (cmpI l l 0 _ HX.out HX.out C3.out).mono ?_); rintro e w' ⟨rfl, ⟨nd, rfl⟩⟩) | (go_at_call 39; (with_reducible refine (cmpI y y 0 _ HY.out HY.out C4.out).mono ?_); rintro e w' ⟨rfl, ⟨nd, rfl⟩⟩) | (go_at_call 39; (with_reducible refine (cmpI l y (-1) _ HX.out HY.out C1.out).mono ?_); rintro e w' ⟨rfl, ⟨nd, rfl⟩⟩) | (go_at_call 39; (with_reducible refine (cmpI y l 1 _ HY.out HX.out C2.out).mono ?_); rintro e w' ⟨rfl, ⟨nd, rfl⟩⟩))
        go_meet
        exact ⟨rfl, by repeat (first | (with_reducible first | exact HB.out | apply below_alloc | apply pw_below_drewN | apply below_drew1) | exact HB.out)⟩
      · go_wp2_with (first | (go_at_call 41; (with_reducible refine (cmpS l y (-1) _ HX.out HY.out C1.out).mono ?_); rintro e w' ⟨rfl, ⟨nd, rfl⟩⟩) | (go_at_call 42; (with_reducible refine (sameI l y false _ S1.out).mono ?_); rintro e w' ⟨rfl, ⟨nd, rfl⟩⟩) | (go_at_call 43; (with_reducible refine (sameL l y false _ HX.out HY.out S1.out).mono ?_); rintro e w' ⟨rfl, ⟨nd, rfl⟩⟩) | (go_at_call 43; (with_reducible refine (sameL l l true _ HX.out HX.out S3.out).mono ?_); rintro e w' ⟨rfl, ⟨nd, rfl⟩⟩) | (go_at_call 43; (with_reducible refine (sameL y y true _ HY.out HY.out S4.out).mono ?_); rintro e w' ⟨rfl, ⟨nd, rfl⟩⟩) | (go_at_call 43; (with_reducible refine (sameL y l false _ HY.out HX.out S2.out).mono ?_); rintro e w' ⟨rfl, ⟨nd, rfl⟩⟩) | (go_at_call 44; (with_reducible refine (leastS l y l _ HX.out HY.out CL.out).mono ?_); rintro e w' ⟨rfl, ⟨nd, rfl⟩⟩) | (go_at_call 39; (with_reducible refine (cmpI l l 0 _ HX.out HX.out C3.out).mono ?_); rintro e w' ⟨rfl, ⟨nd, rfl⟩⟩) | (go_at_call 39; (with_reducible refine (cmpI y y 0 _ HY.out HY.out C4.out).mono ?_); rintro e w' ⟨rfl, ⟨nd, rfl⟩⟩) | (go_at_call 39; (with_reducible refine (cmpI l y (-1) _ HX.out HY.out C1.out).mono ?_); rintro e w' ⟨rfl, ⟨nd, rfl⟩⟩) | (go_at_call 39; (with_reducible refine (cmpI y l 1 _ HY.out HX.out C2.out).mono ?_); rintro e w' ⟨rfl, ⟨nd, rfl⟩⟩))
        go_meet
        exact ⟨rfl, by repeat (first | (with_reducible first | exact HB.out | apply below_alloc | apply pw_below_drewN | apply below_drew1) | exact HB.out)⟩
    · obtain rfl : m = 0 := by omega
      obtain rfl : l = x := by rw [if_pos (by decide)] at hll; exact hll
      have S1 := Aside0.mk (show CmpN.same l y = true from hz.mp rfl)
      have S2 := Aside0.mk (show CmpN.same y l = true from hcm.trans S1.out)
      have hf : flt l y = false := Bool.eq_false_iff.mpr (fun e => absurd (hft e) (by decide))
      clear hneg hz hft hll hcm
      go_wp2_with (first | (go_at_call 41; (with_reducible refine (cmpS l y 0 _ HX.out HY.out C1.out).mono ?_); rintro e w' ⟨rfl, ⟨nd, rfl⟩⟩) | (go_at_call 42; (with_reducible refine (sameI l y true _ S1.out).mono ?_); rintro e w' ⟨rfl, ⟨nd, rfl⟩⟩) | (go_at_call 43; (with_reducible refine (sameL l y true _ HX.out HY.out S1.out).mono ?_); rintro e w' ⟨rfl, ⟨nd, rfl⟩⟩) | (go_at_call 43; (with_reducible refine (sameL l l true _ HX.out HX.out S3.out).mono ?_); rintro e w' ⟨rfl, ⟨nd, rfl⟩⟩) | (go_at_call 43; (with_reducible refine (sameL y y true _ HY.out HY.out S4.out).mono ?_); rintro e w' ⟨rfl, ⟨nd, rfl⟩⟩) | (go_at_call 43; (with_reducible refine (sameL y l true _ HY.out HX.out S2.out).mono ?_); rintro e w' ⟨rfl, ⟨nd, rfl⟩⟩) | (go_at_call 44; (with_reducible refine (leastS l y l _ HX.out HY.out CL.out).mono ?_); rintro e w' ⟨rfl, ⟨nd, rfl⟩⟩) | (go_at_call 39; (with_reducible refine (cmpI l l 0 _ HX.out HX.out C3.out).mono ?_); rintro e w' ⟨rfl, ⟨nd, rfl⟩⟩) | (go_at_call 39; (with_reducible refine (cmpI y y 0 _ HY.out HY.out C4.out).mono ?_); rintro e w' ⟨rfl, ⟨nd, rfl⟩⟩) | (go_at_call 39; (with_reducible refine (cmpI l y 0 _ HX.out HY.out C1.out).mono ?_); rintro e w' ⟨rfl, ⟨nd, rfl⟩⟩) | (go_at_call 39; (with_reducible refine (cmpI y l 0 _ HY.out HX.out C2.out).mono ?_); rintro e w' ⟨rfl, ⟨nd, rfl⟩⟩))
      go_meet
      exact ⟨rfl, by repeat (first | (with_reducible first | exact HB.out | apply below_alloc | apply pw_below_drewN | apply below_drew1) | exact HB.out)⟩
    · obtain rfl : m = -1 := by omega
      obtain rfl : l = y := by rw [if_neg (by decide)] at hll; exact hll
      have S1 := Aside0.mk (show CmpN.same x l = false from Bool.eq_false_iff.mpr (fun e => absurd (hz.mpr e) (by decide)))
      have S2 := Aside0.mk (show CmpN.same l x = false from hcm.trans S1.out)
      have hf : flt x l = false := Bool.eq_false_iff.mpr (fun e => absurd (hft e) (by decide))
      clear hneg hz hft hll hcm
      go_wp2_with (first | (go_at_call 41; (with_reducible refine (cmpS x l 1 _ HX.out HY.out C1.out).mono ?_); rintro e w' ⟨rfl, ⟨nd, rfl⟩⟩) | (go_at_call 42; (with_reducible refine (sameI x l false _ S1.out).mono ?_); rintro e w' ⟨rfl, ⟨nd, rfl⟩⟩) | (go_at_call 43; (with_reducible refine (sameL x l false _ HX.out HY.out S1.out).mono ?_); rintro e w' ⟨rfl, ⟨nd, rfl⟩⟩) | (go_at_call 43; (with_reducible refine (sameL x x true _ HX.out HX.out S3.out).mono ?_); rintro e w' ⟨rfl, ⟨nd, rfl⟩⟩) | (go_at_call 43; (with_reducible refine (sameL l l true _ HY.out HY.out S4.out).mono ?_); rintro e w' ⟨rfl, ⟨nd, rfl⟩⟩) | (go_at_call 43; (with_reducible refine (sameL l x false _ HY.out HX.out S2.out).mono ?_); rintro e w' ⟨rfl, ⟨nd, rfl⟩⟩) | (go_at_call 44; (with_reducible refine (leastS x l l _ HX.out HY.out CL.out).mono ?_); rintro e w' ⟨rfl, ⟨nd, rfl⟩⟩) | (go_at_call 39; (with_reducible refine (cmpI x x 0 _ HX.out HX.out C3.out).mono ?_); rintro e w' ⟨rfl, ⟨nd, rfl⟩⟩) | (go_at_call 39; (with_reducible refine (cmpI l l 0 _ HY.out HY.out C4.out).mono ?_); rintro e w' ⟨rfl, ⟨nd, rfl⟩⟩) | (go_at_call 39; (with_reducible refine (cmpI x l 1 _ HX.out HY.out C1.out).mono ?_); rintro e w' ⟨rfl, ⟨nd, rfl⟩⟩) | (go_at_call 39; (with_reducible refine (cmpI l x (-1) _ HY.out HX.out C2.out).mono ?_); rintro e w' ⟨rfl, ⟨nd, rfl⟩⟩))
      go_meet
      exact ⟨rfl, by repeat (first | (with_reducible first | exact HB.out | apply below_alloc | apply pw_below_drewN | apply below_drew1) | exact HB.out)⟩
  case rest =>
    obtain ⟨rfl, hb⟩ := hcut
    clear HB
    have HB := Aside0.mk hb
    clear hb
    go_upto_region 10 with (first | (go_at_call 45; (with_reducible refine (drawPartsOf_any (c0 := c1) H1.out (Kd.C_below HR1.out (by repeat (first | (with_reducible first | exact HB.out | apply below_alloc | apply pw_below_drewN | apply below_drew1) | exact HB.out)))).mono ?_); rintro e w' ⟨z, hz, rfl, hb⟩; have HZ := Aside0.mk hz; clear hz; have n0_ := Aside0.mk (below_step (by repeat (first | (with_reducible first | exact HB.out | apply below_alloc | apply pw_below_drewN | apply below_drew1) | exact HB.out)) hb); clear HB hb; have HB := n0_; clear n0_))
    obtain ⟨man, exp, ok, hps, hpi, hok, hnum⟩ := parts_facts HZ.out
    obtain ⟨k1, hk1⟩ := hps.rounds
    obtain ⟨k2, hk2⟩ := hpi.rounds
    have P1 := Aside0.mk hk1
    have P2 := Aside0.mk hk2
    clear hps hpi hk1 hk2
    obtain ⟨kd, hkd⟩ : ∃ v, kindN z = v := ⟨_, rfl⟩
    obtain ⟨mz, hmz⟩ : ∃ v, (if isNan z = true then false else CmpN.minus z) = v := ⟨_, rfl⟩
    rw [hkd] at hok hnum
    rw [hmz] at hnum
    have KD := Aside0.mk hkd
    have MZ := Aside0.mk hmz
    have ZZ := Aside0.mk (CmpN.same_refl z)
    clear hkd hmz
    have W1 : ∀ b, ok = b → Aside0 (spec_PartsOf.f k1 z = some (man, exp, b)) := fun b e => e ▸ P1
    have W2 : ∀ b, ok = b → Aside0 (impl_PartsOf.f k2 z = some (man, exp, b)) := fun b e => e ▸ P2
    have NN := Aside0.mk hnum
    have OK := Aside0.mk hok
    clear hnum hok
    clear W1 W2
    cases ok
    · have q1 : decide (kd ≥ 3) = false := OK.out.symm
      have q2 : decide (3 ≤ kd) = false := OK.out.symm
      go_upto_region 19 with (first | (go_at_call 46; (with_reducible refine (impl_PartsOf.calls k2 z man exp false _ P2.out).mono ?_); rintro e w' ⟨rfl, ⟨nd, rfl⟩⟩) | (go_at_call 47; (with_reducible refine (spec_PartsOf.calls k1 z man exp false _ P1.out).mono ?_); rintro e w' ⟨rfl, ⟨nd, rfl⟩⟩) | (go_at_call 48; (with_reducible refine (kindI_ z kd _ HZ.out KD.out).mono ?_); rintro e w' ⟨rfl, ⟨nd, rfl⟩⟩) | (go_at_call 49; (with_reducible refine (kindS_ z kd _ HZ.out KD.out).mono ?_); rintro e w' ⟨rfl, ⟨nd, rfl⟩⟩) | (go_at_call 50; (with_reducible refine (minusI_ z mz _ HZ.out MZ.out).mono ?_); rintro e w' ⟨rfl, ⟨nd, rfl⟩⟩) | (go_at_call 51; (with_reducible refine (minusS_ z mz _ HZ.out MZ.out).mono ?_); rintro e w' ⟨rfl, ⟨nd, rfl⟩⟩))
      go_upto_region 20 with (first | (go_at_call 53; (with_reducible refine (drawNumOf_any (c0 := c1) H1.out (Kd.C_below HR1.out (by repeat (first | (with_reducible first | exact HB.out | apply below_alloc | apply pw_below_drewN | apply below_drew1) | exact HB.out)))).mono ?_); rintro e w' ⟨c, d, hcd, rfl, hb⟩; clear hcd; have n0_ := Aside0.mk (below_step (by repeat (first | (with_reducible first | exact HB.out | apply below_alloc | apply pw_below_drewN | apply below_drew1) | exact HB.out)) hb); clear HB hb; have HB := n0_; clear n0_))
      obtain ⟨yw, bw, hyw, hs3, hi3⟩ := num_same c d
      obtain ⟨k5, hk5⟩ := hs3.rounds
      obtain ⟨k6, hk6⟩ := hi3.rounds
      have N5 := Aside0.mk hk5
      have N6 := Aside0.mk hk6
      have HW := Aside0.mk hyw
      have WW := Aside0.mk (CmpN.same_refl yw)
      clear hs3 hi3 hk5 hk6 hyw
      go_upto_region 23 with (first | (go_at_call 52; (with_reducible refine (impl_NumOf.calls k6 c d yw bw _ N6.out).mono ?_); rintro e w' ⟨rfl, ⟨nd, rfl⟩⟩) | (go_at_call 54; (with_reducible refine (spec_NumOf.calls k5 c d yw bw _ N5.out).mono ?_); rintro e w' ⟨rfl, ⟨nd, rfl⟩⟩) | (go_at_call 55; (with_reducible refine (drawToIndex_any (c0 := c1) H1.out (Kd.C_below HR1.out (by repeat (first | (with_reducible first | exact HB.out | apply below_alloc | apply pw_below_drewN | apply below_drew1) | exact HB.out)))).mono ?_); rintro e w' ⟨v, q, hv, hq, rfl, hb⟩; have HV := Aside0.mk hv; clear hv hq; have n0_ := Aside0.mk (below_step (by repeat (first | (with_reducible first | exact HB.out | apply below_alloc | apply pw_below_drewN | apply below_drew1) | exact HB.out)) hb); clear HB hb; have HB := n0_; clear n0_))
      obtain ⟨⟨ix, ib⟩, hx1, hx2⟩ := index_same HV.out q
      have X1 := Aside0.mk hx1
      have X2 := Aside0.mk hx2
      clear hx1 hx2
      cases bw
      · go_wp2_with (first | (go_at_call 56; (with_reducible refine (impl_ToIndex.calls v q ix ib _ X2.out).mono ?_); rintro e w' ⟨rfl, ⟨nd, rfl⟩⟩) | (go_at_call 57; (with_reducible refine (spec_ToIndex.calls v q ix ib _ X1.out).mono ?_); rintro e w' ⟨rfl, ⟨nd, rfl⟩⟩) | (go_at_call 43; (with_reducible refine (sameL yw yw true _ HW.out HW.out WW.out).mono ?_); rintro e w' ⟨rfl, ⟨nd, rfl⟩⟩))
        go_ret
        exact ⟨rfl, by repeat (first | (with_reducible first | exact HB.out | apply below_alloc | apply pw_below_drewN | apply below_drew1) | exact HB.out)⟩
      · obtain ⟨k7, hk7⟩ := impl_parts_of_num N6.out
        have P7 := Aside0.mk hk7
        clear hk7
        go_wp2_with (first | (go_at_call 56; (with_reducible refine (impl_ToIndex.calls v q ix ib _ X2.out).mono ?_); rintro e w' ⟨rfl, ⟨nd, rfl⟩⟩) | (go_at_call 57; (with_reducible refine (spec_ToIndex.calls v q ix ib _ X1.out).mono ?_); rintro e w' ⟨rfl, ⟨nd, rfl⟩⟩) | (go_at_call 43; (with_reducible refine (sameL yw yw true _ HW.out HW.out WW.out).mono ?_); rintro e w' ⟨rfl, ⟨nd, rfl⟩⟩) | (go_at_call 46; (with_reducible refine (impl_PartsOf.calls k7 yw c d true _ P7.out).mono ?_); rintro e w' ⟨rfl, ⟨nd, rfl⟩⟩))
        go_ret
        exact ⟨rfl, by repeat (first | (with_reducible first | exact HB.out | apply below_alloc | apply pw_below_drewN | apply below_drew1) | exact HB.out)⟩
    · have q1 : decide (kd ≥ 3) = true := OK.out.symm
      have q2 : decide (3 ≤ kd) = true := OK.out.symm
      obtain ⟨hn, hodd, hex, hmn⟩ := NN.out rfl
      obtain ⟨k3, hk3⟩ := hn.rounds
      have N1 := Aside0.mk hk3
      clear hk3 hn
      have q3 : (Int.tmod man 2 == 0) = false := beq_eq_false_iff_ne.mpr hodd
      have q4 : decide (0 ≤ exp) = (kd == 3) := by rw [hex, Bool.eq_iff_iff, decide_eq_true_eq, beq_iff_eq]
      have q6 : decide (man < 0) = mz := hmn
      clear hodd hex hmn
      go_upto_region 19 with (first | (go_at_call 46; (with_reducible refine (impl_PartsOf.calls k2 z man exp true _ P2.out).mono ?_); rintro e w' ⟨rfl, ⟨nd, rfl⟩⟩) | (go_at_call 47; (with_reducible refine (spec_PartsOf.calls k1 z man exp true _ P1.out).mono ?_); rintro e w' ⟨rfl, ⟨nd, rfl⟩⟩) | (go_at_call 48; (with_reducible refine (kindI_ z kd _ HZ.out KD.out).mono ?_); rintro e w' ⟨rfl, ⟨nd, rfl⟩⟩) | (go_at_call 49; (with_reducible refine (kindS_ z kd _ HZ.out KD.out).mono ?_); rintro e w' ⟨rfl, ⟨nd, rfl⟩⟩) | (go_at_call 50; (with_reducible refine (minusI_ z mz _ HZ.out MZ.out).mono ?_); rintro e w' ⟨rfl, ⟨nd, rfl⟩⟩) | (go_at_call 51; (with_reducible refine (minusS_ z mz _ HZ.out MZ.out).mono ?_); rintro e w' ⟨rfl, ⟨nd, rfl⟩⟩) | (go_at_call 52; (with_reducible refine (impl_NumOf.calls k3 man exp z true _ N1.out).mono ?_); rintro e w' ⟨rfl, ⟨nd, rfl⟩⟩) | (go_at_call 43; (with_reducible refine (sameL z z true _ HZ.out HZ.out ZZ.out).mono ?_); rintro e w' ⟨rfl, ⟨nd, rfl⟩⟩))
      go_upto_region 20 with (first | (go_at_call 53; (with_reducible refine (drawNumOf_any (c0 := c1) H1.out (Kd.C_below HR1.out (by repeat (first | (with_reducible first | exact HB.out | apply below_alloc | apply pw_below_drewN | apply below_drew1) | exact HB.out)))).mono ?_); rintro e w' ⟨c, d, hcd, rfl, hb⟩; clear hcd; have n0_ := Aside0.mk (below_step (by repeat (first | (with_reducible first | exact HB.out | apply below_alloc | apply pw_below_drewN | apply below_drew1) | exact HB.out)) hb); clear HB hb; have HB := n0_; clear n0_))
      obtain ⟨yw, bw, hyw, hs3, hi3⟩ := num_same c d
      obtain ⟨k5, hk5⟩ := hs3.rounds
      obtain ⟨k6, hk6⟩ := hi3.rounds
      have N5 := Aside0.mk hk5
      have N6 := Aside0.mk hk6
      have HW := Aside0.mk hyw
      have WW := Aside0.mk (CmpN.same_refl yw)
      clear hs3 hi3 hk5 hk6 hyw
      go_upto_region 23 with (first | (go_at_call 52; (with_reducible refine (impl_NumOf.calls k6 c d yw bw _ N6.out).mono ?_); rintro e w' ⟨rfl, ⟨nd, rfl⟩⟩) | (go_at_call 54; (with_reducible refine (spec_NumOf.calls k5 c d yw bw _ N5.out).mono ?_); rintro e w' ⟨rfl, ⟨nd, rfl⟩⟩) | (go_at_call 55; (with_reducible refine (drawToIndex_any (c0 := c1) H1.out (Kd.C_below HR1.out (by repeat (first | (with_reducible first | exact HB.out | apply below_alloc | apply pw_below_drewN | apply below_drew1) | exact HB.out)))).mono ?_); rintro e w' ⟨v, q, hv, hq, rfl, hb⟩; have HV := Aside0.mk hv; clear hv hq; have n0_ := Aside0.mk (below_step (by repeat (first | (with_reducible first | exact HB.out | apply below_alloc | apply pw_below_drewN | apply below_drew1) | exact HB.out)) hb); clear HB hb; have HB := n0_; clear n0_))
      obtain ⟨⟨ix, ib⟩, hx1, hx2⟩ := index_same HV.out q
      have X1 := Aside0.mk hx1
      have X2 := Aside0.mk hx2
      clear hx1 hx2
      cases bw
      · go_wp2_with (first | (go_at_call 56; (with_reducible refine (impl_ToIndex.calls v q ix ib _ X2.out).mono ?_); rintro e w' ⟨rfl, ⟨nd, rfl⟩⟩) | (go_at_call 57; (with_reducible refine (spec_ToIndex.calls v q ix ib _ X1.out).mono ?_); rintro e w' ⟨rfl, ⟨nd, rfl⟩⟩) | (go_at_call 43; (with_reducible refine (sameL yw yw true _ HW.out HW.out WW.out).mono ?_); rintro e w' ⟨rfl, ⟨nd, rfl⟩⟩))
        go_ret
        exact ⟨rfl, by repeat (first | (with_reducible first | exact HB.out | apply below_alloc | apply pw_below_drewN | apply below_drew1) | exact HB.out)⟩
      · obtain ⟨k7, hk7⟩ := impl_parts_of_num N6.out
        have P7 := Aside0.mk hk7
        clear hk7
        go_wp2_with (first | (go_at_call 56; (with_reducible refine (impl_ToIndex.calls v q ix ib _ X2.out).mono ?_); rintro e w' ⟨rfl, ⟨nd, rfl⟩⟩) | (go_at_call 57; (with_reducible refine (spec_ToIndex.calls v q ix ib _ X1.out).mono ?_); rintro e w' ⟨rfl, ⟨nd, rfl⟩⟩) | (go_at_call 43; (with_reducible refine (sameL yw yw true _ HW.out HW.out WW.out).mono ?_); rintro e w' ⟨rfl, ⟨nd, rfl⟩⟩) | (go_at_call 46; (with_reducible refine (impl_PartsOf.calls k7 yw c d true _ P7.out).mono ?_); rintro e w' ⟨rfl, ⟨nd, rfl⟩⟩))
        go_ret
        exact ⟨rfl, by repeat (first | (with_reducible first | exact HB.out | apply below_alloc | apply pw_below_drewN | apply below_drew1) | exact HB.out)⟩

end Go.Proofs.Ythdpiceiemkjlaa.Pure

/- What the functions answer that draw a number, or a number's text. -/
import Derived.Test.YthdpiceiemkjlaaDoorGFnNumTextx8
import Derived.Test.YthdpiceiemkjlaaDoorMBase
import Derived.KernelRfl
import Derived.Test.YthdpiceiemkjlaaDoorPureTextFacts
import Derived.Test.YthdpiceiemkjlaaDoorPureDrawsText
import Derived.Test.YthdpiceiemkjlaaDoorMReal
import Derived.Test.YthdpiceiemkjlaaDoorMNum
set_option linter.unusedVariables false
set_option linter.unusedSimpArgs false
namespace Go.Proofs.YthdpiceiemkjlaaDoor.Pure
open Go.RowKit Go.Proofs.YthdpiceiemkjlaaDoor.GFnNumText Go.Proofs.YthdpiceiemkjlaaDoorW.PrintWords Go.Proofs.YthdpiceiemkjlaaDoorW.PrintLast Go.Proofs.YthdpiceiemkjlaaDoorW.PrintMore Go.Proofs.YthdpiceiemkjlaaDoor.MBase
open Go.Proofs.YthdpiceiemkjlaaDoor Go.Proofs.YthdpiceiemkjlaaDoor.MNum Go.Proofs.YthdpiceiemkjlaaDoor.MIeee Go.Proofs.YthdpiceiemkjlaaDoor.MReal
theorem M_str1 (w : World) (base : Nat) (ok : Nat → Prop) (x : ByteArray) : Kd.string.M w base ok x [.string x] := rfl
def drawT : List ByteArray := ([(⟨#[]⟩ : ByteArray), (⟨#[112]⟩ : ByteArray), (⟨#[49, 112]⟩ : ByteArray), (⟨#[112, 49]⟩ : ByteArray), (⟨#[50, 112, 48]⟩ : ByteArray), (⟨#[49, 112, 45, 48]⟩ : ByteArray), (⟨#[48, 49, 112, 48]⟩ : ByteArray), (⟨#[49, 112, 49, 112, 49]⟩ : ByteArray), (⟨#[45, 110, 97, 110]⟩ : ByteArray), (⟨#[45, 48, 112, 49]⟩ : ByteArray), (⟨#[49, 112, 45, 49, 48, 55, 53]⟩ : ByteArray), (⟨#[57, 48, 48, 55, 49, 57, 57, 50, 53, 52, 55, 52, 48, 57, 57, 49, 112, 57, 55, 49]⟩ : ByteArray), (⟨#[57, 48, 48, 55, 49, 57, 57, 50, 53, 52, 55, 52, 48, 57, 57, 49, 112, 57, 55, 50]⟩ : ByteArray)] : List ByteArray)
theorem drawT_small : ∀ r ∈ drawT, r.size ≤ 100 := by
  intro r hr
  simp only [drawT, List.mem_cons, List.not_mem_nil, or_false] at hr
  rcases hr with h | h | h | h | h | h | h | h | h | h | h | h | h <;> subst h <;> decide
set_option maxHeartbeats 4000000 in
set_option maxRecDepth 100000 in
theorem drawNumText_any {w : World} {A0 : Option Addr} {c0 : Nat} {s : List Int} (hs : okBy s) (hr0 : Kd.C (Kd.int .u8) w A0 s.length s) :
    Calls Tryd.prog 6 #[.slice A0 s.length c0] w fun e w' => ∃ x, x < 18446744073709551616 ∧ e = .returned (.float .f64 x) ∧ Below w.heap.size w w' := by
  have HS := Aside0.mk hs
  have HR := Aside0.mk hr0
  clear hs hr0
  go_enter Tryd.func6, Tryd.ntmps6
  go_wp2_with (first | (go_at_call 18; (with_reducible refine (drawKindOf_any (c0 := c0) HS.out HR.out).mono ?_); rintro e w1 ⟨x1, hx1, rfl, hb1⟩; have HX1 := Aside0.mk hx1; have HB := Aside0.mk hb1; clear hx1 hb1))
  go_ret
  exact ⟨_, HX1.out, rfl, by repeat (first | exact HB.out | apply below_alloc | apply pw_below_drewN | apply below_drew1)⟩
set_option maxHeartbeats 4000000 in
set_option maxRecDepth 100000 in
theorem drawReadNum_any {w : World} {A0 : Option Addr} {c0 : Nat} {s : List Int} (hs : okBy s) (hr0 : Kd.C (Kd.int .u8) w A0 s.length s) :
    Calls Tryd.prog 11 #[.slice A0 s.length c0] w fun e w' => ∃ t, t.size ≤ 1000 ∧ e = .returned (.string t) ∧ Below w.heap.size w w' := by
  obtain ⟨y9, hy9⟩ : ∃ y_ : List ByteArray, y_ = ([(⟨#[]⟩ : ByteArray), (⟨#[112]⟩ : ByteArray), (⟨#[49, 112]⟩ : ByteArray), (⟨#[112, 49]⟩ : ByteArray), (⟨#[50, 112, 48]⟩ : ByteArray), (⟨#[49, 112, 45, 48]⟩ : ByteArray), (⟨#[48, 49, 112, 48]⟩ : ByteArray), (⟨#[49, 112, 49, 112, 49]⟩ : ByteArray), (⟨#[45, 110, 97, 110]⟩ : ByteArray), (⟨#[45, 48, 112, 49]⟩ : ByteArray), (⟨#[49, 112, 45, 49, 48, 55, 53]⟩ : ByteArray), (⟨#[57, 48, 48, 55, 49, 57, 57, 50, 53, 52, 55, 52, 48, 57, 57, 49, 112, 57, 55, 49]⟩ : ByteArray), (⟨#[57, 48, 48, 55, 49, 57, 57, 50, 53, 52, 55, 52, 48, 57, 57, 49, 112, 57, 55, 50]⟩ : ByteArray)] : List ByteArray) := ⟨_, rfl⟩
  have Nl9 : Aside0 (0 < y9.length) := ⟨by subst hy9; exact Nat.succ_pos _⟩
  have Ny9 := Aside0.mk hy9
  clear hy9
  have HS := Aside0.mk hs
  have HR := Aside0.mk hr0
  clear hs hr0
  go_enter Tryd.func11, Tryd.ntmps11
  go_wp2_with fail
  go_at_call 33; (with_reducible refine (num_any (w0 := w) (m := 0) HS.out (Cur.new w _ A0 c0 s (Below.refl _ _) HR.out) (by omega) (below_alloc (Below.refl _ _) _)).mono ?_); rintro e w1 ⟨x1, hx1, rfl, hi1, hb1, hk1⟩; have HX1 := Aside0.mk hx1; clear hx1; have HI := Aside0.mk (Cur.more (m' := 6) hi1 (by omega)); have HB := Aside0.mk hb1; clear hi1 hb1 hk1
  obtain ⟨r1, hr1, hs1, _⟩ := numtext_same HX1.out
  obtain ⟨kk, hk⟩ := hs1.rounds
  have HN := Aside0.mk hk
  have HL := Aside0.mk (show (bs r1).size ≤ 50 by rw [bs_size]; exact hr1)
  clear hr1 hs1 hk
  obtain ⟨q1, hq1⟩ : ∃ q, q = bs r1 := ⟨_, rfl⟩
  rw [← hq1] at HN HL
  clear hq1
  go_wp2_with fail
  go_at_call 9; (with_reducible refine (spec_NumText.calls kk x1 q1 _ HN.out).mono ?_); rintro e w9 ⟨rfl, hb9⟩; have n0_ := Aside0.mk (Cur.below (m := 6) (by repeat (first | (with_reducible first | exact HI.out | apply Cur.alloc | apply Cur.drewN | apply Cur.drew) | exact HI.out)) hb9); have n1_ := Aside0.mk (below_step (by repeat (first | (with_reducible first | exact HB.out | apply below_alloc | apply pw_below_drewN | apply below_drew1) | exact HB.out)) hb9); clear HI HB hb9; have HI := n0_; have HB := n1_; clear n0_ n1_
  go_wp2_with fail
  go_at_call 34; (with_reducible refine (one_any (w0 := w) (m := 6) 3 HS.out (by repeat (first | (with_reducible first | exact HI.out | apply Cur.alloc | apply Cur.drewN | apply Cur.drew) | exact HI.out)) (by omega) (by repeat (first | (with_reducible first | exact HB.out | apply below_alloc | apply pw_below_drewN | apply below_drew1) | exact HB.out))).mono ?_); rintro e w2 ⟨b2, rfl, hi2, hb2, hk2⟩; clear HI HB; have HI := Aside0.mk (Cur.more (m' := 8) hi2 (by omega)); have HB := Aside0.mk hb2; clear hi2 hb2 hk2
  cases b2
  · go_wp2_with fail
    go_at_call 34; (with_reducible refine (one_any (w0 := w) (m := 8) 8 HS.out (by repeat (first | (with_reducible first | exact HI.out | apply Cur.alloc | apply Cur.drewN | apply Cur.drew) | exact HI.out)) (by omega) (by repeat (first | (with_reducible first | exact HB.out | apply below_alloc | apply pw_below_drewN | apply below_drew1) | exact HB.out))).mono ?_); rintro e w4 ⟨b4, rfl, hi4, hb4, hk4⟩; clear HI HB; have HI := Aside0.mk (Cur.more (m' := 10) hi4 (by omega)); have HB := Aside0.mk hb4; clear hi4 hb4 hk4
    cases b4
    · go_wp2_with fail
      go_ret
      exact ⟨_, by have := HL.out; omega, rfl, by repeat (first | exact HB.out | apply below_alloc | apply pw_below_drewN | apply below_drew1)⟩
    · go_wp2_with (first | ((with_reducible refine gate_dst (N := 19) rfl ?_); refine Kd.R_lit Kd.string _ 9 ?hg (N := 19) ?hd (xs := ([(⟨#[]⟩ : ByteArray), (⟨#[112]⟩ : ByteArray), (⟨#[49, 112]⟩ : ByteArray), (⟨#[112, 49]⟩ : ByteArray), (⟨#[50, 112, 48]⟩ : ByteArray), (⟨#[49, 112, 45, 48]⟩ : ByteArray), (⟨#[48, 49, 112, 48]⟩ : ByteArray), (⟨#[49, 112, 49, 112, 49]⟩ : ByteArray), (⟨#[45, 110, 97, 110]⟩ : ByteArray), (⟨#[45, 48, 112, 49]⟩ : ByteArray), (⟨#[49, 112, 45, 49, 48, 55, 53]⟩ : ByteArray), (⟨#[57, 48, 48, 55, 49, 57, 57, 50, 53, 52, 55, 52, 48, 57, 57, 49, 112, 57, 55, 49]⟩ : ByteArray), (⟨#[57, 48, 48, 55, 49, 57, 57, 50, 53, 52, 55, 52, 48, 57, 57, 49, 112, 57, 55, 50]⟩ : ByteArray)] : List ByteArray)) (inner := [.string (⟨#[]⟩ : ByteArray), .string (⟨#[112]⟩ : ByteArray), .string (⟨#[49, 112]⟩ : ByteArray), .string (⟨#[112, 49]⟩ : ByteArray), .string (⟨#[50, 112, 48]⟩ : ByteArray), .string (⟨#[49, 112, 45, 48]⟩ : ByteArray), .string (⟨#[48, 49, 112, 48]⟩ : ByteArray), .string (⟨#[49, 112, 49, 112, 49]⟩ : ByteArray), .string (⟨#[45, 110, 97, 110]⟩ : ByteArray), .string (⟨#[45, 48, 112, 49]⟩ : ByteArray), .string (⟨#[49, 112, 45, 49, 48, 55, 53]⟩ : ByteArray), .string (⟨#[57, 48, 48, 55, 49, 57, 57, 50, 53, 52, 55, 52, 48, 57, 57, 49, 112, 57, 55, 49]⟩ : ByteArray), .string (⟨#[57, 48, 48, 55, 49, 57, 57, 50, 53, 52, 55, 52, 48, 57, 57, 49, 112, 57, 55, 50]⟩ : ByteArray)]) (ok := fun _ => True) (okp := fun _ => True) ?hr ?hp (fun _ hk => hk) trivial (Below.refl _ _) (Nat.le_refl _) (by simp) ?_; (case hd => rfl); (case hg => rfl); (case hr => first | (go_simp; done) | (go_simp; rfl)); (case hp => exact (Reps.one (M_str1 _ _ _ (⟨#[]⟩ : ByteArray)) (Reps.one (M_str1 _ _ _ (⟨#[112]⟩ : ByteArray)) (Reps.one (M_str1 _ _ _ (⟨#[49, 112]⟩ : ByteArray)) (Reps.one (M_str1 _ _ _ (⟨#[112, 49]⟩ : ByteArray)) (Reps.one (M_str1 _ _ _ (⟨#[50, 112, 48]⟩ : ByteArray)) (Reps.one (M_str1 _ _ _ (⟨#[49, 112, 45, 48]⟩ : ByteArray)) (Reps.one (M_str1 _ _ _ (⟨#[48, 49, 112, 48]⟩ : ByteArray)) (Reps.one (M_str1 _ _ _ (⟨#[49, 112, 49, 112, 49]⟩ : ByteArray)) (Reps.one (M_str1 _ _ _ (⟨#[45, 110, 97, 110]⟩ : ByteArray)) (Reps.one (M_str1 _ _ _ (⟨#[45, 48, 112, 49]⟩ : ByteArray)) (Reps.one (M_str1 _ _ _ (⟨#[49, 112, 45, 49, 48, 55, 53]⟩ : ByteArray)) (Reps.one (M_str1 _ _ _ (⟨#[57, 48, 48, 55, 49, 57, 57, 50, 53, 52, 55, 52, 48, 57, 57, 49, 112, 57, 55, 49]⟩ : ByteArray)) (Reps.one (M_str1 _ _ _ (⟨#[57, 48, 48, 55, 49, 57, 57, 50, 53, 52, 55, 52, 48, 57, 57, 49, 112, 57, 55, 50]⟩ : ByteArray)) (Reps.none _ _))))))))))))))); intro v9 wl9 ho9 hb9 hg_ hnew_; clear hg_ hnew_; (first | rw [← Ny9.out] at ho9 | (simp only [Int.reduceToNat] at ho9; rw [← Ny9.out] at ho9)); have n0_ := Aside0.mk ho9; have n1_ := Aside0.mk (Cur.below (m := 10) (by repeat (first | (with_reducible first | exact HI.out | apply Cur.alloc | apply Cur.drewN | apply Cur.drew) | exact HI.out)) hb9); have n2_ := Aside0.mk (below_step (by repeat (first | (with_reducible first | exact HB.out | apply below_alloc | apply pw_below_drewN | apply below_drew1) | exact HB.out)) hb9); clear HI HB; clear ho9 hb9; have HO9 := n0_; have HI := n1_; have HB := n2_; clear n0_ n1_ n2_; obtain ⟨Ao9, co9, eo9⟩ := Kd.R_slice HO9.out; subst eo9))
      go_at_call 36; (with_reducible refine (of_any (w0 := w) (m := 10) y9 Nl9.out HS.out (by repeat (first | (with_reducible first | exact HI.out | apply Cur.alloc | apply Cur.drewN | apply Cur.drew) | exact HI.out)) (by omega) (by repeat (first | (with_reducible first | exact HB.out | apply below_alloc | apply pw_below_drewN | apply below_drew1) | exact HB.out)) ?hr ?hc ?hf).mono ?_); (case hr => repeat (first | exact (Kd.R_reads' HO9.out).2.2 | (with_reducible refine Kd.C_alloc ?_ _) | (with_reducible refine Kd.C_drewN ?_ _) | (with_reducible refine Kd.C_drew ?_))); (case hc => exact (Kd.R_reads' HO9.out).2.1); (case hf => exact Cur.farT HI.out HO9.out); rintro e w9 ⟨r9, hr9, rfl, hi9, hb9, hk9⟩; have HV9 := Aside0.mk hr9; clear hr9; clear HI HB; have HI := Aside0.mk (Cur.more (m' := 12) hi9 (by omega)); have HB := Aside0.mk hb9; clear hi9 hb9 hk9
      have e9_ : y9 = drawT := Ny9.out
      have HV := Aside0.mk (drawT_small _ (e9_ ▸ HV9.out))
      clear e9_
      go_wp2_with fail
      go_ret
      exact ⟨_, by have := HV.out; omega, rfl, by repeat (first | exact HB.out | apply below_alloc | apply pw_below_drewN | apply below_drew1)⟩
  · go_wp2_with fail
    go_at_call 35; (with_reducible refine (spoilt_any (w0 := w) (m := 8) q1 _ (by have := HL.out; omega) (by decide) (by decide) HS.out (by repeat (first | (with_reducible first | exact HI.out | apply Cur.alloc | apply Cur.drewN | apply Cur.drew) | exact HI.out)) (by omega) (by repeat (first | (with_reducible first | exact HB.out | apply below_alloc | apply pw_below_drewN | apply below_drew1) | exact HB.out))).mono ?_); rintro e w3 ⟨t3, ht3, rfl, hi3, hb3, hk3⟩; have HT3 := Aside0.mk ht3; clear ht3; clear HI HB; have HI := Aside0.mk (Cur.more (m' := 22) hi3 (by omega)); have HB := Aside0.mk hb3; clear hi3 hb3 hk3
    go_wp2_with fail
    go_at_call 34; (with_reducible refine (one_any (w0 := w) (m := 22) 8 HS.out (by repeat (first | (with_reducible first | exact HI.out | apply Cur.alloc | apply Cur.drewN | apply Cur.drew) | exact HI.out)) (by omega) (by repeat (first | (with_reducible first | exact HB.out | apply below_alloc | apply pw_below_drewN | apply below_drew1) | exact HB.out))).mono ?_); rintro e w4 ⟨b4, rfl, hi4, hb4, hk4⟩; clear HI HB; have HI := Aside0.mk (Cur.more (m' := 24) hi4 (by omega)); have HB := Aside0.mk hb4; clear hi4 hb4 hk4
    cases b4
    · go_wp2_with fail
      go_ret
      exact ⟨_, by have := HT3.out; have := HL.out; omega, rfl, by repeat (first | exact HB.out | apply below_alloc | apply pw_below_drewN | apply below_drew1)⟩
    · go_wp2_with (first | ((with_reducible refine gate_dst (N := 19) rfl ?_); refine Kd.R_lit Kd.string _ 9 ?hg (N := 19) ?hd (xs := ([(⟨#[]⟩ : ByteArray), (⟨#[112]⟩ : ByteArray), (⟨#[49, 112]⟩ : ByteArray), (⟨#[112, 49]⟩ : ByteArray), (⟨#[50, 112, 48]⟩ : ByteArray), (⟨#[49, 112, 45, 48]⟩ : ByteArray), (⟨#[48, 49, 112, 48]⟩ : ByteArray), (⟨#[49, 112, 49, 112, 49]⟩ : ByteArray), (⟨#[45, 110, 97, 110]⟩ : ByteArray), (⟨#[45, 48, 112, 49]⟩ : ByteArray), (⟨#[49, 112, 45, 49, 48, 55, 53]⟩ : ByteArray), (⟨#[57, 48, 48, 55, 49, 57, 57, 50, 53, 52, 55, 52, 48, 57, 57, 49, 112, 57, 55, 49]⟩ : ByteArray), (⟨#[57, 48, 48, 55, 49, 57, 57, 50, 53, 52, 55, 52, 48, 57, 57, 49, 112, 57, 55, 50]⟩ : ByteArray)] : List ByteArray)) (inner := [.string (⟨#[]⟩ : ByteArray), .string (⟨#[112]⟩ : ByteArray), .string (⟨#[49, 112]⟩ : ByteArray), .string (⟨#[112, 49]⟩ : ByteArray), .string (⟨#[50, 112, 48]⟩ : ByteArray), .string (⟨#[49, 112, 45, 48]⟩ : ByteArray), .string (⟨#[48, 49, 112, 48]⟩ : ByteArray), .string (⟨#[49, 112, 49, 112, 49]⟩ : ByteArray), .string (⟨#[45, 110, 97, 110]⟩ : ByteArray), .string (⟨#[45, 48, 112, 49]⟩ : ByteArray), .string (⟨#[49, 112, 45, 49, 48, 55, 53]⟩ : ByteArray), .string (⟨#[57, 48, 48, 55, 49, 57, 57, 50, 53, 52, 55, 52, 48, 57, 57, 49, 112, 57, 55, 49]⟩ : ByteArray), .string (⟨#[57, 48, 48, 55, 49, 57, 57, 50, 53, 52, 55, 52, 48, 57, 57, 49, 112, 57, 55, 50]⟩ : ByteArray)]) (ok := fun _ => True) (okp := fun _ => True) ?hr ?hp (fun _ hk => hk) trivial (Below.refl _ _) (Nat.le_refl _) (by simp) ?_; (case hd => rfl); (case hg => rfl); (case hr => first | (go_simp; done) | (go_simp; rfl)); (case hp => exact (Reps.one (M_str1 _ _ _ (⟨#[]⟩ : ByteArray)) (Reps.one (M_str1 _ _ _ (⟨#[112]⟩ : ByteArray)) (Reps.one (M_str1 _ _ _ (⟨#[49, 112]⟩ : ByteArray)) (Reps.one (M_str1 _ _ _ (⟨#[112, 49]⟩ : ByteArray)) (Reps.one (M_str1 _ _ _ (⟨#[50, 112, 48]⟩ : ByteArray)) (Reps.one (M_str1 _ _ _ (⟨#[49, 112, 45, 48]⟩ : ByteArray)) (Reps.one (M_str1 _ _ _ (⟨#[48, 49, 112, 48]⟩ : ByteArray)) (Reps.one (M_str1 _ _ _ (⟨#[49, 112, 49, 112, 49]⟩ : ByteArray)) (Reps.one (M_str1 _ _ _ (⟨#[45, 110, 97, 110]⟩ : ByteArray)) (Reps.one (M_str1 _ _ _ (⟨#[45, 48, 112, 49]⟩ : ByteArray)) (Reps.one (M_str1 _ _ _ (⟨#[49, 112, 45, 49, 48, 55, 53]⟩ : ByteArray)) (Reps.one (M_str1 _ _ _ (⟨#[57, 48, 48, 55, 49, 57, 57, 50, 53, 52, 55, 52, 48, 57, 57, 49, 112, 57, 55, 49]⟩ : ByteArray)) (Reps.one (M_str1 _ _ _ (⟨#[57, 48, 48, 55, 49, 57, 57, 50, 53, 52, 55, 52, 48, 57, 57, 49, 112, 57, 55, 50]⟩ : ByteArray)) (Reps.none _ _))))))))))))))); intro v9 wl9 ho9 hb9 hg_ hnew_; clear hg_ hnew_; (first | rw [← Ny9.out] at ho9 | (simp only [Int.reduceToNat] at ho9; rw [← Ny9.out] at ho9)); have n0_ := Aside0.mk ho9; have n1_ := Aside0.mk (Cur.below (m := 24) (by repeat (first | (with_reducible first | exact HI.out | apply Cur.alloc | apply Cur.drewN | apply Cur.drew) | exact HI.out)) hb9); have n2_ := Aside0.mk (below_step (by repeat (first | (with_reducible first | exact HB.out | apply below_alloc | apply pw_below_drewN | apply below_drew1) | exact HB.out)) hb9); clear HI HB; clear ho9 hb9; have HO9 := n0_; have HI := n1_; have HB := n2_; clear n0_ n1_ n2_; obtain ⟨Ao9, co9, eo9⟩ := Kd.R_slice HO9.out; subst eo9))
      go_at_call 36; (with_reducible refine (of_any (w0 := w) (m := 24) y9 Nl9.out HS.out (by repeat (first | (with_reducible first | exact HI.out | apply Cur.alloc | apply Cur.drewN | apply Cur.drew) | exact HI.out)) (by omega) (by repeat (first | (with_reducible first | exact HB.out | apply below_alloc | apply pw_below_drewN | apply below_drew1) | exact HB.out)) ?hr ?hc ?hf).mono ?_); (case hr => repeat (first | exact (Kd.R_reads' HO9.out).2.2 | (with_reducible refine Kd.C_alloc ?_ _) | (with_reducible refine Kd.C_drewN ?_ _) | (with_reducible refine Kd.C_drew ?_))); (case hc => exact (Kd.R_reads' HO9.out).2.1); (case hf => exact Cur.farT HI.out HO9.out); rintro e w9 ⟨r9, hr9, rfl, hi9, hb9, hk9⟩; have HV9 := Aside0.mk hr9; clear hr9; clear HI HB; have HI := Aside0.mk (Cur.more (m' := 26) hi9 (by omega)); have HB := Aside0.mk hb9; clear hi9 hb9 hk9
      have e9_ : y9 = drawT := Ny9.out
      have HV := Aside0.mk (drawT_small _ (e9_ ▸ HV9.out))
      clear e9_
      go_wp2_with fail
      go_ret
      exact ⟨_, by have := HV.out; omega, rfl, by repeat (first | exact HB.out | apply below_alloc | apply pw_below_drewN | apply below_drew1)⟩

end Go.Proofs.YthdpiceiemkjlaaDoor.Pure

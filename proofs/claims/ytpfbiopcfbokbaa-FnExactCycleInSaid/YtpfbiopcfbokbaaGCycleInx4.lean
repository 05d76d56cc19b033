-- Printed by wip/tools/print2.py out of the translation: walks and plain functions; Lean checks them.
import Derived.Test.YtpfbiopcfbokbaaGCycleInx0
import Derived.Test.YtpfbiopcfbokbaaGCycleInx3
namespace Go.Proofs.Ytpfbiopcfbokbaa.GCycleIn
open Go.RowKit Go.Proofs.YtpfbiopcfbokbaaW.PrintWords Go.Proofs.YtpfbiopcfbokbaaW.PrintLast Go.Proofs.YtpfbiopcfbokbaaW.PrintMore
attribute [local go_sem] max2_int min2_int max_two min_two max_three min_three max_four min_four   -- for this text's walks alone
set_option linter.unusedVariables false
set_option linter.unusedSimpArgs false

/-! ### laws_toIntSS: function 19 -/
def laws_toIntSS.l0 : Nat → List (List Int) → List (List Int) → Int → Option ((List (List Int)))
  | 0, _, _, _ => none
  | k + 1, x0, x3, x4 => if x4 < (x0.length : Int) then (if 0 ≤ x4 then ((laws_toIntS.f k (rd_L1 x0 x4)).bind fun t237 => (if x4 < (x3.length : Int) then (laws_toIntSS.l0 k x0 (x3.set (x4 : Int).toNat t237) (wrap64 (x4 + 1))) else (none))) else (none)) else (some x3)
def laws_toIntSS.f (k : Nat) (l0 : List (List Int)) : Option ((List (List Int))) := if 0 ≤ (l0.length : Int) then (if ((l0.length : Int) : Int).toNat ≤ 11728124029610 then (laws_toIntSS.l0 k l0 (List.replicate ((l0.length : Int) : Int).toNat []) 0) else (none)) else (none)
theorem laws_toIntSS.mono_l : ∀ k, (∀ y0 y1 y2, LeO (laws_toIntSS.l0 k y0 y1 y2) (laws_toIntSS.l0 (k + 1) y0 y1 y2))
  | 0 => fun _ _ _ r h => by simp [laws_toIntSS.l0] at h
  | k + 1 => by
    have ih0 := laws_toIntSS.mono_l k
    · intro y0 y1 y2
      unfold laws_toIntSS.l0
      repeat' first
      | (with_reducible exact ih0 _ _ _)
      | (with_reducible exact laws_toIntS.mono _ _)
      | (with_reducible exact LeO.refl _)
      | (with_reducible exact LeO.none _)
      | (with_reducible refine LeO.ite ?_ ?_)
      | (with_reducible refine LeO.bind ?_ (fun _ => ?_))
      | exact ih0 _ _ _
      | exact laws_toIntS.mono _ _
      | exact LeO.none _
      | refine LeO.ite ?_ ?_
      | refine LeO.bind ?_ (fun _ => ?_)
theorem laws_toIntSS.mono : ∀ a0 k, LeO (laws_toIntSS.f k a0) (laws_toIntSS.f (k + 1) a0) := by
  intro a0 k
  have ih0 := laws_toIntSS.mono_l k
  unfold laws_toIntSS.f
  repeat' first
      | (with_reducible exact ih0 _ _ _)
      | (with_reducible exact laws_toIntS.mono _ _)
      | (with_reducible exact LeO.refl _)
      | (with_reducible exact LeO.none _)
      | (with_reducible refine LeO.ite ?_ ?_)
      | (with_reducible refine LeO.bind ?_ (fun _ => ?_))
      | exact ih0 _ _ _
      | exact laws_toIntS.mono _ _
      | exact LeO.none _
      | refine LeO.ite ?_ ?_
      | refine LeO.bind ?_ (fun _ => ?_)
set_option maxHeartbeats 8000000 in
set_option maxRecDepth 100000 in
theorem laws_toIntSS.calls (k : Nat) (A0 : Option Addr) (c0 : Nat) (l0 : List (List Int)) (r : List (List Int)) (w : World) (hr0 : Kd.C (Kd.slice 3 (Kd.int .i64)) w A0 l0.length l0) (hc0 : l0.length ≤ c0) (h : laws_toIntSS.f k l0 = some r) :
    Calls Try.prog 19 #[.slice A0 l0.length c0] w fun e w' => ∃ v0_ : Value, e = .returned (v0_) ∧ Kd.S (Kd.slice 3 (Kd.int .i64)) 22 w' w.heap.size (fun _ => True) v0_ r ∧ Below w.heap.size w w' := by
  have HR0 := Aside0.mk hr0
  have HC0 := Aside0.mk hc0
  clear hr0 hc0
  have HB := Aside0.mk (Below.refl w.heap.size w)
  have H : (if 0 ≤ (l0.length : Int) then (if ((l0.length : Int) : Int).toNat ≤ 11728124029610 then (laws_toIntSS.l0 k l0 (List.replicate ((l0.length : Int) : Int).toNat []) 0) else (none)) else (none)) = some r := h
  clear h
  by_cases c2 : 0 ≤ (l0.length : Int)
  · rw [if_pos c2] at H
    have c2b0 := eq_true c2
    have c2b1 : decide (0 ≤ (l0.length : Int)) = true := decide_eq_true c2
    clear c2
    by_cases c3 : ((l0.length : Int) : Int).toNat ≤ 11728124029610
    · rw [if_pos c3] at H
      have c3b0 := eq_true c3
      have c3b1 : decide (((l0.length : Int) : Int).toNat ≤ 11728124029610) = true := decide_eq_true c3
      clear c3
      obtain ⟨y233, hy233⟩ : ∃ y_ : List (List Int), y_ = (List.replicate ((l0.length : Int) : Int).toNat []) := ⟨_, rfl⟩
      replace H : (laws_toIntSS.l0 k l0 y233 0) = some r := by first | (rw [hy233]; with_reducible exact H) | (have H2_ := (Option.bind_some _ _).symm.trans H; rw [hy233]; with_reducible exact H2_) | (have H2_ := (Option.bind_some _ _).symm.trans H; with_reducible exact H2_) | with_reducible exact H | (rw [hy233]; exact H) | exact H
      have Ny233 := Aside0.mk hy233
      clear hy233
      have H' := Aside0.mk H
      clear H
      go_enter Try.func19, Try.ntmps19
      go_wp2_with (first | ((with_reducible refine gate_dst (N := 7) rfl ?_); refine Kd.S_make (Kd.slice 3 (Kd.int .i64)) _ 22 rfl (N := 7) rfl 33 _ _ rfl (l0.length : Int) rfl rfl Try.underlying33 (.slice none 0 0) 24 info22 rfl (by decide) (by omega) [] (ok := fun _ => True) (okp := fun _ => True) ⟨_, rfl, Kd.R_nil _ _ _ _ _⟩ (fun _ hk => hk) trivial (of_decide_eq_true (by first | (with_reducible assumption) | assumption)) (Nat.le_trans (Nat.mul_le_mul_right _ (of_decide_eq_true (by first | (with_reducible assumption) | assumption) : (l0.length : Int).toNat ≤ 11728124029610)) (by omega)) (Below.refl _ _) (Nat.le_refl _) ?_; intro v234 w4 ho5 hb hg_ hnew_; clear hg_ hnew_; (first | rw [← Ny233.out] at ho5 | (simp only [Int.reduceToNat] at ho5; rw [← Ny233.out] at ho5)); have n0_ := Aside0.mk (Kd.S_lower ho5 (below_size (by repeat (first | (with_reducible first | exact HB.out | apply below_alloc | apply pw_below_drewN | apply below_drew1) | exact HB.out)))); have n1_ := Aside0.mk (below_step (by repeat (first | (with_reducible first | exact HB.out | apply below_alloc | apply pw_below_drewN | apply below_drew1) | exact HB.out)) hb); clear HB; have HO235 := n0_; have HB := n1_; clear n0_ n1_; clear hb ho5))
      go_loopg [4] k (fun kq v4 w' => ∃ (x3_1 : List (List Int)) (x4_1 : Int), v4 = .int .i64 x4_1 ∧ Aside0 (laws_toIntSS.l0 kq l0 x3_1 x4_1 = some r) ∧ Aside0 (kq ≤ k) ∧ Aside0 (Kd.S (Kd.slice 3 (Kd.int .i64)) 22 w' w.heap.size (fun _ => True) v234 x3_1) ∧ Aside0 (Below w.heap.size w w'))
      case atStart => exact ⟨(y233), (0), (by first | rfl | (simp; done) | (simp [*]; done)), H', ⟨Nat.le_refl _⟩, ⟨by (with_reducible repeat (first | apply Kd.S_alloc | apply Kd.S_drewN | apply Kd.S_drew)); exact HO235.out⟩, ⟨by repeat (first | (with_reducible first | exact HB.out | apply below_alloc | apply pw_below_drewN | apply below_drew1) | exact HB.out)⟩⟩
      case round =>
        clear H'
        try clear c1
        try clear c2
        try clear c2b0
        try clear c2b1
        try clear p2
        try clear c3
        try clear c3b0
        try clear c3b1
        obtain ⟨x3_1, x4_1, rfl, HA, HK1, HO_3, HB⟩ := hrel
        cases gk with
        | zero => exact absurd HA.out (by simp [laws_toIntSS.l0])
        | succ k1 =>
          have H := HA.out
          clear HA
          simp only [laws_toIntSS.l0] at H
          by_cases c6 : x4_1 < (l0.length : Int)
          · rw [if_pos c6] at H
            have c6b0 : decide (x4_1 < (l0.length : Int)) = true := decide_eq_true c6
            clear c6
            by_cases c7 : 0 ≤ x4_1
            · rw [if_pos c7] at H
              have c7b0 : decide (0 ≤ x4_1) = true := decide_eq_true c7
              clear c7
              replace H := Option.bind_eq_some_iff.mp H
              obtain ⟨t237, A80, H⟩ := H
              replace H : (if x4_1 < (x3_1.length : Int) then (laws_toIntSS.l0 k1 l0 (x3_1.set (x4_1 : Int).toNat t237) (wrap64 (x4_1 + 1))) else (none)) = some r := H
              have A8 := Aside0.mk A80
              clear A80
              by_cases c9 : x4_1 < (x3_1.length : Int)
              · rw [if_pos c9] at H
                have c9b0 : decide (x4_1 < (x3_1.length : Int)) = true := decide_eq_true c9
                clear c9
                obtain ⟨y240, hy240⟩ : ∃ y_ : List (List Int), y_ = (x3_1.set (x4_1 : Int).toNat t237) := ⟨_, rfl⟩
                replace H : (laws_toIntSS.l0 k1 l0 y240 (wrap64 (x4_1 + 1))) = some r := by first | (rw [hy240]; with_reducible exact H) | (have H2_ := (Option.bind_some _ _).symm.trans H; rw [hy240]; with_reducible exact H2_) | (have H2_ := (Option.bind_some _ _).symm.trans H; with_reducible exact H2_) | with_reducible exact H | (rw [hy240]; exact H) | exact H
                have Ny240 := Aside0.mk hy240
                clear hy240
                have H' := Aside0.mk H
                clear H
                have p236 : 0 ≤ (x4_1 : Int) := of_decide_eq_true (by first | (with_reducible assumption) | assumption)
                have q236 : x4_1 < (l0.length : Int) := of_decide_eq_true (by first | (with_reducible assumption) | assumption)
                obtain ⟨ad236, A236_0, c236_0, e236, hx236_0, hl236_0, hi236_0⟩ := at_L1 HR0.out x4_1 p236 q236
                cases e236
                try replace hx236_0 := (HB.out.cell (World.block_lt_of_cell? w _ hx236_0)).trans hx236_0
                have HR236_0 := Aside0.mk hi236_0
                have HC236_0 := Aside0.mk hl236_0
                clear hi236_0 hl236_0
                replace p236 := eq_true p236
                replace q236 := eq_true q236
                go_wp2_with (first | ((with_reducible refine gate_callee (f := 58) rfl ?_); refine goesL_ (some 20) rfl rfl Try.func58 (by kernel_rfl) rfl #[.slice A236_0 (rd_L1 l0 x4_1).length c236_0] rfl (by (try simp only [List.map_toArray, List.map_cons, List.map_nil]); first | done | rfl | (simp only [List.length_drop, List.length_take]; rfl)) ?_; (with_reducible refine (laws_toIntS.calls k1 _ _ (rd_L1 l0 x4_1) t237 _ ?side1 ?side2 A8.out).mono ?_); (case side1 => repeat (first | exact (Kd.C_below HR236_0.out HB.out) | (with_reducible refine Kd.C_alloc ?_ _) | (with_reducible refine Kd.C_drewN ?_ _) | (with_reducible refine Kd.C_drew ?_))); (case side2 => exact HC236_0.out); rintro e w11 ⟨v238, rfl, ho0, hb⟩; refine ⟨_, rfl, ?_⟩; have n0_ := Aside0.mk (Kd.S_elder' (by (with_reducible repeat (first | apply Kd.S_alloc | apply Kd.S_drewN | apply Kd.S_drew)); exact HO_3.out) (by first | exact Kd.R_base ho0 | exact Kd.S_base ho0 | exact Kd.R_base ho0) hb); have n1_ := Aside0.mk (Kd.R_lower ho0 (below_size (by repeat (first | (with_reducible first | exact HB.out | apply below_alloc | apply pw_below_drewN | apply below_drew1) | exact HB.out)))); have n2_ := Aside0.mk (below_step (by repeat (first | (with_reducible first | exact HB.out | apply below_alloc | apply pw_below_drewN | apply below_drew1) | exact HB.out)) hb); clear HO_3; clear HB; have HO_3 := n0_; have HO239 := n1_; have HB := n2_; clear n0_ n1_ n2_; (try clear hb); (try clear hb2); (try clear hk); (try clear hi); (try clear ho0); have p10 : 0 ≤ (x4_1 : Int) := of_decide_eq_true (by first | (with_reducible assumption) | assumption); have q10 : (x4_1 : Int) < ((x3_1.length : Int) : Int) := of_decide_eq_true (by first | (with_reducible assumption) | assumption); obtain ⟨go10, co10, eo10, gb10, gl10, cl10, HG10⟩ := Kd.S_form HO_3.out (by omega); (first | cases eo10 | (injection eo10 with ea_ en_ ec_; (first | subst ea_ | (injection ea_ with ea_; subst ea_)); subst ec_; clear en_)); have GB10 := Aside0.mk gb10; have GG10 := Aside0.mk HG10; clear gb10 gl10 HG10; obtain ⟨_, ce10, hcl10, hM10, hcc10, hfr10, _, _⟩ := Kd.S_elem HO_3.out [] (x4_1 : Int) p10 q10; obtain ⟨ve10_0, rfl, ge10_0⟩ := hM10; have hx10_0 := hcc10 0 _ rfl; have hf10_0 := hfr10 0; (try simp only [show ((Kd.slice 3 (Kd.int .i64))).sz = 1 from rfl, Nat.mul_one, Nat.add_zero] at hx10_0); (try simp only [show ((Kd.slice 3 (Kd.int .i64))).sz = 1 from rfl, Nat.mul_one, Nat.add_zero] at hf10_0); clear hcl10 hcc10 hfr10; (try clear hM10); replace p10 := eq_true p10; replace q10 := eq_true q10; have n_ := Aside0.mk (Kd.S_mono (ok' := (fun k_ => some k_ ≠ (v238 : Value).ownBlock)) HO_3.out (fun k_ hk => hk.2)); clear HO_3; have HO_3 := n_; clear n_; have HX12 := Aside0.mk (show Kd.S (Kd.slice 3 (Kd.int .i64)) 22 w11 w.heap.size (fun k_ => ((fun _ => True)) k_ ∧ ¬ ((fun k_ => some k_ = (v238 : Value).ownBlock)) k_) (.slice (some ⟨go10, 0, none⟩) x3_1.length co10) x3_1 from (by (with_reducible repeat (first | apply Kd.S_alloc | apply Kd.S_drewN | apply Kd.S_drew)); exact Kd.S_mono HO_3.out (fun k_ hk => ⟨trivial, fun e_ => hk e_⟩))); obtain ⟨oki12, ce12, hcl12, hM12, hcc12, hfr12, hoki12, hH12⟩ := Kd.S_elem HX12.out [] (x4_1 : Int) (of_decide_eq_true (by first | (with_reducible assumption) | assumption)) (by have h_ : (x4_1 : Int) < ((x3_1.length : Int) : Int) := of_decide_eq_true (by first | (with_reducible assumption) | assumption); first | exact h_ | (have e_ := (Kd.S_reads' HO_3.out).1; omega) | simpa using h_); obtain ⟨ve12_0, rfl, ge12_0⟩ := hM12; have HP12 := Kd.S_seg hH12 (of_decide_eq_true (by first | (with_reducible assumption) | assumption)) (by have h_ : (x4_1 : Int) < ((x3_1.length : Int) : Int) := of_decide_eq_true (by first | (with_reducible assumption) | assumption); first | exact h_ | (have e_ := (Kd.S_reads' HO_3.out).1; omega) | simpa using h_) (seg := [v238]) (j := 0) (show 1 ≤ 1 from by decide) (x' := t237) (Kd.M_row (Kd.R_mono (Kd.R_tight rfl (Kd.R_mono (ok' := fun k_ => ((fun _ => True)) k_ ∧ k_ ≠ go10) (Kd.R_apart' (HO239.out) (Kd.S_typed HO_3.out) (by decide)) (fun k_ hk => ⟨trivial, fun e_ => (hk.2) (by rw [e_]; rfl)⟩))) (fun _ h_ => Or.inr (h_)))) (fun _ hk => hk) (fun k_ hk_ => ((Kd.R_mono (ok' := fun k_ => ((fun _ => True)) k_ ∧ k_ ≠ go10) (Kd.R_apart' (HO239.out) (Kd.S_typed HO_3.out) (by decide)) (fun k_ hk => ⟨trivial, fun e_ => (hk.2) (by rw [e_]; rfl)⟩))).1 k_ hk_.symm); have hx12_0 := hcc12 0 _ rfl; (try simp only [show ((Kd.slice 3 (Kd.int .i64))).sz = 1 from rfl, Nat.mul_one, Nat.add_zero] at hx12_0); have hf12_0 := hfr12 0; (try simp only [show ((Kd.slice 3 (Kd.int .i64))).sz = 1 from rfl, Nat.mul_one, Nat.add_zero] at hf12_0); clear hcl12 hcc12 hfr12 hoki12 hH12; (try clear hM12); (try simp only [show ((Kd.slice 3 (Kd.int .i64))).sz = 1 from rfl, Nat.mul_one, Nat.add_zero] at HP12)) | ((with_reducible refine gate_store (t := 22) (p := 21) rfl ?_); refine store_event (t := 22) (p := 21) (v := ?vo_w13) (w1 := (w11.setCell ⟨go10, (x4_1 : Int).toNat, none⟩ (v238))) ?hg ?ho ?hn ?hr ?_; (case ho => rfl); (case hg => rfl); (case hn => rfl); (case hr => first | (go_simp; done) | (go_simp; rfl) | (obtain ⟨Ax_, cx_, ex_⟩ := Kd.R_slice HO239.out; rw [ex_]; first | (go_simp; done) | (go_simp; rfl))); intro w13 hw; have hg : w11.grownBy w13 (some go10) := (by rw [hw]; exact HP12.2); have hp_ : Kd.S (Kd.slice 3 (Kd.int .i64)) 22 w13 w.heap.size (fun _ => True) (.slice (some ⟨go10, 0, none⟩) x3_1.length co10) y240 := (by rw [hw, Ny240.out]; exact HP12.1); clear HP12; have n0_ := Aside0.mk (hp_); have n1_ := Aside0.mk ((by rw [hw]; exact below_set (HB.out) GB10.out : Below w.heap.size w w13)); clear HO_3; clear HB; clear HO239; have HO_3 := n0_; have HB := n1_; clear n0_ n1_; clear hg hw hp_))
                go_roundg k1
                case measure => have := HK1.out; omega
                case rel => exact ⟨(y240), (wrap64 (x4_1 + 1)), (by first | rfl | (simp; done) | (simp [*]; done)), H', ⟨by have := HK1.out; omega⟩, ⟨by (with_reducible repeat (first | apply Kd.S_alloc | apply Kd.S_drewN | apply Kd.S_drew)); exact HO_3.out⟩, ⟨by repeat (first | (with_reducible first | exact HB.out | apply below_alloc | apply pw_below_drewN | apply below_drew1) | exact HB.out)⟩⟩
              · rw [if_neg c9] at H
                exact absurd H (by simp)
            · rw [if_neg c7] at H
              exact absurd H (by simp)
          · rw [if_neg c6] at H
            have c6b0 : decide (x4_1 < (l0.length : Int)) = false := decide_eq_false c6
            clear c6
            obtain rfl := Option.some.inj H
            go_wp2
            go_ret
            exact ⟨_, by first | rfl | (simp [errW_none, errW_some] <;> rfl) | (simp [*, errW_none, errW_some] <;> rfl), by (with_reducible repeat (first | apply Kd.S_alloc | apply Kd.S_drewN | apply Kd.S_drew)); exact HO_3.out, by repeat (first | (with_reducible first | exact HB.out | apply below_alloc | apply pw_below_drewN | apply below_drew1) | exact HB.out)⟩
    · rw [if_neg c3] at H
      exact absurd H (by simp)
  · rw [if_neg c2] at H
    exact absurd H (by simp)

-- NOT PRINTED: function 112 (slices_IndexFunc_int_int)

-- NOT PRINTED: function 67 (slices_ContainsFunc_int_int)

-- NOT PRINTED: function 113 (impl_backSteps)

/-! ### impl_cycle: function 69, with impl.backSteps (by hand: an array of 100 numbers, a map) -/
namespace CyH
def cySrc (e : List Int) : Int := e.getD 0 0
def cyDst (e : List Int) : Int := e.getD 1 0
def cyO (out : List Int) (v : Int) : Int := out.getD v.toNat 0
def cyFo (goal : Int) (out : List Int) (v : Int) : Int := if v = goal then 0 else cyO out v
def bsIn (goal q : Int) : List (List Int) → List Int → List Int → List Int × List Int
  | [], out, qs => (out, qs)
  | e :: r, out, qs =>
    if cyDst e ≠ q then bsIn goal q r out qs else if 0 < cyO out (cySrc e) then bsIn goal q r out qs else
    bsIn goal q r (out.set (cySrc e).toNat (wrap64 (cyFo goal out q + 1))) (if cySrc e = goal then qs else qs ++ [cySrc e])
def bsGo (E : List (List Int)) (goal : Int) : Nat → Nat → List Int → List Int → Option (List Int)
  | 0, _, _, _ => none
  | k + 1, i, out, qs => if i < qs.length then (if qs.length ≤ 1000 then bsGo E goal k (i + 1) (bsIn goal (qs.getD i 0) E out qs).1 (bsIn goal (qs.getD i 0) E out qs).2 else none) else some out
def nextF (far : List Int) (n a left : Int) : List (List Int) → Int → Int
  | [], m => m
  | e :: r, m => nextF far n a left r (if cySrc e = a ∧ cyDst e ≠ n ∧ cyO far (cyDst e) = left then min m (cyDst e) else m)
def goF (E : List (List Int)) (far : List Int) (n : Int) : Nat → Int → List Int
  | 0, _ => []
  | l + 1, a => nextF far n a ((l : Int) + 1) E 100 :: goF E far n l (nextF far n a ((l : Int) + 1) E 100)
/-- The edges are pairs of numbers from 0 to 99, a hundred at the most. -/
def cyGood (E : List (List Int)) : Prop := E.length ≤ 100 ∧ ∀ e ∈ E, e.length = 2 ∧ 0 ≤ cySrc e ∧ cySrc e ≤ 99 ∧ 0 ≤ cyDst e ∧ cyDst e ≤ 99
instance (E : List (List Int)) : Decidable (cyGood E) := by unfold cyGood; infer_instance

theorem info150 : (Try.prog.info? 150).map (fun i => (i.zero, i.size)) = some (some (.agg (Array.replicate 100 (.int .i64 0))), 100) := by kernel_rfl
theorem nums_at (k : IntKind) (l : List Int) (i : Nat) (h : i < (nums k l).length) : (nums k l)[i]'h = .int k (l.getD i 0) := by
  have h2 : i < l.length := by simpa [nums] using h
  simp [nums, h2]
attribute [local go_sem] nums_at
theorem nums_one (k : IntKind) (l : List Int) : (nums k l).toArray.all (·.oneCell') = true := by
  simp [nums, Value.oneCell']
theorem row_store (w1 : World) (fr : List Int) (h : (nums IntKind.i64 fr).length = 100) : (storeCells (Addr.mk w1.heap.size 0 none) (nums IntKind.i64 fr) 0).run Try.prog (w1.alloc (.cells Try.zeroCells150 150)) = .ok () (w1.alloc (.cells (nums IntKind.i64 fr).toArray 150)) := by
  have := run_storeCells_new (P := Try.prog) w1 150 Try.zeroCells150 (nums IntKind.i64 fr).toArray (by rw [(zero_of_info info150).2]; simp [h]) (by rw [show Try.zeroCells150.size = 100 from by kernel_rfl]; simp [h]) (nums_one _ _)
  simpa using this
theorem lt_alloc (w : World) (o : Obj) : w.heap.size < (w.alloc o).heap.size := by
  show _ < (w.heap.push o).size
  simp
theorem far_at {w : World} {g : Nat} {fr : List Int} (h : w.heap[g]? = some (.cells (nums IntKind.i64 fr).toArray 150 (0, 0))) (hl : fr.length = 100) (x : Int) (h0 : 0 ≤ x) (h1 : x ≤ 99) : w.cell? (Addr.mk g x.toNat none) = some (.int .i64 (cyO fr x)) := by
  rw [cell_of_row _ _ x.toNat _ 150 (0, 0) h]
  have : x.toNat < fr.length := by omega
  simp [nums, cyO, this]
theorem pair_at {w : World} {A : Option Addr} {E : List (List Int)} (h : Kd.C (Kd.slice 3 (Kd.int .i64)) w A E.length E) (hE : cyGood E) (i : Int) (h0 : 0 ≤ i) (h1 : i < (E.length : Int)) : ∃ ad a1 c1, A = some ad ∧ w.cell? (ad.add i.toNat) = some (.slice (some a1) 2 c1) ∧ w.cell? a1 = some (.int .i64 (cySrc (rd_L1 E i))) ∧ w.cell? (Addr.mk a1.block (a1.off + 1) none) = some (.int .i64 (cyDst (rd_L1 E i))) ∧ 0 ≤ cySrc (rd_L1 E i) ∧ cySrc (rd_L1 E i) ≤ 99 ∧ 0 ≤ cyDst (rd_L1 E i) ∧ cyDst (rd_L1 E i) ≤ 99 ∧ E.drop i.toNat = rd_L1 E i :: E.drop (i + 1).toNat := by
  obtain ⟨ad, A1, c1, e, hx, hl, hc⟩ := at_L1 h i h0 h1
  have hi : i.toNat < E.length := by omega
  have hv : rd_L1 E i = E[i.toNat] := by simp [rd_L1, hi]
  have hm : rd_L1 E i ∈ E := by rw [hv]; exact List.getElem_mem _
  obtain ⟨h2, b1, b2, b3, b4⟩ := hE.2 _ hm
  obtain ⟨a0, e0, x0⟩ := Kd.at_int hc 0 (by omega) (by omega)
  obtain ⟨a1, e1, x1⟩ := Kd.at_int hc 1 (by omega) (by omega)
  subst e0
  obtain rfl : a0 = a1 := by injection e1
  rw [h2] at hx
  refine ⟨ad, a0, c1, e, hx, ?_, ?_, b1, b2, b3, b4, ?_⟩
  · rw [show ((0 : Int)).toNat = 0 from rfl, Addr.add_zero'] at x0
    exact x0
  · have h := x1
    simp [Addr.add] at h
    exact h
  · rw [hv, show (i + 1).toNat = i.toNat + 1 by omega]
    exact List.drop_eq_getElem_cons hi
theorem zeros_eq : Try.zeroCells150 = (nums IntKind.i64 (List.replicate 100 0)).toArray := by kernel_rfl
theorem row_store0 (w1 : World) : (storeCells (Addr.mk w1.heap.size 0 none) Try.zeroCells150.toList 0).run Try.prog (w1.alloc (.cells Try.zeroCells150 150)) = .ok () (w1.alloc (.cells Try.zeroCells150 150)) := by
  have := row_store w1 (List.replicate 100 0) (by simp [nums])
  rw [zeros_eq] at *
  simpa using this
/-! ### the map of the distances: far[q] of every q in the queue -/
abbrev FarE (vals : Int → Int) (qs : List Int) (es : Array MapEntry) : Prop := ∀ q ∈ qs, ∃ e ∈ es.toList, e.key = .int .i64 q ∧ e.val = .int .i64 (vals q)
def FarM (w : World) (b : Nat) (vals : Int → Int) (qs : List Int) : Prop :=
  ∃ es clock, w.heap[b]? = some (.map es clock) ∧ MapKept.Stamped es clock ∧ (∀ x ∈ es.toList, MapKept.IsKey (.int .i64) x.key) ∧ FarE vals qs es
def MidM (w : World) (b : Nat) (vals : Int → Int) (qs : List Int) (s : Int) (st : Nat) : Prop :=
  ∃ es clock, w.heap[b]? = some (.map es clock) ∧ MapKept.Stamped es clock ∧ (∀ x ∈ es.toList, MapKept.IsKey (.int .i64) x.key) ∧ (∃ e ∈ es.toList, e.key = .int .i64 s ∧ e.born = st) ∧ ∀ q ∈ qs, q ≠ s → ∃ e ∈ es.toList, e.key = .int .i64 q ∧ e.val = .int .i64 (vals q)
theorem key_one {l : List MapEntry} (h : (l.map (·.key)).Nodup) {x y : MapEntry} (hx : x ∈ l) (hy : y ∈ l) (he : x.key = y.key) : x = y := by
  induction l with
  | nil => cases hx
  | cons z r ih =>
    simp only [List.map_cons, List.nodup_cons] at h
    cases hx with
    | head =>
      cases hy with
      | head => rfl
      | tail _ hy => exact absurd (List.mem_map.2 ⟨y, hy, he.symm⟩) h.1
    | tail _ hx =>
      cases hy with
      | head => exact absurd (List.mem_map.2 ⟨x, hx, he⟩) h.1
      | tail _ hy => exact ih h.2 hx hy
theorem born_one {l : List MapEntry} (h : (l.map (·.born)).Nodup) {x y : MapEntry} (hx : x ∈ l) (hy : y ∈ l) (he : x.born = y.born) : x = y := by
  induction l with
  | nil => cases hx
  | cons z r ih =>
    simp only [List.map_cons, List.nodup_cons] at h
    cases hx with
    | head =>
      cases hy with
      | head => rfl
      | tail _ hy => exact absurd (List.mem_map.2 ⟨y, hy, he.symm⟩) h.1
    | tail _ hx =>
      cases hy with
      | head => exact absurd (List.mem_map.2 ⟨x, hx, he⟩) h.1
      | tail _ hy => exact ih h.2 hx hy
theorem set_grown {w : World} {b : Nat} {o : Obj} (o' : Obj) (hb : w.heap[b]? = some o) : w.grownBy { w with heap := w.heap.setIfInBounds b o' } (some b) :=
  ⟨rfl, rfl, rfl, by simp, fun i _ hi => by
    have : i ≠ b := fun e => hi (by rw [e])
    exact (MapKept.heap_set (o' := o') hb).2 i this⟩
theorem FarM.init (w : World) (goal : Int) :
    (Instr.mapUpdate 181 (.map (some w.heap.size)) (.int .i64 goal) (.int .i64 0)).run Try.prog (w.alloc (.map #[] 0)) = .ok () (w.alloc (.map #[{ key := .int .i64 goal, val := .int .i64 0, born := 0 }] 1)) ∧ ∀ (vals : Int → Int), vals goal = 0 → FarM (w.alloc (.map #[{ key := .int .i64 goal, val := .int .i64 0, born := 0 }] 1)) w.heap.size vals [goal] := by
  constructor
  · have hb := heap_alloc_last w (.map #[] 0)
    have h1 : Instr.findNow (.int .i64) (.int .i64 goal) (#[] : Array MapEntry).toList 0 = some none := rfl
    simp [Instr.mapUpdate, run_underlying Try.underlying181, MapKept.run_getObj_map hb, MapKept.run_checkKey Try.underlying3 (show MapKept.IsKey (.int .i64) (.int .i64 goal) from rfl), MapKept.run_findKey Try.underlying3 h1, MapKept.run_setObj_map _ hb, Result.andThen]
    simp only [World.alloc]
    congr 1
    apply Array.ext_getElem?
    intro i
    rw [Array.getElem?_setIfInBounds]
    by_cases h : w.heap.size = i
    · subst h
      simp
    · have h' : ¬ i = w.heap.size := fun e => h e.symm
      simp [h, h', Array.getElem?_push]
  · intro vals hv
    refine ⟨_, _, heap_alloc_last w _, ⟨by simp, by simp, by simp⟩, by simp [MapKept.IsKey], ?_⟩
    intro q hq
    simp only [List.mem_singleton] at hq
    subst hq
    exact ⟨{ key := .int .i64 q, val := .int .i64 0, born := 0 }, by simp, rfl, by rw [hv]⟩
theorem FarM.look {w : World} {b : Nat} {vals : Int → Int} {qs : List Int} (h : FarM w b vals qs) {q : Int} (hq : q ∈ qs) :
    (Instr.lookup 181 (.map (some b)) (.int .i64 q) false).run Try.prog w = .ok (.int .i64 (vals q)) w := by
  obtain ⟨es, clock, hb, hs, hk, hv⟩ := h
  obtain ⟨e, he, e1, e2⟩ := hv q hq
  rcases MapKept.findNow_spec (d := .int .i64) (k := .int .i64 q) rfl es.toList 0 hk with ⟨_, h2⟩ | ⟨j, e', h1, h2, h3⟩
  · exact absurd e1 (h2 e he)
  · have : e' = e := key_one hs.2.2 (List.mem_of_getElem? h2) he (by rw [h3, e1])
    subst this
    rw [e2] at h1
    simp [Instr.lookup, run_underlying Try.underlying181, MapKept.run_getObj_map hb, MapKept.run_checkKey Try.underlying3 (show MapKept.IsKey (.int .i64) (.int .i64 q) from rfl), MapKept.run_findKey Try.underlying3 h1, Result.andThen]
theorem FarM.kept {w w' : World} {b : Nat} {vals : Int → Int} {qs : List Int} (h : FarM w b vals qs) {row : Option Nat} (hg : w.grownBy w' row) (hne : some b ≠ row) : FarM w' b vals qs := by
  obtain ⟨es, clock, hb, r⟩ := h
  exact ⟨es, clock, (hg.block b (lt_of_block hb) hne).trans hb, r⟩
theorem FarM.lt {w : World} {b : Nat} {vals : Int → Int} {qs : List Int} (h : FarM w b vals qs) : b < w.heap.size := by
  obtain ⟨es, clock, hb, r⟩ := h
  exact lt_of_block hb
theorem FarM.vals {w : World} {b : Nat} {v v' : Int → Int} {qs : List Int} (h : FarM w b v qs) (hv : ∀ q ∈ qs, v q = v' q) : FarM w b v' qs := by
  obtain ⟨es, clock, hb, r1, r2, r3⟩ := h
  refine ⟨es, clock, hb, r1, r2, fun q hq => ?_⟩
  obtain ⟨e, h1, h2, h3⟩ := r3 q hq
  exact ⟨e, h1, h2, by rw [h3, hv q hq]⟩
theorem FarM.enter {w : World} {b : Nat} {vals : Int → Int} {qs : List Int} (h : FarM w b vals qs) (s : Int) :
    ∃ w1 v, ∃ st : Nat, (Instr.mapEntry 181 (.map (some b)) (.int .i64 s)).run Try.prog w = .ok (.tuple #[v, goInt (st : Int)]) w1 ∧ w.grownBy w1 (some b) ∧ MidM w1 b vals qs s st := by
  obtain ⟨es, clock, hb, hs, hk, hv⟩ := h
  have hks : MapKept.IsKey (.int .i64) (.int .i64 s) := rfl
  rcases MapKept.findNow_spec (d := .int .i64) (k := .int .i64 s) rfl es.toList 0 hk with ⟨h1, h2⟩ | ⟨j, e', h1, h2, h3⟩
  · refine ⟨_, .int .i64 0, clock, ?_, set_grown (.map (es.push { key := .int .i64 s, val := .int .i64 0, born := clock }) (clock + 1)) hb, ?_⟩
    · simp [Instr.mapEntry, run_underlying Try.underlying181, MapKept.run_getObj_map hb, MapKept.run_checkKey Try.underlying3 hks, MapKept.run_findKey Try.underlying3 h1, Try.zeroValue3, MapKept.run_setObj_map _ hb, Result.andThen]
    · refine ⟨_, _, (MapKept.heap_set hb).1, MapKept.stamped_push hs h2, ?_, ⟨{ key := .int .i64 s, val := .int .i64 0, born := clock }, by simp, rfl, rfl⟩, ?_⟩
      · intro x hx
        simp only [Array.toList_push, List.mem_append, List.mem_singleton] at hx
        rcases hx with hx | rfl
        · exact hk x hx
        · exact hks
      · intro q hq _
        obtain ⟨e, he, e1, e2⟩ := hv q hq
        exact ⟨e, by simp; exact .inl (by simpa using he), e1, e2⟩
  · have hj : es[j]? = some e' := by simpa using h2
    have hkey : ∀ e'', es[j]? = some e'' → ({ e'' with key := .int .i64 s } : MapEntry).key = e''.key := fun e'' he' => by rw [hj] at he'; cases he'; exact h3.symm
    have hsame : es.modify j (fun e => { e with key := .int .i64 s }) = es := by
      apply Array.ext_getElem?
      intro i
      rw [Array.getElem?_modify]
      by_cases h : j = i
      · subst h
        rw [if_pos rfl, hj]
        simp [← h3]
      · rw [if_neg h]
    refine ⟨_, e'.val, e'.born, ?_, set_grown (.map es clock) hb, ?_⟩
    · simp [Instr.mapEntry, run_underlying Try.underlying181, MapKept.run_getObj_map hb, MapKept.run_checkKey Try.underlying3 hks, MapKept.run_findKey Try.underlying3 h1, hj, h3, MapKept.run_keyThatStays hks, MapKept.run_setObj_map _ hb, hsame, Result.andThen]
    · refine ⟨es, clock, (MapKept.heap_set hb).1, hs, hk, ⟨e', List.mem_of_getElem? h2, h3, rfl⟩, fun q hq _ => hv q hq⟩
theorem MidM.store {w : World} {b : Nat} {vals vals' : Int → Int} {qs : List Int} {s : Int} {st : Nat} (h : MidM w b vals qs s st) (x : Int) (hx : vals' s = x) (hv' : ∀ q ∈ qs, q ≠ s → vals' q = vals q) :
    ∃ w1, (Instr.entryStore 181 (.map (some b)) (goInt (st : Int)) (.int .i64 x)).run Try.prog w = .ok () w1 ∧ w.grownBy w1 (some b) ∧ FarM w1 b vals' (qs ++ [s]) := by
  obtain ⟨es, clock, hb, hs, hk, ⟨e, he, e1, e2⟩, hv⟩ := h
  obtain ⟨i, hi, hie⟩ := List.getElem_of_mem he
  have hfi : ∃ i, es.findIdx? (fun e => (e.born : Int) == (st : Int)) = some i ∧ es[i]? = some e := by
    cases hq : es.findIdx? (fun e => (e.born : Int) == (st : Int)) with
    | none =>
      rw [Array.findIdx?_eq_none_iff] at hq
      have := hq e (by simpa using he)
      simp [e2] at this
    | some j =>
      rw [Array.findIdx?_eq_some_iff_getElem] at hq
      obtain ⟨hj, hp, _⟩ := hq
      refine ⟨j, rfl, ?_⟩
      have : es[j] = e := born_one hs.2.1 (by simp) he (by simp at hp; omega)
      rw [Array.getElem?_eq_getElem hj, this]
  obtain ⟨i, hf, hgi⟩ := hfi
  refine ⟨_, ?_, set_grown (.map (es.modify i fun e => { e with val := .int .i64 x }) clock) hb, ?_⟩
  · simp [Instr.entryStore, MapKept.run_getObj_map hb, goInt, asInt, asIntOf, hf, MapKept.run_setObj_map _ hb, Result.andThen]
  · refine ⟨_, _, (MapKept.heap_set hb).1, MapKept.stamped_modify hs _ _ (fun _ _ => rfl) (fun _ _ _ => rfl), MapKept.isKey_modify hk _ _ (fun _ _ => rfl), ?_⟩
    intro q hq
    have hmem : ∀ (j : Nat) (y : MapEntry), (es.modify i fun e => { e with val := .int .i64 x })[j]? = some y → y ∈ (es.modify i fun e => { e with val := .int .i64 x }).toList := by
      intro j y hy
      exact Array.mem_toList_iff.2 (Array.mem_of_getElem? hy)
    by_cases hqs : q = s
    · subst hqs
      refine ⟨{ e with val := .int .i64 x }, hmem i _ (by rw [Array.getElem?_modify, if_pos rfl, hgi]; rfl), e1, by rw [hx]⟩
    · have hq' : q ∈ qs := by
        rcases List.mem_append.1 hq with h | h
        · exact h
        · exact absurd (List.mem_singleton.1 h) hqs
      obtain ⟨y, hy, y1, y2⟩ := hv q hq' hqs
      obtain ⟨j, hj, hjy⟩ := List.getElem_of_mem hy
      have hj' : es[j]? = some y := by
        have := List.getElem?_eq_getElem hj
        rw [hjy] at this
        simpa using this
      have hne : i ≠ j := by
        intro hij
        subst hij
        rw [hgi] at hj'
        cases hj'
        rw [e1] at y1
        injection y1 with _ h2
        exact hqs h2.symm
      exact ⟨y, hmem j _ (by rw [Array.getElem?_modify, if_neg hne]; exact hj'), y1, by rw [y2, hv' q hq' hqs]⟩

theorem size_alloc (w : World) (o : Obj) : (w.alloc o).heap.size = w.heap.size + 1 := by
  show (w.heap.push o).size = _
  simp
theorem heap_alloc_lt (w : World) (o : Obj) (i : Nat) (h : i < w.heap.size) : (w.alloc o).heap[i]? = w.heap[i]? := by
  show (w.heap.push o)[i]? = _
  simp [Array.getElem?_push, Nat.ne_of_lt h]
theorem row_storeAt {w : World} {g : Nat} {l : List Int} (hg : w.heap[g]? = some (.cells Try.zeroCells150 150 (0, 0))) (hl : (nums IntKind.i64 l).length = 100) : (storeCells (Addr.mk g 0 none) (nums IntKind.i64 l) 0).run Try.prog w = .ok () (w.setRow g (nums IntKind.i64 l).toArray) := by
  have := run_storeCells_from (P := Try.prog) g 150 (nums IntKind.i64 l) 0 Try.zeroCells150 w hg (by rw [hl]; kernel_rfl) (fun v hv => by simp [nums] at hv; obtain ⟨x, _, rfl⟩ := hv; rfl)
  simpa using this
theorem q_mem {qs : List Int} {i : Nat} {q : Int} (h : i < qs.length) (hq : qs.getD i 0 = q) : q ∈ qs := by
  have h3 : qs.getD i 0 = qs[i] := by simp [h]
  rw [← hq, h3]
  exact List.getElem_mem _
theorem FarM.setCell {w : World} {b : Nat} {vals : Int → Int} {qs : List Int} (h : FarM w b vals qs) {a : Addr} (v : Value) (hne : b ≠ a.block) : FarM (w.setCell a v) b vals qs := by
  obtain ⟨es, clock, hb, r⟩ := h
  exact ⟨es, clock, (heap_setCell_other w a b v hne).trans hb, r⟩
theorem nums_set (l : List Int) (i : Nat) (x : Int) : (nums IntKind.i64 l).toArray.setIfInBounds i (.int .i64 x) = (nums IntKind.i64 (l.set i x)).toArray := by
  simp [nums, List.map_set]
theorem cell_ne_map {w : World} {a : Addr} {v : Value} {b : Nat} {vals : Int → Int} {qs : List Int} (h : w.cell? a = some v) (hm : FarM w b vals qs) : a.block ≠ b := by
  obtain ⟨es, clock, hb, _⟩ := hm
  intro e
  rw [← e] at hb
  simp [World.cell?, hb] at h
theorem cyO_ne {out : List Int} {v u x : Int} (hv : 0 ≤ v) (hu : 0 ≤ u) (h : u ≠ v) : cyO (out.set v.toNat x) u = cyO out u := by
  unfold cyO
  rw [List.getD_eq_getElem?_getD, List.getElem?_set_ne (by omega), ← List.getD_eq_getElem?_getD]
theorem cyO_same {out : List Int} {v x : Int} (hl : out.length = 100) (hv : v < 100) : cyO (out.set v.toNat x) v = x := by
  unfold cyO
  rw [List.getD_eq_getElem?_getD, List.getElem?_set_self (by omega), Option.getD_some]
theorem set_far {w : World} {a b : Addr} {v : Value} (h : a ≠ b) : (w.setCell a v).cell? b = w.cell? b := by
  apply World.cell?_setCell_other
  exact h
theorem bs_store {w W w5 : World} {g4 : Nat} {aq pa : Addr} {n cq : Nat} {v1 : Value} {out out' qs : List Int} {goal s nv u : Int} (hlt : w.heap.size < g4) (HO : Kd.R (Kd.int .i64) 3 W w.heap.size (fun _ => True) (.slice (some aq) n cq) qs) (G1 : W.heap[g4]? = some (.cells (nums IntKind.i64 out').toArray 150 (0, 0))) (G2 : W.heap[w.heap.size]? = some (.cells Try.zeroCells150 150 (0, 0))) (G3 : FarM W (g4 + 1) (cyFo goal out) qs) (hne : aq.block ≠ g4 + 1) (hp : W.cell? pa = some (.int .i64 u)) (hpa : pa.block = g4)
    (ho5 : Kd.R (Kd.int .i64) 3 w5 w.heap.size (fun _ => True) v1 (qs ++ [s])) (hb5 : Below w.heap.size w w5) (hg5 : W.grownBy w5 (some aq.block)) (hat5 : v1.ownBlock = some aq.block ∨ ∃ b, v1.ownBlock = some b ∧ W.heap.size ≤ b) (hx : cyFo goal out' s = nv) (hv : ∀ q ∈ qs, q ≠ s → cyFo goal out' q = cyFo goal out q) :
    ∃ w6 mv, ∃ st : Nat, ∃ w7, (Instr.mapEntry 181 (.map (some (g4 + 1))) (.int .i64 s)).run Try.prog w5 = .ok (.tuple #[mv, .int .i64 (st : Int)]) w6 ∧ (Instr.entryStore 181 (.map (some (g4 + 1))) (.int .i64 (st : Int)) (.int .i64 nv)).run Try.prog w6 = .ok () w7 ∧
      (∀ a x, a.block < w.heap.size → w.cell? a = some x → w5.cell? a = some x ∧ w6.cell? a = some x ∧ w7.cell? a = some x) ∧ (w5.cell? pa = some (.int .i64 u) ∧ w6.cell? pa = some (.int .i64 u) ∧ w7.cell? pa = some (.int .i64 u)) ∧
      Aside0 (Kd.R (Kd.int .i64) 3 w7 w.heap.size (fun _ => True) v1 (qs ++ [s])) ∧ Aside0 (w7.heap[g4]? = some (.cells (nums IntKind.i64 out').toArray 150 (0, 0))) ∧ Aside0 (w7.heap[w.heap.size]? = some (.cells Try.zeroCells150 150 (0, 0))) ∧ Aside0 (FarM w7 (g4 + 1) (cyFo goal out') (qs ++ [s])) ∧ Aside0 (Below w.heap.size w w7) := by
  have hq4 : aq.block ≠ g4 := by
    have h1 := Kd.R_ne HO G1 (by decide)
    simpa [Value.ownBlock, eq_comm] using h1
  have hq0 : aq.block ≠ w.heap.size := by
    have h1 := Kd.R_ne HO G2 (by decide)
    simpa [Value.ownBlock, eq_comm] using h1
  have l3 := FarM.lt G3
  obtain ⟨w6, mv, st, hme, hg6, hmid⟩ := FarM.enter (FarM.kept G3 hg5 (by simp; omega)) s
  obtain ⟨w7, hes, hg7, hf7⟩ := MidM.store hmid nv hx hv
  have hb6 : Below w.heap.size w w6 := hb5.grown hg6 hb5.size (fun k hk => by cases hk; omega)
  have hb7 : Below w.heap.size w w7 := hb6.grown hg7 hb6.size (fun k hk => by cases hk; omega)
  have e5 : w5.heap[g4]? = W.heap[g4]? := hg5.block g4 (lt_of_block G1) (by simp; omega)
  have e6 : w6.heap[g4]? = w5.heap[g4]? := hg6.block g4 (lt_of_block (e5.trans G1)) (by simp)
  have e7 : w7.heap[g4]? = w6.heap[g4]? := hg7.block g4 (lt_of_block (e6.trans (e5.trans G1))) (by simp)
  have f5 : w5.heap[w.heap.size]? = W.heap[w.heap.size]? := hg5.block _ (lt_of_block G2) (by simp; omega)
  have f6 : w6.heap[w.heap.size]? = w5.heap[w.heap.size]? := hg6.block _ (lt_of_block (f5.trans G2)) (by simp; omega)
  have f7 : w7.heap[w.heap.size]? = w6.heap[w.heap.size]? := hg7.block _ (lt_of_block (f6.trans (f5.trans G2))) (by simp; omega)
  have hvb : ∀ row, row = some (g4 + 1) → row ≠ v1.ownBlock := by
    rintro row rfl
    rcases hat5 with h1 | ⟨b, h1, h2⟩
    · rw [h1]; simp; omega
    · rw [h1]; simp; omega
  refine ⟨w6, mv, st, w7, hme, hes, ?_, ⟨?_, ?_, ?_⟩, ⟨Kd.R_grown1 (Kd.R_grown1 ho5 rfl hg6 (hvb _ rfl)) rfl hg7 (hvb _ rfl)⟩, ⟨e7.trans (e6.trans (e5.trans G1))⟩, ⟨f7.trans (f6.trans (f5.trans G2))⟩, ⟨hf7⟩, ⟨hb7⟩⟩
  · intro a x ha hax
    exact ⟨(hb5.cell ha).trans hax, (hb6.cell ha).trans hax, (hb7.cell ha).trans hax⟩
  · exact hg5.cell hp (by simp; omega)
  · exact hg6.cell (hg5.cell hp (by simp; omega)) (by simp; omega)
  · exact hg7.cell (hg6.cell (hg5.cell hp (by simp; omega)) (by simp; omega)) (by simp; omega)
theorem mk181 (w4 : World) : (Instr.makeMap 181 none).run Try.prog (w4.alloc (.cells Try.zeroCells150 150)) = .ok (.map (some (w4.heap.size + 1))) ((w4.alloc (.cells Try.zeroCells150 150)).alloc (.map #[] 0)) := by
  rw [← size_alloc w4 (.cells Try.zeroCells150 150)]
  rfl
set_option maxHeartbeats 4000000 in
set_option maxRecDepth 100000 in
theorem bs_calls (k : Nat) (A0 : Option Addr) (c0 : Nat) (E : List (List Int)) (goal : Int) (r : List Int) (w : World) (hr0 : Kd.C (Kd.slice 3 (Kd.int .i64)) w A0 E.length E) (hc0 : E.length ≤ c0) (hE : cyGood E) (hg : 0 ≤ goal ∧ goal ≤ 99) (h : bsGo E goal k 0 (List.replicate 100 0) [goal] = some r) :
    Calls Try.prog 113 #[.slice A0 E.length c0, .int .i64 goal] w fun e w' => e = .returned (.agg (nums .i64 r).toArray) ∧ Below w.heap.size w w' := by
  have HR := Aside0.mk hr0
  have HC := Aside0.mk hc0
  have HE := Aside0.mk hE
  have HB := Aside0.mk (Below.refl w.heap.size w)
  have HG := Aside0.mk hg
  have H' := Aside0.mk h
  clear hr0 hc0 hE h hg
  go_enter Try.func113, Try.ntmps113
  go_wp2_with (first | ((with_reducible refine gate_dst (N := 13) rfl ?_); go_loud (refine Kd.R_lit (Kd.int .i64) _ 3 ?hg (N := 13) ?hd (xs := ([goal] : List Int)) (inner := [.int .i64 goal]) (ok := fun _ => True) (okp := fun _ => True) ?hr ?hp (fun _ hk => hk) trivial (Below.refl _ _) (Nat.le_refl _) (by simp) ?_; (case hd => rfl); (case hg => rfl); (case hr => first | (go_simp; done) | (go_simp; rfl)); (case hp => exact (Reps.one (show Kd.M (Kd.int .i64) _ _ _ goal [.int .i64 goal] from rfl) (Reps.none _ _))); intro v6 w4 ho5 hb hg_ hnew_; clear hg_ hnew_; have hgl := Aside0.mk ((hb.block w.heap.size (lt_alloc _ _)).trans (heap_alloc_last w (.cells Try.zeroCells150 150))); have n0_ := Aside0.mk (Kd.R_lower ho5 (below_size (by repeat (first | (with_reducible first|exact HB.out|apply below_alloc|apply pw_below_drewN|apply below_drew1) | exact HB.out)))); have n1_ := Aside0.mk (below_step (by repeat (first | (with_reducible first|exact HB.out|apply below_alloc|apply pw_below_drewN|apply below_drew1) | exact HB.out)) hb); clear HB; have HO6 := n0_; have HB := n1_; clear n0_ n1_ hb ho5; have hst := row_store0 w4; have hm1 := mk181 w4; have hm2 := (FarM.init (w4.alloc (.cells Try.zeroCells150 150)) goal).1; have hm3 := Aside0.mk ((FarM.init (w4.alloc (.cells Try.zeroCells150 150)) goal).2 (cyFo goal (List.replicate 100 0)) (by simp [cyFo])); rw [size_alloc] at hm2 hm3)))
  clear hst hm1 hm2
  have hm4 : w.heap.size < w4.heap.size := lt_of_block hgl.out
  go_loopg [6, 8] k (fun kq v6 v8 w' => ∃ (out qs : List Int) (i : Nat) (iv : Int), v8 = .int .i64 iv ∧ Aside0 (bsGo E goal kq i out qs = some r ∧ i ≤ 1000 ∧ iv = (i : Int)) ∧ Aside0 (∀ x ∈ qs, 0 ≤ x) ∧ Aside0 (out.length = 100) ∧ Aside0 (Kd.R (Kd.int .i64) 3 w' w.heap.size (fun _ => True) v6 qs) ∧ Aside0 (w'.heap[w4.heap.size]? = some (.cells (nums IntKind.i64 out).toArray 150 (0, 0))) ∧ Aside0 (w'.heap[w.heap.size]? = some (.cells Try.zeroCells150 150 (0, 0))) ∧ Aside0 (FarM w' (w4.heap.size + 1) (cyFo goal out) qs) ∧ Aside0 (Below w.heap.size w w'))
  case atStart =>
    refine ⟨List.replicate 100 0, [goal], 0, 0, rfl, ⟨H'.out, by omega, rfl⟩, ⟨fun x hx => by rw [List.mem_singleton.1 hx]; exact HG.out.1⟩, ⟨by simp⟩, ⟨by (with_reducible repeat (first | apply Kd.R_alloc | apply Kd.R_drewN | apply Kd.R_drew)); exact HO6.out⟩, ⟨?_⟩, ⟨?_⟩, hm3, ⟨(by repeat (first | (with_reducible first|exact HB.out|apply below_alloc|apply pw_below_drewN|apply below_drew1) | exact HB.out))⟩⟩
    · rw [heap_alloc_lt _ _ _ (by rw [size_alloc]; omega), ← zeros_eq]
      exact heap_alloc_last w4 _
    · rw [heap_alloc_lt _ _ _ (by rw [size_alloc]; omega), heap_alloc_lt _ _ _ hm4]
      exact hgl.out
  case round =>
    clear H' HO6 hgl hm3 HB
    obtain ⟨out, qs, i, iv, rfl, HA, HP, HL, HO6, hout, hres, hfar, HB⟩ := hrel
    have HIV := Aside0.mk HA.out.2.2
    cases gk with
    | zero => exact absurd HA.out.1 (by simp [bsGo])
    | succ k1 =>
      have H := HA.out.1
      have HI := Aside0.mk HA.out.2
      clear HA
      simp only [bsGo] at H
      obtain ⟨Aq, cq, eq⟩ := Kd.R_slice HO6.out
      subst eq
      by_cases c1 : i < qs.length
      · rw [if_pos c1] at H
        have c1b : decide (iv < (qs.length : Int)) = true := decide_eq_true (by have := HIV.out; omega)
        have H2 : qs.length ≤ 1000 := by
          by_cases c2 : qs.length ≤ 1000
          · exact c2
          · rw [if_neg c2] at H
            cases H
        rw [if_pos H2] at H
        obtain ⟨q, hq⟩ : ∃ q, q = qs.getD i 0 := ⟨_, rfl⟩
        obtain ⟨out1, qs1, h1⟩ : ∃ out1 qs1, bsIn goal q E out qs = (out1, qs1) := ⟨_, _, rfl⟩
        rw [← hq, h1] at H
        have H' := Aside0.mk H
        have HQ := Aside0.mk (⟨c1, hq.symm, H2⟩ : i < qs.length ∧ qs.getD i 0 = q ∧ qs.length ≤ 1000)
        have HIN := Aside0.mk h1
        have HI9 := Aside0.mk (show i + 1 ≤ 1000 by omega)
        clear H H2 hq h1 c1
        go_wp2_with fail
        go_loopg [6, 25] (E.length + 1) (fun kq v6 v25 w' => ∃ (out : List Int) (qs : List Int) (j : Int), v25 = .int .i64 j ∧ Aside0 (0 ≤ j ∧ j + kq = E.length + 1) ∧ Aside0 (bsIn goal q (E.drop j.toNat) out qs = (out1, qs1)) ∧ Aside0 (i < qs.length ∧ qs.getD i 0 = q ∧ (qs.length : Int) ≤ 1000 + j) ∧ Aside0 (∀ x ∈ qs, 0 ≤ x) ∧ Aside0 (out.length = 100) ∧ Aside0 (Kd.R (Kd.int .i64) 3 w' w.heap.size (fun _ => True) v6 qs) ∧ Aside0 (w'.heap[w4.heap.size]? = some (.cells (nums IntKind.i64 out).toArray 150 (0, 0))) ∧ Aside0 (w'.heap[w.heap.size]? = some (.cells Try.zeroCells150 150 (0, 0))) ∧ Aside0 (FarM w' (w4.heap.size + 1) (cyFo goal out) qs) ∧ Aside0 (Below w.heap.size w w'))
        case atStart => exact ⟨out, qs, 0, rfl, ⟨by omega⟩, HIN, ⟨by have := HQ.out; omega⟩, HP, HL, HO6, hout, hres, hfar, HB⟩
        case round =>
          clear HIN HQ HP HL HO6 hout hres hfar HB
          obtain ⟨out, qs, j, rfl, HJ, HIN, HQ, HP, HL, HO6, hout, hres, hfar, HB⟩ := hrel
          by_cases c5 : j < (E.length : Int)
          · have c5b : decide (j < (E.length : Int)) = true := decide_eq_true c5
            have hj0 : 0 ≤ j := HJ.out.1
            obtain ⟨ad, a1, c1, e1, x0, x1, x2, b1, b2, b3, b4, hdr⟩ := pair_at HR.out HE.out j hj0 c5
            have hla : a1.block < w.heap.size := World.block_lt_of_cell? w _ x1
            have X1 := Aside0.mk x1
            replace x0 := (HB.out.cell (World.block_lt_of_cell? w _ x0)).trans x0
            replace x1 := (HB.out.cell (World.block_lt_of_cell? w _ x1)).trans x1
            replace x2 := (HB.out.cell (World.block_lt_of_cell? w _ x2)).trans x2
            have HDR := Aside0.mk hdr
            clear hdr
            cases e1
            have hw25 : wrap64 (j + 1) = j + 1 := by have := HJ.out; have := HE.out.1; unfold wrap64; omega
            obtain ⟨Aq, cq, eq⟩ := Kd.R_slice HO6.out
            subst eq
            have hiv0 : 0 ≤ iv := by have := HIV.out; omega
            have hiv1 : iv < (qs.length : Int) := by have := HIV.out; have := HQ.out; omega
            obtain ⟨aq, e2, xq⟩ := Kd.at_int (Kd.R_reads' HO6.out).2.2 iv hiv0 hiv1
            cases e2
            have hrq : rd qs iv = q := by have h1 := HIV.out; have h2 := HQ.out.2.1; subst h1; simpa [rd] using h2
            rw [hrq] at xq
            clear hrq
            have hos := far_at hout.out HL.out (cySrc (rd_L1 E j)) b1 b2
            have hb2 : cySrc (rd_L1 E j) < 100 := by omega
            have HB2 := Aside0.mk b2
            have HB4 := Aside0.mk (⟨b3, b4⟩ : 0 ≤ cyDst (rd_L1 E j) ∧ cyDst (rd_L1 E j) ≤ 99)
            clear b2 b3 b4
            by_cases s1 : cyDst (rd_L1 E j) = q
            · have s1b : (cyDst (rd_L1 E j) == q) = true := by simpa using s1
              have s1c : (cyDst (rd_L1 E j) != q) = false := by simpa using s1
              have s1d : (decide (cyDst (rd_L1 E j) = q)) = true := by simpa using s1
              by_cases s2 : 0 < cyO out (cySrc (rd_L1 E j))
              · have s2b : decide (0 < cyO out (cySrc (rd_L1 E j))) = true := decide_eq_true s2
                go_wp2_with fail
                go_region_held3 (fun w' => w'.cell? a1 = some (.int .i64 (cySrc (rd_L1 E j))) ∧ w'.cell? (Addr.mk a1.block (a1.off + 1) none) = some (.int .i64 (cyDst (rd_L1 E j))) ∧ w'.cell? (aq.add iv.toNat) = some (.int .i64 q) ∧ w'.cell? (Addr.mk w4.heap.size (cySrc (rd_L1 E j)).toNat none) = some (.int .i64 (cyO out (cySrc (rd_L1 E j))))) (go_keep) (fail)
                all_goals go_wp2_with fail
                go_roundg (E.length - j.toNat)
                case measure => have := HJ.out; omega
                case rel => exact ⟨out, qs, j + 1, by first | rfl | rw [hw25], ⟨by have := HJ.out; omega⟩, ⟨by have h1 := HIN.out; rw [HDR.out] at h1; simp only [bsIn] at h1; rw [if_neg (by simpa using s1), if_pos s2] at h1; exact h1⟩, ⟨by have := HQ.out; omega⟩, HP, HL, ⟨by (with_reducible repeat (first | apply Kd.R_alloc | apply Kd.R_drewN | apply Kd.R_drew)); exact HO6.out⟩, hout, hres, hfar, ⟨(by repeat (first | (with_reducible first|exact HB.out|apply below_alloc|apply pw_below_drewN|apply below_drew1) | exact HB.out))⟩⟩
              · have s2b : decide (0 < cyO out (cySrc (rd_L1 E j))) = false := decide_eq_false s2
                go_wp2_with fail
                go_region_held3 (fun w' => w'.cell? a1 = some (.int .i64 (cySrc (rd_L1 E j))) ∧ w'.cell? (Addr.mk a1.block (a1.off + 1) none) = some (.int .i64 (cyDst (rd_L1 E j))) ∧ w'.cell? (aq.add iv.toNat) = some (.int .i64 q) ∧ w'.cell? (Addr.mk w4.heap.size (cySrc (rd_L1 E j)).toNat none) = some (.int .i64 (cyO out (cySrc (rd_L1 E j))))) (go_keep) (fail)
                all_goals go_wp2_with fail
                have HF := hfar
                have hqm : q ∈ qs := q_mem HQ.out.1 HQ.out.2.1
                have hfz : wr.frozen? (Addr.mk w4.heap.size (cySrc (rd_L1 E j)).toNat none) = false := by simp [World.frozen?, hout.out]
                have hlk := FarM.look (w := wr.drew.drew) (hfar.out : FarM wr.drew.drew (w4.heap.size + 1) (cyFo goal out) qs) hqm
                have hlk1 := FarM.look (w := wr.drew) (hfar.out : FarM wr.drew (w4.heap.size + 1) (cyFo goal out) qs) hqm
                have hna : a1.block ≠ w4.heap.size := by omega
                have hnq : aq.block ≠ w4.heap.size := by
                  have h1 := Kd.R_ne HO6.out hout.out (by decide)
                  simpa [Value.ownBlock, eq_comm] using h1
                obtain ⟨pa, hpa⟩ : ∃ pa, pa = Addr.mk w4.heap.size (cySrc (rd_L1 E j)).toNat none := ⟨_, rfl⟩
                have hk1 : ∀ v, (wr.setCell (Addr.mk w4.heap.size (cySrc (rd_L1 E j)).toNat none) v).cell? a1 = some (.int .i64 (cySrc (rd_L1 E j))) := fun v => (set_far (fun e => hna (by rw [← e]))).trans x1
                have hk2 : ∀ v, (wr.setCell (Addr.mk w4.heap.size (cySrc (rd_L1 E j)).toNat none) v).cell? (Addr.mk a1.block (a1.off + 1) none) = some (.int .i64 (cyDst (rd_L1 E j))) := fun v => (set_far (fun e => hna (by injection e with e1; exact e1.symm))).trans x2
                have hk3 : ∀ v, (wr.setCell (Addr.mk w4.heap.size (cySrc (rd_L1 E j)).toNat none) v).cell? (aq.add iv.toNat) = some (.int .i64 q) := fun v => (set_far (fun e => hnq (by rw [← add_block aq iv.toNat, ← e]))).trans xq
                have hk4 : ∀ v, ((wr.setCell (Addr.mk w4.heap.size (cySrc (rd_L1 E j)).toNat none) v).cell? (Addr.mk w4.heap.size (cySrc (rd_L1 E j)).toNat none)).isSome = true := fun v => by rw [World.cell?_setCell_same (h := hos)]; rfl
                have hk5 : ∀ v, (Instr.lookup 181 (.map (some (w4.heap.size + 1))) (.int .i64 q) false).run Try.prog (wr.setCell (Addr.mk w4.heap.size (cySrc (rd_L1 E j)).toNat none) v).drew.drew = .ok (.int .i64 (cyFo goal out q)) (wr.setCell (Addr.mk w4.heap.size (cySrc (rd_L1 E j)).toNat none) v).drew.drew := fun v => FarM.look (w := (wr.setCell (Addr.mk w4.heap.size (cySrc (rd_L1 E j)).toNat none) v).drew.drew) (FarM.setCell hfar.out _ (by simp)) hqm
                have hfar2 : ∀ v, Aside0 (FarM (wr.setCell (Addr.mk w4.heap.size (cySrc (rd_L1 E j)).toNat none) v) (w4.heap.size + 1) (cyFo goal out) qs) := fun v => ⟨FarM.setCell hfar.out _ (by simp)⟩
                go_region_held3 (fun w' => w'.cell? a1 = some (.int .i64 (cySrc (rd_L1 E j))) ∧ w'.cell? (Addr.mk a1.block (a1.off + 1) none) = some (.int .i64 (cyDst (rd_L1 E j))) ∧ w'.cell? (aq.add iv.toNat) = some (.int .i64 q) ∧ (w'.cell? (Addr.mk w4.heap.size (cySrc (rd_L1 E j)).toNat none)).isSome = true ∧ w'.frozen? (Addr.mk w4.heap.size (cySrc (rd_L1 E j)).toNat none) = false ∧ (Instr.lookup 181 (.map (some (w4.heap.size + 1))) (.int .i64 q) false).run Try.prog w' = .ok (.int .i64 (cyFo goal out q)) w') (go_keep) (fail)
                have hnv : IntKind.i64.wrap (cyFo goal out q + 1) = wrap64 (cyFo goal out q + 1) := by first | rfl | (simp; done) | (unfold wrap64; rw [IntKind.wrap_i64])
                obtain ⟨nv, hnv2⟩ : ∃ nv, nv = wrap64 (cyFo goal out q + 1) := ⟨_, rfl⟩
                rw [hnv, ← hnv2]
                have NV := Aside0.mk hnv2
                obtain ⟨W1, hW1⟩ : ∃ W1, W1 = (wr.setCell (Addr.mk w4.heap.size (cySrc (rd_L1 E j)).toNat none) (.int .i64 nv)).drew.drew := ⟨_, rfl⟩
                rw [← hW1]
                have y1 : W1.cell? a1 = some (.int .i64 (cySrc (rd_L1 E j))) := by rw [hW1]; exact hk1 _
                have y3 : W1.cell? (Addr.mk w4.heap.size (cySrc (rd_L1 E j)).toNat none) = some (.int .i64 nv) := by rw [hW1]; exact World.cell?_setCell_same _ _ _ hos
                have G1 : Aside0 (W1.heap[w4.heap.size]? = some (.cells (nums IntKind.i64 (out.set (cySrc (rd_L1 E j)).toNat nv)).toArray 150 (0, 0))) := ⟨by rw [hW1]; exact blk_put hout.out _ _ (nums_set _ _ _)⟩
                have G2 : Aside0 (W1.heap[w.heap.size]? = some (.cells Try.zeroCells150 150 (0, 0))) := ⟨by rw [hW1]; exact (heap_setCell_other wr _ _ _ (by simp; omega)).trans hres.out⟩
                have G3 : Aside0 (FarM W1 (w4.heap.size + 1) (cyFo goal out) qs) := ⟨by rw [hW1]; exact (hfar2 _).out⟩
                have G4 : Aside0 (Kd.R (Kd.int .i64) 3 W1 w.heap.size (fun _ => True) (.slice (some aq) qs.length cq) qs) := ⟨by rw [hW1]; exact Kd.R_set HO6.out hout.out (by decide) _ _⟩
                have G5 : Aside0 (Below w.heap.size w W1) := ⟨by rw [hW1]; apply below_drew1; apply below_drew1; exact below_set (g := w4.heap.size) HB.out (by omega)⟩
                have G6 : Aside0 ((out.set (cySrc (rd_L1 E j)).toNat nv).length = 100) := ⟨by rw [List.length_set]; exact HL.out⟩
                have G7 : Aside0 (aq.block ≠ w4.heap.size + 1) := ⟨by have h := cell_ne_map xq hfar.out; rwa [add_block] at h⟩
                have hlt4 : w.heap.size < w4.heap.size := hm4
                clear HF hlk hlk1 hfz hk1 hk2 hk3 hk4 hk5 hfar2 hpa pa hos xq x0 x1 x2 HO6 hout hres hfar HB hnv2 hnv hW1
                have hbs : ∀ qs', bsIn goal q (E.drop (j + 1).toNat) (out.set (cySrc (rd_L1 E j)).toNat nv) (if cySrc (rd_L1 E j) = goal then qs else qs ++ [cySrc (rd_L1 E j)]) = qs' → qs' = (out1, qs1) := by
                  rintro _ rfl
                  have h1 := HIN.out
                  rw [HDR.out] at h1
                  simp only [bsIn] at h1
                  rw [if_neg (by simpa using s1), if_neg (by omega), ← NV.out] at h1
                  exact h1
                have HV : Aside0 (∀ q' ∈ qs, q' ≠ cySrc (rd_L1 E j) → cyFo goal (out.set (cySrc (rd_L1 E j)).toNat nv) q' = cyFo goal out q') := by
                  refine ⟨fun q' hq' hn => ?_⟩
                  unfold cyFo
                  by_cases hg : q' = goal
                  · rw [if_pos hg, if_pos hg]
                  · rw [if_neg hg, if_neg hg]
                    exact cyO_ne b1 (HP.out q' hq') hn
                by_cases s3 : cySrc (rd_L1 E j) = goal
                · have s3b : (cySrc (rd_L1 E j) != goal) = false := by simpa using s3
                  rw [if_pos s3] at hbs
                  have HV2 : Aside0 (∀ q' ∈ qs, cyFo goal out q' = cyFo goal (out.set (cySrc (rd_L1 E j)).toNat nv) q') := by
                    refine ⟨fun q' hq' => ?_⟩
                    by_cases hn : q' = cySrc (rd_L1 E j)
                    · unfold cyFo
                      rw [if_pos (hn.trans s3), if_pos (hn.trans s3)]
                    · exact (HV.out q' hq' hn).symm
                  have HBS := Aside0.mk (hbs _ rfl)
                  clear hbs
                  go_wp2_with fail
                  go_roundg (E.length - j.toNat)
                  case measure => have := HJ.out; omega
                  case rel => exact ⟨out.set (cySrc (rd_L1 E j)).toNat nv, qs, j + 1, by first | rfl | rw [hw25], ⟨by have := HJ.out; omega⟩, HBS, ⟨by have := HQ.out; omega⟩, HP, G6, ⟨by (with_reducible repeat (first | apply Kd.R_alloc | apply Kd.R_drewN | apply Kd.R_drew)); exact G4.out⟩, G1, G2, ⟨G3.out.vals HV2.out⟩, ⟨by (repeat (first | exact G5.out | apply below_drew1))⟩⟩
                · have s3b : (cySrc (rd_L1 E j) != goal) = true := by simpa using s3
                  rw [if_neg s3] at hbs
                  have HV3 : Aside0 (cyFo goal (out.set (cySrc (rd_L1 E j)).toNat nv) (cySrc (rd_L1 E j)) = nv) := ⟨by unfold cyFo; rw [if_neg s3]; exact cyO_same HL.out hb2⟩
                  have HP2 : Aside0 (∀ x ∈ qs ++ [cySrc (rd_L1 E j)], 0 ≤ x) := by
                    refine ⟨fun x hx => ?_⟩
                    rcases List.mem_append.1 hx with h | h
                    · exact HP.out x h
                    · rw [List.mem_singleton.1 h]
                      exact b1
                  have HQ2 : Aside0 (i < (qs ++ [cySrc (rd_L1 E j)]).length ∧ (qs ++ [cySrc (rd_L1 E j)]).getD i 0 = q ∧ ((qs ++ [cySrc (rd_L1 E j)]).length : Int) ≤ 1000 + (j + 1)) := by
                    have h1 := HQ.out
                    refine ⟨?_, ?_, ?_⟩
                    · rw [List.length_append]
                      omega
                    · rw [List.getD_eq_getElem?_getD, List.getElem?_append_left h1.1, ← List.getD_eq_getElem?_getD]
                      exact h1.2.1
                    · rw [List.length_append, List.length_singleton]
                      omega
                  have HL2 : Aside0 ((qs.length + 1) * 8 ≤ 140737488355328) := ⟨by have := HQ.out; have := HJ.out; have := HE.out.1; omega⟩
                  have HBS := Aside0.mk (hbs _ rfl)
                  clear hbs
                  have nn1 := World.new_ne W1.drew a1 y1
                  have nn2 := World.new_ne W1.drew _ y3
                  go_wp2_with fail
                  go_region_held3 (fun w' => w'.cell? a1 = some (.int .i64 (cySrc (rd_L1 E j))) ∧ w'.cell? (Addr.mk w4.heap.size (cySrc (rd_L1 E j)).toNat none) = some (.int .i64 nv)) (go_keep) ((refine Kd.R_append_step (Kd.int .i64) (w0 := w) (W := W1.drew) w.heap.size (by rfl) (.tmp 70) (.tmp 74) 22 3 (.int .i64 0) 8 (by rfl) Try.underlying22 info3 rfl (by decide) (by omega) (.slice (some aq) qs.length cq) qs (cySrc (rd_L1 E j)) [.int .i64 (cySrc (rd_L1 E j))] (fun _ => True) (fun _ => False) (by exact rfl) (by exact rfl) (by exact rfl) (fun _ hk => hk.elim) (fun _ _ => trivial) (by (with_reducible repeat (first | apply Kd.R_alloc | apply Kd.R_drewN | apply Kd.R_drew)); exact G4.out) (by (repeat (first | exact G5.out | apply below_drew1))) (G5.out.size) HL2.out ?_; intro v7 w7 ho7 hb7 hg7 hat7; obtain ⟨w8, mv8, st8, w9, hme8, hes8, hk8, hk9, HO8, G18, G28, G38, G58⟩ := bs_store (pa := Addr.mk w4.heap.size (cySrc (rd_L1 E j)).toNat none) (u := nv) (nv := nv) hlt4 (Kd.R_drew G4.out) G1.out G2.out (G3.out : FarM W1.drew _ _ _) G7.out y3 rfl ho7 hb7 hg7 hat7 HV3.out HV.out; obtain ⟨k81, k82, k83⟩ := hk8 a1 _ hla X1.out; obtain ⟨k84, k85, k86⟩ := hk9; clear hk8 ho7 hb7 hg7 hat7))
                  all_goals go_wp2_with fail
                  go_roundg (E.length - j.toNat)
                  case measure => have := HJ.out; omega
                  case rel => exact ⟨out.set (cySrc (rd_L1 E j)).toNat nv, qs ++ [cySrc (rd_L1 E j)], j + 1, by first | rfl | rw [hw25], ⟨by have := HJ.out; omega⟩, HBS, HQ2, HP2, G6, ⟨by (with_reducible repeat (first | apply Kd.R_alloc | apply Kd.R_drewN | apply Kd.R_drew)); exact HO8.out⟩, G18, G28, G38, ⟨by (repeat (first | exact G58.out | apply below_drew1))⟩⟩
            · have s1b : (cyDst (rd_L1 E j) == q) = false := by simpa using s1
              have s1c : (cyDst (rd_L1 E j) != q) = true := by simpa using s1
              have s1d : (decide (cyDst (rd_L1 E j) = q)) = false := by simpa using s1
              go_wp2_with fail
              go_region
              all_goals go_wp2_with fail
              all_goals go_roundg (E.length - j.toNat)
              case measure => have := HJ.out; omega
              case rel => exact ⟨out, qs, j + 1, by first | rfl | rw [hw25], ⟨by have := HJ.out; omega⟩, ⟨by have h1 := HIN.out; rw [HDR.out] at h1; simp only [bsIn] at h1; rw [if_pos s1] at h1; exact h1⟩, ⟨by have := HQ.out; omega⟩, HP, HL, ⟨by (with_reducible repeat (first | apply Kd.R_alloc | apply Kd.R_drewN | apply Kd.R_drew)); exact HO6.out⟩, hout, hres, hfar, ⟨(by repeat (first | (with_reducible first|exact HB.out|apply below_alloc|apply pw_below_drewN|apply below_drew1) | exact HB.out))⟩⟩
          · have c5b : decide (j < (E.length : Int)) = false := decide_eq_false c5
            obtain ⟨rfl, rfl⟩ : out = out1 ∧ qs = qs1 := by have h1 := HIN.out; have h2 := HJ.out; rw [List.drop_eq_nil_of_le (by omega)] at h1; simpa [bsIn] using h1
            have hw8 : wrap64 (iv + 1) = iv + 1 := by have := HIV.out; have := HI.out; unfold wrap64; omega
            go_wp2_with fail
            go_roundg k1
            case measure => omega
            case rel => exact ⟨out, qs, i + 1, iv + 1, by first | rfl | rw [hw8], ⟨H'.out, HI9.out, by have := HIV.out; omega⟩, HP, HL, ⟨by (with_reducible repeat (first | apply Kd.R_alloc | apply Kd.R_drewN | apply Kd.R_drew)); exact HO6.out⟩, hout, hres, hfar, ⟨(by repeat (first | (with_reducible first|exact HB.out|apply below_alloc|apply pw_below_drewN|apply below_drew1) | exact HB.out))⟩⟩
      · have c1b : decide (iv < (qs.length : Int)) = false := decide_eq_false (by have := HIV.out; omega)
        rw [if_neg c1] at H
        obtain rfl := Option.some.inj H
        clear H c1
        go_wp2_with fail
        have hnl : (nums IntKind.i64 out).toArray.size = 100 := by have := HL.out; simp [nums, this]
        have hi150 : (Try.prog.info? 150).map (·.size) = some (nums IntKind.i64 out).toArray.size := by rw [(zero_of_info info150).2, hnl]
        refine wp_load_row 150 (.tmp 5) (by rfl) w4.heap.size (by rfl) 150 (nums IntKind.i64 out).toArray (0, 0) _ hout.out Try.underlying150 rfl hi150 ?_
        have hln : (nums IntKind.i64 out).length = 100 := by have := HL.out; simp [nums, this]
        have hst : (storeCells (Addr.mk w.heap.size 0 none) (nums IntKind.i64 out) 0).run Try.prog wr = .ok () (wr.setRow w.heap.size (nums IntKind.i64 out).toArray) := row_storeAt hres.out hln
        go_wp2_with fail
        refine bodyPost_ret (results_cell_row rfl _ _ w.heap.size 150 (nums IntKind.i64 out).toArray (0, 0) _ (by rfl) (setRow_heap wr w.heap.size Try.zeroCells150 _ 150 _ hres.out) Try.underlying150 rfl hi150) rfl ?_
        exact ⟨rfl, below_setRow HB.out (Nat.le_refl _) _⟩
def cyGo (E : List (List Int)) (k : Nat) : Nat → Int → Option (List Int × Bool)
  | 0, _ => some ([], false)
  | m + 1, n => match bsGo E n k 0 (List.replicate 100 0) [n] with
    | none => none
    | some fr => if fr.length = 100 ∧ ∀ v ∈ fr, 0 ≤ v ∧ v ≤ 1000 then (if cyO fr n = 0 then cyGo E k m (n + 1) else some (n :: goF E fr n ((cyO fr n).toNat - 1) n, true)) else none
theorem cyO_mem {fr : List Int} {P : Int → Prop} (h : ∀ v ∈ fr, P v) (x : Int) (h1 : x.toNat < fr.length) : P (cyO fr x) := by
  have : cyO fr x = fr[x.toNat] := by simp [cyO, h1]
  rw [this]
  exact h _ (List.getElem_mem _)

set_option maxHeartbeats 4000000 in
set_option maxRecDepth 100000 in
theorem cy_calls (k : Nat) (A0 : Option Addr) (c0 : Nat) (E : List (List Int)) (r1 : List Int) (r2 : Bool) (w : World) (hr0 : Kd.C (Kd.slice 3 (Kd.int .i64)) w A0 E.length E) (hc0 : E.length ≤ c0) (hE : cyGood E) (h : cyGo E k 100 0 = some (r1, r2)) :
    Calls Try.prog 69 #[.slice A0 E.length c0] w fun e w' => ∃ v0_ : Value, e = .returned (.tuple #[v0_, .bool r2]) ∧ Kd.R (Kd.int .i64) 3 w' w.heap.size (fun _ => True) v0_ r1 ∧ Below w.heap.size w w' := by
  have HR := Aside0.mk hr0
  have HC := Aside0.mk hc0
  have HE := Aside0.mk hE
  have HB := Aside0.mk (Below.refl w.heap.size w)
  have H' := Aside0.mk h
  clear hr0 hc0 hE h
  go_enter Try.func69, Try.ntmps69
  go_wp2
  go_loopg [12] 101 (fun kq v12 w' => ∃ (n : Int) (m : Nat), v12 = .int .i64 n ∧ Aside0 (0 ≤ n ∧ n + m = 100 ∧ kq = m + 1) ∧ Aside0 (cyGo E k m n = some (r1, r2)) ∧ Aside0 (Below w.heap.size w w'))
  case atStart => exact ⟨0, 100, rfl, ⟨by omega⟩, H', HB⟩
  case round =>
    clear HB H'
    obtain ⟨n, m, rfl, HN, HA, HB⟩ := hrel
    cases m with
    | zero =>
      have c1b : decide (n < 100) = false := decide_eq_false (by have := HN.out; omega)
      obtain ⟨rfl, rfl⟩ : r1 = [] ∧ r2 = false := by have H := HA.out; simp [cyGo] at H; first | exact ⟨H.1.symm, H.2.symm⟩ | exact ⟨H.1, H.2⟩ | exact ⟨H.1.symm, H.2⟩ | exact ⟨H.1, H.2.symm⟩
      go_wp2
      go_ret2
      exact ⟨_, rfl, Kd.R_nil _ _ _ _ _, (by repeat (first | (with_reducible first|exact HB.out|apply below_alloc|apply pw_below_drewN|apply below_drew1) | exact HB.out))⟩
    | succ m =>
      have hn0 : 0 ≤ n := HN.out.1
      have hn1 : n < 100 := by have := HN.out; omega
      have c1b : decide (n < 100) = true := decide_eq_true hn1
      have H := HA.out
      clear HA
      simp only [cyGo] at H
      obtain ⟨fr, hfr⟩ : ∃ fr, bsGo E n k 0 (List.replicate 100 0) [n] = some fr := by
        cases hq : bsGo E n k 0 (List.replicate 100 0) [n] with
        | none => rw [hq] at H; simp at H
        | some fr => exact ⟨fr, rfl⟩
      rw [hfr] at H
      simp only at H
      have c2 : fr.length = 100 ∧ ∀ v ∈ fr, 0 ≤ v ∧ v ≤ 1000 := by
        by_cases c2 : fr.length = 100 ∧ ∀ v ∈ fr, 0 ≤ v ∧ v ≤ 1000
        · exact c2
        · rw [if_neg c2] at H
          cases H
      rw [if_pos c2] at H
      have HL := Aside0.mk c2.1
      have HV := Aside0.mk c2.2
      have A1 := Aside0.mk hfr
      have H' := Aside0.mk H
      clear hfr c2 H
      go_wp2_with fail
      go_at_call 113
      (with_reducible refine (bs_calls k A0 c0 E n fr _ (Kd.C_below HR.out HB.out) HC.out HE.out ⟨hn0, by omega⟩ A1.out).mono ?_)
      rintro e w1 ⟨rfl, hb⟩
      have n0_ := Aside0.mk (below_step HB.out hb)
      clear HB hb
      have HB := n0_
      clear n0_
      have hln : (nums IntKind.i64 fr).length = 100 := by have := HL.out; simp [nums, this]
      have hst : (storeCells (Addr.mk w1.heap.size 0 none) (nums IntKind.i64 fr) 0).run Try.prog (w1.alloc (.cells Try.zeroCells150 150)) = .ok () (w1.alloc (.cells (nums IntKind.i64 fr).toArray 150)) := row_store w1 fr hln
      by_cases c3 : cyO fr n = 0
      · have c3b : (fr[n.toNat]?.getD 0 == 0) = true := by simpa [cyO] using c3
        go_wp2_with fail
        go_roundg (m + 1)
        case measure => have := HN.out; omega
        case rel => exact ⟨n + 1, m, rfl, ⟨by have := HN.out; omega⟩, ⟨by have H := H'.out; rw [if_pos c3] at H; exact H⟩, ⟨(by repeat (first | (with_reducible first|exact HB.out|apply below_alloc|apply pw_below_drewN|apply below_drew1) | exact HB.out))⟩⟩
      · have c3b : (fr[n.toNat]?.getD 0 == 0) = false := by simpa [cyO] using c3
        have H := H'.out
        rw [if_neg c3] at H
        obtain ⟨rfl, rfl⟩ : r1 = n :: goF E fr n ((cyO fr n).toNat - 1) n ∧ r2 = true := by simp at H; first | exact ⟨H.1.symm, H.2.symm⟩ | exact ⟨H.1, H.2⟩ | exact ⟨H.1.symm, H.2⟩ | exact ⟨H.1, H.2.symm⟩
        clear H H'
        have HX : Aside0 (1 ≤ cyO fr n ∧ cyO fr n ≤ 1000) := ⟨by have := cyO_mem HV.out n (by have := HL.out; omega); omega⟩
        have hw8 : wrap64 (cyO fr n - 1) = cyO fr n - 1 := by have := HX.out; unfold wrap64; omega
        go_wp2_with (first | ((with_reducible refine gate_dst (N := 23) rfl ?_); refine Kd.R_lit (Kd.int .i64) _ 3 ?hg (N := 23) ?hd (xs := ([n] : List Int)) (inner := [.int .i64 n]) (ok := fun _ => True) (okp := fun _ => True) ?hr ?hp (fun _ hk => hk) trivial (Below.refl _ _) (Nat.le_refl _) (by simp) ?_; (case hd => rfl); (case hg => rfl); (case hr => first | (go_simp; done) | (go_simp; rfl)); (case hp => exact (Reps.one (show Kd.M (Kd.int .i64) _ _ _ n [.int .i64 n] from rfl) (Reps.none _ _))); intro v6 w4 ho5 hb hg_ hnew_; clear hg_ hnew_; have hgl := Aside0.mk ((hb.block w1.heap.size (lt_alloc _ _)).trans (heap_alloc_last w1 (.cells (nums IntKind.i64 fr).toArray 150))); have hfn := far_at hgl.out HL.out n hn0 (by omega); have n0_ := Aside0.mk (Kd.R_lower ho5 (below_size (by repeat (first | (with_reducible first|exact HB.out|apply below_alloc|apply pw_below_drewN|apply below_drew1) | exact HB.out)))); have n1_ := Aside0.mk (below_step (by repeat (first | (with_reducible first|exact HB.out|apply below_alloc|apply pw_below_drewN|apply below_drew1) | exact HB.out)) hb); clear HB; have HO6 := n0_; have HB := n1_; clear n0_ n1_ hb ho5))
        clear hfn
        go_loopg [6, 7, 8] 1001 (fun kq v6 v7 v8 w' => ∃ (os : List Int) (a : Int) (l : Nat) (lv : Int), v7 = .int .i64 a ∧ v8 = .int .i64 lv ∧ Aside0 (lv = (l : Int) ∧ l + 1 ≤ kq ∧ l ≤ 999 ∧ os.length + l ≤ 1000) ∧ Aside0 (os ++ goF E fr n l a = n :: goF E fr n ((cyO fr n).toNat - 1) n) ∧ Aside0 (Kd.R (Kd.int .i64) 3 w' w.heap.size (fun _ => True) v6 os) ∧ Aside0 (w'.heap[w1.heap.size]? = some (.cells (nums IntKind.i64 fr).toArray 150 (0, 0))) ∧ Aside0 (Below w.heap.size w w'))
        case atStart => exact ⟨[n], n, (cyO fr n).toNat - 1, cyO fr n - 1, rfl, by rw [hw8], ⟨by have := HX.out; simp only [List.length_cons, List.length_nil]; omega⟩, ⟨rfl⟩, HO6, hgl, HB⟩
        case round =>
          clear HO6 HB hgl hw8
          obtain ⟨os, a, l, lv, rfl, rfl, HK, HG, HO6, hgl, HB⟩ := hrel
          cases l with
          | zero =>
            have c4b : decide (lv > 0) = false := decide_eq_false (by have := HK.out.1; omega)
            have c4d : decide (0 < lv) = false := c4b
            go_wp2
            go_ret2
            exact ⟨_, rfl, by have := HG.out; simp only [goF, List.append_nil] at this; rw [← this]; exact HO6.out, (by repeat (first | (with_reducible first|exact HB.out|apply below_alloc|apply pw_below_drewN|apply below_drew1) | exact HB.out))⟩
          | succ l =>
            have c4b : decide (lv > 0) = true := decide_eq_true (by have := HK.out.1; omega)
            have c4d : decide (0 < lv) = true := c4b
            obtain ⟨nx, hnx⟩ : ∃ nx, nx = nextF fr n a lv E 100 := ⟨_, rfl⟩
            have HNX := Aside0.mk hnx
            clear hnx
            go_wp2
            go_loopg [9, 35] (E.length + 1) (fun kq v9 v35 w' => ∃ (m i : Int), v9 = .int .i64 m ∧ v35 = .int .i64 i ∧ Aside0 (0 ≤ i ∧ i + kq = E.length + 1) ∧ Aside0 (nextF fr n a lv (E.drop i.toNat) m = nx) ∧ Aside0 (w' = wr))
            case atStart => exact ⟨100, 0, rfl, rfl, ⟨by omega⟩, ⟨HNX.out.symm⟩, ⟨rfl⟩⟩
            case round =>
              obtain ⟨m, i, rfl, rfl, HI2, HM, HW5⟩ := hrel
              have hw5 := HW5.out
              clear HW5
              subst hw5
              by_cases c5 : i < (E.length : Int)
              · have c5b : decide (i < (E.length : Int)) = true := decide_eq_true c5
                have hi0 : 0 ≤ i := HI2.out.1
                obtain ⟨ad, a1, c1, e1, x0, x1, x2, b1, b2, b3, b4, hdr⟩ := pair_at (Kd.C_below HR.out HB.out) HE.out i hi0 c5
                have HDR := Aside0.mk hdr
                clear hdr
                cases e1
                have hw35 : wrap64 (i + 1) = i + 1 := by have := HI2.out; have := HE.out.1; unfold wrap64; omega
                have hfc := far_at hgl.out HL.out (cyDst (rd_L1 E i)) b3 b4
                have hb4 : cyDst (rd_L1 E i) < 100 := by omega
                have HB2 := Aside0.mk b2
                clear b2 b4
                by_cases s1 : cySrc (rd_L1 E i) = a
                · have s1b : (cySrc (rd_L1 E i) == a) = true := by simpa using s1
                  by_cases s2 : cyDst (rd_L1 E i) = n
                  · have s2b : (cyDst (rd_L1 E i) == n) = true := by simpa using s2
                    have s2c : (cyDst (rd_L1 E i) != n) = false := by simpa using s2
                    have s2d : (decide (cyDst (rd_L1 E i) = n)) = true := by simpa using s2
                    (go_wp2; all_goals (go_roundg (E.length - i.toNat); (case measure => have := HI2.out; omega); (case rel => exact ⟨m, i + 1, by first | rfl | (congr 1; omega), by first | rfl | rw [hw35], ⟨by have := HI2.out; omega⟩, ⟨by have := HM.out; rw [HDR.out] at this; simp only [nextF] at this; rw [if_neg (by simp [s2])] at this; exact this⟩, ⟨rfl⟩⟩)))
                  · have s2b : (cyDst (rd_L1 E i) == n) = false := by simpa using s2
                    have s2c : (cyDst (rd_L1 E i) != n) = true := by simpa using s2
                    have s2d : (decide (cyDst (rd_L1 E i) = n)) = false := by simpa using s2
                    by_cases s3 : cyO fr (cyDst (rd_L1 E i)) = lv
                    · have s3b : (cyO fr (cyDst (rd_L1 E i)) == lv) = true := by simpa using s3
                      (go_wp2; all_goals (go_roundg (E.length - i.toNat); (case measure => have := HI2.out; omega); (case rel => exact ⟨(min m (cyDst (rd_L1 E i))), i + 1, by first | rfl | (congr 1; omega), by first | rfl | rw [hw35], ⟨by have := HI2.out; omega⟩, ⟨by have := HM.out; rw [HDR.out] at this; simp only [nextF] at this; rw [if_pos ⟨s1, s2, s3⟩] at this; exact this⟩, ⟨rfl⟩⟩)))
                    · have s3b : (cyO fr (cyDst (rd_L1 E i)) == lv) = false := by simpa using s3
                      (go_wp2; all_goals (go_roundg (E.length - i.toNat); (case measure => have := HI2.out; omega); (case rel => exact ⟨m, i + 1, by first | rfl | (congr 1; omega), by first | rfl | rw [hw35], ⟨by have := HI2.out; omega⟩, ⟨by have := HM.out; rw [HDR.out] at this; simp only [nextF] at this; rw [if_neg (by simp [s3])] at this; exact this⟩, ⟨rfl⟩⟩)))
                · have s1b : (cySrc (rd_L1 E i) == a) = false := by simpa using s1
                  (go_wp2; all_goals (go_roundg (E.length - i.toNat); (case measure => have := HI2.out; omega); (case rel => exact ⟨m, i + 1, by first | rfl | (congr 1; omega), by first | rfl | rw [hw35], ⟨by have := HI2.out; omega⟩, ⟨by have := HM.out; rw [HDR.out] at this; simp only [nextF] at this; rw [if_neg (by simp [s1])] at this; exact this⟩, ⟨rfl⟩⟩)))
              · have c5b : decide (i < (E.length : Int)) = false := decide_eq_false c5
                have c5c := HI2.out
                obtain rfl : m = nx := by have := HM.out; rw [List.drop_eq_nil_of_le (by omega)] at this; exact this
                clear c5c
                go_wp2_with (first | ((with_reducible refine gate_builtin (b := .append) (xs := #[.tmp 66, .tmp 68]) rfl ?_); at_builtin; go_loud (refine Kd.R_append (Kd.int .i64) (w0 := w) w.heap.size rfl (.tmp 66) (.tmp 68) 22 3 (.int .i64 0) 8 rfl Try.underlying22 info3 rfl (by decide) (by omega) u6 os m [.int .i64 m] (fun _ => True) (fun _ => False) rfl rfl ?aP (fun _ hk => hk.elim) (fun _ _ => trivial) ?aO ?aB ?aS ?aL ?_; (case aP => exact rfl); (case aB => exact (by repeat (first | (with_reducible first|exact HB.out|apply below_alloc|apply pw_below_drewN|apply below_drew1) | exact HB.out))); (case aO => exact (by (with_reducible repeat (first | apply Kd.R_alloc | apply Kd.R_drewN | apply Kd.R_drew)); exact HO6.out)); (case aS => exact (below_size (by repeat (first | (with_reducible first|exact HB.out|apply below_alloc|apply pw_below_drewN|apply below_drew1) | exact HB.out)))); (case aL => have := HK.out; omega); intro v176 w41 ho hb hg hat; have n0_ := Aside0.mk ((hg.block w1.heap.size (lt_of_block hgl.out) (Kd.R_ne HO6.out hgl.out (by decide))).trans hgl.out); clear hgl HO6 HB hg hat; have HO6 := Aside0.mk ho; have HB := Aside0.mk hb; have hgl := n0_; clear n0_ ho hb)))
                have hw9 : wrap64 (lv - 1) = lv - 1 := by have := HK.out; unfold wrap64; omega
                go_roundg (l + 1)
                case measure => have := HK.out; omega
                case rel => exact ⟨os ++ [m], m, l, lv - 1, rfl, by first | rfl | rw [hw9], ⟨by have := HK.out; simp only [List.length_append, List.length_cons, List.length_nil]; omega⟩, ⟨by have h1 := HG.out; have h2 := HNX.out; have h3 := HK.out.1; rw [show lv = ((l : Int) + 1) by omega] at h2; simp only [goF] at h1; rw [← h2] at h1; rw [List.append_assoc]; exact h1⟩, ⟨by (with_reducible repeat (first | apply Kd.R_alloc | apply Kd.R_drewN | apply Kd.R_drew)); exact HO6.out⟩, hgl, ⟨(by repeat (first | (with_reducible first|exact HB.out|apply below_alloc|apply pw_below_drewN|apply below_drew1) | exact HB.out))⟩⟩
theorem bsGo_mono (E : List (List Int)) (goal : Int) : ∀ (k i : Nat) (out qs : List Int), LeO (bsGo E goal k i out qs) (bsGo E goal (k + 1) i out qs)
  | 0, _, _, _ => fun _ h => by simp [bsGo] at h
  | k + 1, i, out, qs => by
    unfold bsGo
    exact LeO.ite (LeO.ite (bsGo_mono E goal k _ _ _) (LeO.refl _)) (LeO.refl _)
theorem cyGo_mono (E : List (List Int)) (k : Nat) : ∀ (m : Nat) (n : Int), LeO (cyGo E k m n) (cyGo E (k + 1) m n)
  | 0, _ => LeO.refl _
  | m + 1, n => fun r h => by
    unfold cyGo at h ⊢
    cases hq : bsGo E n k 0 (List.replicate 100 0) [n] with
    | none => rw [hq] at h; cases h
    | some fr =>
      rw [bsGo_mono E n k 0 _ _ fr hq]
      rw [hq] at h
      simp only at h ⊢
      by_cases c1 : fr.length = 100 ∧ ∀ v ∈ fr, 0 ≤ v ∧ v ≤ 1000
      · rw [if_pos c1] at h ⊢
        by_cases c2 : cyO fr n = 0
        · rw [if_pos c2] at h ⊢
          exact cyGo_mono E k m (n + 1) r h
        · rw [if_neg c2] at h ⊢
          exact h
      · rw [if_neg c1] at h
        cases h
end CyH
def impl_cycle.f (k : Nat) (l0 : List (List Int)) : Option (List Int × Bool) := if CyH.cyGood l0 then (CyH.cyGo l0 k 100 0) else none
theorem impl_cycle.mono : ∀ a0 k, LeO (impl_cycle.f k a0) (impl_cycle.f (k + 1) a0) := by
  intro a0 k
  unfold impl_cycle.f
  exact LeO.ite (CyH.cyGo_mono a0 k 100 0) (LeO.refl _)
theorem impl_cycle.calls (k : Nat) (A0 : Option Addr) (c0 : Nat) (l0 : List (List Int)) (r1 : List Int) (r2 : Bool) (w : World) (hr0 : Kd.C (Kd.slice 3 (Kd.int .i64)) w A0 l0.length l0) (hc0 : l0.length ≤ c0) (h : impl_cycle.f k l0 = some (r1, r2)) :
    Calls Try.prog 69 #[.slice A0 l0.length c0] w fun e w' => ∃ v0_ : Value, e = .returned (.tuple #[v0_, .bool r2]) ∧ Kd.R (Kd.int .i64) 3 w' w.heap.size (fun _ => True) v0_ r1 ∧ Below w.heap.size w w' := by
  unfold impl_cycle.f at h
  by_cases c1 : CyH.cyGood l0
  · rw [if_pos c1] at h
    exact CyH.cy_calls k A0 c0 l0 r1 r2 w hr0 hc0 c1 h
  · rw [if_neg c1] at h
    cases h

/-! ### impl_in: function 60 -/
def impl_in.f (a0 : Int) (a1 : Int) (a2 : Int) : Option (Bool) := if a1 ≤ a0 then (some (decide (a0 ≤ a2))) else (some false)
set_option maxHeartbeats 8000000 in
set_option maxRecDepth 100000 in
theorem impl_in.calls (a0 : Int) (a1 : Int) (a2 : Int) (r : Bool) (w : World) (h : impl_in.f a0 a1 a2 = some r) :
    Calls Try.prog 60 #[.int .i64 a0, .int .i64 a1, .int .i64 a2] w fun e w' => e = .returned (.bool r) ∧ Drawn0 w w' := by
  have H : (if a1 ≤ a0 then (some (decide (a0 ≤ a2))) else (some false)) = some r := h
  clear h
  by_cases c4 : a1 ≤ a0
  · rw [if_pos c4] at H
    have c4b0 : decide (a1 ≤ a0) = true := decide_eq_true c4
    clear c4
    obtain rfl := Option.some.inj H
    go_enter Try.func60, Try.ntmps60
    go_wp2
    go_ret
    exact ⟨by first | rfl | (simp; done) | (simp [*]; done), by repeat (first | exact Drawn0.refl _ | apply Drawn0.step)⟩
  · rw [if_neg c4] at H
    have c4b0 : decide (a1 ≤ a0) = false := decide_eq_false c4
    clear c4
    obtain rfl := Option.some.inj H
    go_enter Try.func60, Try.ntmps60
    go_wp2
    go_ret
    exact ⟨by first | rfl | (simp; done) | (simp [*]; done), by repeat (first | exact Drawn0.refl _ | apply Drawn0.step)⟩

end Go.Proofs.Ytpfbiopcfbokbaa.GCycleIn

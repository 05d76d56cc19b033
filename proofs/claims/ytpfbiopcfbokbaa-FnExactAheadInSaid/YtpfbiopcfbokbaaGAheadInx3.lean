-- Printed by wip/tools/print2.py out of the translation: walks and plain functions; Lean checks them.
import Derived.Test.YtpfbiopcfbokbaaGAheadInx0
import Derived.Test.YtpfbiopcfbokbaaGAheadInx2
namespace Go.Proofs.Ytpfbiopcfbokbaa.GAheadIn
open Go.RowKit Go.Proofs.YtpfbiopcfbokbaaW.PrintWords Go.Proofs.YtpfbiopcfbokbaaW.PrintLast Go.Proofs.YtpfbiopcfbokbaaW.PrintMore
attribute [local go_sem] max2_int min2_int max_two min_two max_three min_three max_four min_four   -- for this text's walks alone
set_option linter.unusedVariables false
set_option linter.unusedSimpArgs false

/-! ### spec_l6Ahead: function 84 -/
mutual
def spec_l6Ahead.l0 : Nat → List (S118) → List (List Bool) → Int → Int → Option ((List (List Bool)))
  | 0, _, _, _, _ => none
  | k + 1, x0, x3, x12, x13 => if x13 < x12 then (if 0 ≤ (x0.length : Int) then (if ((x0.length : Int) : Int).toNat ≤ 281474976710656 then (if 0 ≤ x13 then (if x13 < (x3.length : Int) then (spec_l6Ahead.l1 k x0 (x3.set (x13 : Int).toNat (List.replicate ((x0.length : Int) : Int).toNat false)) x13 0 x12 x13) else (none)) else (none)) else (none)) else (none)) else (some x3)
def spec_l6Ahead.l1 : Nat → List (S118) → List (List Bool) → Int → Int → Int → Int → Option ((List (List Bool)))
  | 0, _, _, _, _, _, _ => none
  | k + 1, x0, x3, x4, x5, x12, x13 => if x5 < x4 then (if 0 ≤ x5 then (if x5 < (x0.length : Int) then (if 0 ≤ x4 then (if x4 < (x0.length : Int) then ((spec_l6Right.f k ((rd_T118 x0 x5).f0) ((rd_T118 x0 x5).f1) ((rd_T118 x0 x5).f2) ((rd_T118 x0 x5).f3) ((rd_T118 x0 x5).f4) ((rd_T118 x0 x4).f0) ((rd_T118 x0 x4).f1) ((rd_T118 x0 x4).f2) ((rd_T118 x0 x4).f3) ((rd_T118 x0 x4).f4)).bind fun t126 => (if t126 = true then (if x4 < (x3.length : Int) then (if x5 < ((rd_L4 x3 x4).length : Int) then ((some (x3.set (x4 : Int).toNat ((rd_L4 x3 x4).set (x5 : Int).toNat true) : List (List Bool))).bind fun y130 => (if x5 < (x3.length : Int) then (spec_l6Ahead.l2 k x0 y130 x4 x5 x12 x13 (rd_L4 y130 x5) ((rd_L4 y130 x5).length : Int) 0) else (none))) else (none)) else (none)) else (spec_l6Ahead.l1 k x0 x3 x4 (wrap64 (x5 + 1)) x12 x13))) else (none)) else (none)) else (none)) else (none)) else (spec_l6Ahead.l0 k x0 x3 x12 (wrap64 (x13 + 1)))
def spec_l6Ahead.l2 : Nat → List (S118) → List (List Bool) → Int → Int → Int → Int → List Bool → Int → Int → Option ((List (List Bool)))
  | 0, _, _, _, _, _, _, _, _, _ => none
  | k + 1, x0, x3, x4, x5, x12, x13, x46, x47, x48 => if x48 < x47 then (if 0 ≤ x5 then (if x5 < (x3.length : Int) then (if rd_L4 x3 x5 = x46 then (if 0 ≤ x48 then (if x48 < (x46.length : Int) then (if 0 ≤ x4 then (if x4 < (x3.length : Int) then (if x48 < ((rd_L4 x3 x4).length : Int) then (if rdOf false (rd_L4 x3 x4) x48 = true then (spec_l6Ahead.l2 k x0 (x3.set (x4 : Int).toNat ((rd_L4 x3 x4).set (x48 : Int).toNat true)) x4 x5 x12 x13 x46 x47 (wrap64 (x48 + 1))) else (spec_l6Ahead.l2 k x0 (x3.set (x4 : Int).toNat ((rd_L4 x3 x4).set (x48 : Int).toNat (rdOf false x46 x48))) x4 x5 x12 x13 x46 x47 (wrap64 (x48 + 1)))) else (none)) else (none)) else (none)) else (none)) else (none)) else (none)) else (none)) else (none)) else (spec_l6Ahead.l1 k x0 x3 x4 (wrap64 (x5 + 1)) x12 x13)
end
def spec_l6Ahead.f (k : Nat) (l0 : List (S118)) : Option ((List (List Bool))) := if 0 ≤ (l0.length : Int) then (if ((l0.length : Int) : Int).toNat ≤ 11728124029610 then (spec_l6Ahead.l0 k l0 (List.replicate ((l0.length : Int) : Int).toNat []) (l0.length : Int) 0) else (none)) else (none)
theorem spec_l6Ahead.mono_l : ∀ k, (∀ y0 y1 y2 y3, LeO (spec_l6Ahead.l0 k y0 y1 y2 y3) (spec_l6Ahead.l0 (k + 1) y0 y1 y2 y3)) ∧ (∀ y0 y1 y2 y3 y4 y5, LeO (spec_l6Ahead.l1 k y0 y1 y2 y3 y4 y5) (spec_l6Ahead.l1 (k + 1) y0 y1 y2 y3 y4 y5)) ∧ (∀ y0 y1 y2 y3 y4 y5 y6 y7 y8, LeO (spec_l6Ahead.l2 k y0 y1 y2 y3 y4 y5 y6 y7 y8) (spec_l6Ahead.l2 (k + 1) y0 y1 y2 y3 y4 y5 y6 y7 y8))
  | 0 => ⟨fun _ _ _ _ r h => by simp [spec_l6Ahead.l0] at h, fun _ _ _ _ _ _ r h => by simp [spec_l6Ahead.l1] at h, fun _ _ _ _ _ _ _ _ _ r h => by simp [spec_l6Ahead.l2] at h⟩
  | k + 1 => by
    obtain ⟨ih0, ih1, ih2⟩ := spec_l6Ahead.mono_l k
    refine ⟨?_, ?_, ?_⟩
    · intro y0 y1 y2 y3
      unfold spec_l6Ahead.l0
      repeat' first
      | (with_reducible exact ih0 _ _ _ _)
      | (with_reducible exact ih1 _ _ _ _ _ _)
      | (with_reducible exact ih2 _ _ _ _ _ _ _ _ _)
      | (with_reducible exact spec_l6Right.mono _ _ _ _ _ _ _ _ _ _ _)
      | (with_reducible exact LeO.refl _)
      | (with_reducible exact LeO.none _)
      | (with_reducible refine LeO.ite ?_ ?_)
      | (with_reducible refine LeO.bind ?_ (fun _ => ?_))
      | exact ih0 _ _ _ _
      | exact ih1 _ _ _ _ _ _
      | exact ih2 _ _ _ _ _ _ _ _ _
      | exact spec_l6Right.mono _ _ _ _ _ _ _ _ _ _ _
      | exact LeO.none _
      | refine LeO.ite ?_ ?_
      | refine LeO.bind ?_ (fun _ => ?_)
    · intro y0 y1 y2 y3 y4 y5
      unfold spec_l6Ahead.l1
      repeat' first
      | (with_reducible exact ih0 _ _ _ _)
      | (with_reducible exact ih1 _ _ _ _ _ _)
      | (with_reducible exact ih2 _ _ _ _ _ _ _ _ _)
      | (with_reducible exact spec_l6Right.mono _ _ _ _ _ _ _ _ _ _ _)
      | (with_reducible exact LeO.refl _)
      | (with_reducible exact LeO.none _)
      | (with_reducible refine LeO.ite ?_ ?_)
      | (with_reducible refine LeO.bind ?_ (fun _ => ?_))
      | exact ih0 _ _ _ _
      | exact ih1 _ _ _ _ _ _
      | exact ih2 _ _ _ _ _ _ _ _ _
      | exact spec_l6Right.mono _ _ _ _ _ _ _ _ _ _ _
      | exact LeO.none _
      | refine LeO.ite ?_ ?_
      | refine LeO.bind ?_ (fun _ => ?_)
    · intro y0 y1 y2 y3 y4 y5 y6 y7 y8
      unfold spec_l6Ahead.l2
      repeat' first
      | (with_reducible exact ih0 _ _ _ _)
      | (with_reducible exact ih1 _ _ _ _ _ _)
      | (with_reducible exact ih2 _ _ _ _ _ _ _ _ _)
      | (with_reducible exact spec_l6Right.mono _ _ _ _ _ _ _ _ _ _ _)
      | (with_reducible exact LeO.refl _)
      | (with_reducible exact LeO.none _)
      | (with_reducible refine LeO.ite ?_ ?_)
      | (with_reducible refine LeO.bind ?_ (fun _ => ?_))
      | exact ih0 _ _ _ _
      | exact ih1 _ _ _ _ _ _
      | exact ih2 _ _ _ _ _ _ _ _ _
      | exact spec_l6Right.mono _ _ _ _ _ _ _ _ _ _ _
      | exact LeO.none _
      | refine LeO.ite ?_ ?_
      | refine LeO.bind ?_ (fun _ => ?_)
theorem spec_l6Ahead.mono : ∀ a0 k, LeO (spec_l6Ahead.f k a0) (spec_l6Ahead.f (k + 1) a0) := by
  intro a0 k
  obtain ⟨ih0, ih1, ih2⟩ := spec_l6Ahead.mono_l k
  unfold spec_l6Ahead.f
  repeat' first
      | (with_reducible exact ih0 _ _ _ _)
      | (with_reducible exact ih1 _ _ _ _ _ _)
      | (with_reducible exact ih2 _ _ _ _ _ _ _ _ _)
      | (with_reducible exact spec_l6Right.mono _ _ _ _ _ _ _ _ _ _ _)
      | (with_reducible exact LeO.refl _)
      | (with_reducible exact LeO.none _)
      | (with_reducible refine LeO.ite ?_ ?_)
      | (with_reducible refine LeO.bind ?_ (fun _ => ?_))
      | exact ih0 _ _ _ _
      | exact ih1 _ _ _ _ _ _
      | exact ih2 _ _ _ _ _ _ _ _ _
      | exact spec_l6Right.mono _ _ _ _ _ _ _ _ _ _ _
      | exact LeO.none _
      | refine LeO.ite ?_ ?_
      | refine LeO.bind ?_ (fun _ => ?_)
def spec_l6Ahead.T9 : Bool × List (List Nat × List Nat) := (true, [([], []), ([], []), ([0, 1], [0, 1]), ([2], [2]), ([], []), ([], []), ([4, 5], [4, 5]), ([6], [6]), ([3, 7], [3, 7]), ([8], [8])])
def spec_l6Ahead.B9 : List Nat := [0, 0, 3, 7, 0, 0, 48, 112, 255, 511]
theorem spec_l6Ahead.tab9 : rtab .any (opsOf Try.f84 9) = spec_l6Ahead.T9 := by kernel_rfl
theorem spec_l6Ahead.bits9 : waitsOk spec_l6Ahead.T9.2 spec_l6Ahead.B9 = true := by kernel_rfl
def spec_l6Ahead.T14 : Bool × List (List Nat × List Nat) := (true, [([], []), ([], []), ([0, 1], [0, 1]), ([2], [2]), ([], []), ([], []), ([], []), ([5, 6], [5, 6]), ([7], [7]), ([], []), ([8, 9], [8, 9]), ([10], [10]), ([11], [11]), ([12], [12]), ([12, 13], [12, 13]), ([3, 4, 0, 1, 2, 3, 4, 5, 6, 7, 8, 9, 10, 11, 12, 13, 14], [3, 4]), ([15, 14, 12, 0, 1, 2, 3, 4, 5, 6, 7, 8, 9, 10, 11, 12, 13, 14], [14, 15])])
def spec_l6Ahead.B14 : List Nat := [0, 0, 3, 7, 0, 0, 0, 96, 224, 0, 992, 2016, 4064, 8160, 16352, 32767, 65535]
theorem spec_l6Ahead.tab14 : rtab .any (opsOf Try.f84 14) = spec_l6Ahead.T14 := by kernel_rfl
theorem spec_l6Ahead.bits14 : waitsOk spec_l6Ahead.T14.2 spec_l6Ahead.B14 = true := by kernel_rfl
set_option maxHeartbeats 8000000 in
set_option maxRecDepth 100000 in
theorem spec_l6Ahead.calls (k : Nat) (A0 : Option Addr) (c0 : Nat) (l0 : List (S118)) (r : List (List Bool)) (w : World) (hr0 : Kd.C k118 w A0 l0.length l0) (hc0 : l0.length ≤ c0) (h : spec_l6Ahead.f k l0 = some r) :
    Calls Try.prog 84 #[.slice A0 l0.length c0] w fun e w' => ∃ v0_ : Value, e = .returned (v0_) ∧ Kd.S (Kd.slice 4 Kd.bool) 114 w' w.heap.size (fun _ => True) v0_ r ∧ Below w.heap.size w w' := by
  have hu118 := Try.underlying118
  have HR0 := Aside0.mk hr0
  have HC0 := Aside0.mk hc0
  clear hr0 hc0
  have HB := Aside0.mk (Below.refl w.heap.size w)
  have H : (if 0 ≤ (l0.length : Int) then (if ((l0.length : Int) : Int).toNat ≤ 11728124029610 then (spec_l6Ahead.l0 k l0 (List.replicate ((l0.length : Int) : Int).toNat []) (l0.length : Int) 0) else (none)) else (none)) = some r := h
  clear h
  by_cases c2 : 0 ≤ (l0.length : Int)
  · rw [if_pos c2] at H
    have c2b0 := eq_true c2
    have c2b1 : decide (0 ≤ (l0.length : Int)) = true := decide_eq_true c2
    clear c2
    by_cases c3 : ((l0.length : Int) : Int).toNat ≤ 11728124029610
    · rw [if_pos c3] at H
      have c3b0 := eq_true c3
      have c3b1 : decide (((l0.length : Int) : Int).toNat ≤ 11728124029610) = true := decide_eq_true c3
      clear c3
      obtain ⟨y117, hy117⟩ : ∃ y_ : List (List Bool), y_ = (List.replicate ((l0.length : Int) : Int).toNat []) := ⟨_, rfl⟩
      replace H : (spec_l6Ahead.l0 k l0 y117 (l0.length : Int) 0) = some r := by first | (rw [hy117]; with_reducible exact H) | (have H2_ := (Option.bind_some _ _).symm.trans H; rw [hy117]; with_reducible exact H2_) | (have H2_ := (Option.bind_some _ _).symm.trans H; with_reducible exact H2_) | with_reducible exact H | (rw [hy117]; exact H) | exact H
      have Ny117 := Aside0.mk hy117
      clear hy117
      have H' := Aside0.mk H
      clear H
      go_enter Try.func84, Try.ntmps84
      go_wp2_with (first | ((with_reducible refine gate_dst (N := 10) rfl ?_); refine Kd.S_make (Kd.slice 4 Kd.bool) _ 114 rfl (N := 10) rfl 115 _ _ rfl (l0.length : Int) rfl rfl Try.underlying115 (.slice none 0 0) 24 info114 rfl (by decide) (by omega) [] (ok := fun _ => True) (okp := fun _ => True) ⟨_, rfl, Kd.R_nil _ _ _ _ _⟩ (fun _ hk => hk) trivial (of_decide_eq_true (by first | (with_reducible assumption) | assumption)) (Nat.le_trans (Nat.mul_le_mul_right _ (of_decide_eq_true (by first | (with_reducible assumption) | assumption) : (l0.length : Int).toNat ≤ 11728124029610)) (by omega)) (Below.refl _ _) (Nat.le_refl _) ?_; intro v118 w4 ho5 hb hg_ hnew_; clear hg_ hnew_; (first | rw [← Ny117.out] at ho5 | (simp only [Int.reduceToNat] at ho5; rw [← Ny117.out] at ho5)); have n0_ := Aside0.mk (Kd.S_lower ho5 (below_size (by repeat (first | (with_reducible first|exact HB.out|apply vA_|apply vN_|apply vD_) | exact HB.out)))); have n1_ := Aside0.mk (below_step (by repeat (first | (with_reducible first|exact HB.out|apply vA_|apply vN_|apply vD_) | exact HB.out)) hb); clear HB; have HO119 := n0_; have HB := n1_; clear n0_ n1_; clear hb ho5))
      go_loopg [13] k (fun kq v13 w' => ∃ (x3_1 : List (List Bool)) (x13_1 : Int), v13 = .int .i64 x13_1 ∧ Aside0 (spec_l6Ahead.l0 kq l0 x3_1 (l0.length : Int) x13_1 = some r) ∧ Aside0 (kq ≤ k) ∧ Aside0 (Kd.S (Kd.slice 4 Kd.bool) 114 w' w.heap.size (fun _ => True) v118 x3_1) ∧ Aside0 (Below w.heap.size w w'))
      case atStart => exact ⟨(y117), (0), (by first | rfl | (simp; done) | (simp [*]; done)), H', ⟨Nat.le_refl _⟩, ⟨by (with_reducible repeat first|apply sA_|apply sN_|apply sD_); exact HO119.out⟩, ⟨by repeat (first | (with_reducible first|exact HB.out|apply vA_|apply vN_|apply vD_) | exact HB.out)⟩⟩
      case round =>
        clear H'
        try clear c2
        try clear c2b0
        try clear c2b1
        try clear p2
        try clear c3
        try clear c3b0
        try clear c3b1
        obtain ⟨x3_1, x13_1, rfl, HA, HK1, HO_3, HB⟩ := hrel
        cases gk with
        | zero => exact absurd HA.out (by simp [spec_l6Ahead.l0])
        | succ k1 =>
          have H := HA.out
          clear HA
          simp only [spec_l6Ahead.l0] at H
          by_cases c6 : x13_1 < (l0.length : Int)
          · rw [if_pos c6] at H
            have c6b0 : decide (x13_1 < (l0.length : Int)) = true := decide_eq_true c6
            clear c6
            by_cases c7 : 0 ≤ (l0.length : Int)
            · rw [if_pos c7] at H
              have c7b0 := eq_true c7
              have c7b1 : decide (0 ≤ (l0.length : Int)) = true := decide_eq_true c7
              clear c7
              by_cases c8 : ((l0.length : Int) : Int).toNat ≤ 281474976710656
              · rw [if_pos c8] at H
                have c8b0 := eq_true c8
                have c8b1 : decide (((l0.length : Int) : Int).toNat ≤ 281474976710656) = true := decide_eq_true c8
                clear c8
                obtain ⟨y120, hy120⟩ : ∃ y_ : List Bool, y_ = (List.replicate ((l0.length : Int) : Int).toNat false) := ⟨_, rfl⟩
                replace H : (if 0 ≤ x13_1 then (if x13_1 < (x3_1.length : Int) then (spec_l6Ahead.l1 k1 l0 (x3_1.set (x13_1 : Int).toNat y120) x13_1 0 (l0.length : Int) x13_1) else (none)) else (none)) = some r := by first | (rw [hy120]; with_reducible exact H) | (have H2_ := (Option.bind_some _ _).symm.trans H; rw [hy120]; with_reducible exact H2_) | (have H2_ := (Option.bind_some _ _).symm.trans H; with_reducible exact H2_) | with_reducible exact H | (rw [hy120]; exact H) | exact H
                have Ny120 := Aside0.mk hy120
                clear hy120
                by_cases c9 : 0 ≤ x13_1
                · rw [if_pos c9] at H
                  have c9b0 : decide (0 ≤ x13_1) = true := decide_eq_true c9
                  clear c9
                  by_cases c10 : x13_1 < (x3_1.length : Int)
                  · rw [if_pos c10] at H
                    have c10b0 : decide (x13_1 < (x3_1.length : Int)) = true := decide_eq_true c10
                    clear c10
                    obtain ⟨y123, hy123⟩ : ∃ y_ : List (List Bool), y_ = (x3_1.set (x13_1 : Int).toNat y120) := ⟨_, rfl⟩
                    replace H : (spec_l6Ahead.l1 k1 l0 y123 x13_1 0 (l0.length : Int) x13_1) = some r := by first | (rw [hy123]; with_reducible exact H) | (have H2_ := (Option.bind_some _ _).symm.trans H; rw [hy123]; with_reducible exact H2_) | (have H2_ := (Option.bind_some _ _).symm.trans H; with_reducible exact H2_) | with_reducible exact H | (rw [hy123]; exact H) | exact H
                    have Ny123 := Aside0.mk hy123
                    clear hy123
                    have H' := Aside0.mk H
                    clear H
                    go_wp2_with (first | ((with_reducible refine gate_dst (N := 20) rfl ?_); refine Kd.R_make Kd.bool _ 4 rfl (N := 20) rfl 114 _ _ rfl (l0.length : Int) rfl rfl Try.underlying114 (.bool false) 1 info4 rfl (by decide) (by omega) false (ok := fun _ => True) (okp := fun _ => True) rfl (fun _ hk => hk) trivial (of_decide_eq_true (by first | (with_reducible assumption) | assumption)) (Nat.le_trans (Nat.mul_le_mul_right _ (of_decide_eq_true (by first | (with_reducible assumption) | assumption) : (l0.length : Int).toNat ≤ 281474976710656)) (by omega)) (Below.refl _ _) (Nat.le_refl _) ?_; intro v121 w12 ho13 hb hg_ hnew_; clear hg_ hnew_; (first | rw [← Ny120.out] at ho13 | (simp only [Int.reduceToNat] at ho13; rw [← Ny120.out] at ho13)); have n0_ := Aside0.mk (Kd.S_elder' (by (with_reducible repeat first|apply sA_|apply sN_|apply sD_); exact HO_3.out) (by first | exact Kd.R_base ho13 | exact Kd.S_base ho13 | exact Kd.R_base ho13) hb); have n1_ := Aside0.mk (Kd.R_lower ho13 (below_size (by repeat (first | (with_reducible first|exact HB.out|apply vA_|apply vN_|apply vD_) | exact HB.out)))); have n2_ := Aside0.mk (below_step (by repeat (first | (with_reducible first|exact HB.out|apply vA_|apply vN_|apply vD_) | exact HB.out)) hb); clear HO_3; clear HB; have HO_3 := n0_; have HO122 := n1_; have HB := n2_; clear n0_ n1_ n2_; clear hb ho13; have p11 : 0 ≤ (x13_1 : Int) := of_decide_eq_true (by first | (with_reducible assumption) | assumption); have q11 : (x13_1 : Int) < ((x3_1.length : Int) : Int) := of_decide_eq_true (by first | (with_reducible assumption) | assumption); obtain ⟨go11, co11, eo11, gb11, gl11, cl11, HG11⟩ := Kd.S_form HO_3.out (by omega); (first | cases eo11 | (injection eo11 with ea_ en_ ec_; (first | subst ea_ | (injection ea_ with ea_; subst ea_)); subst ec_; clear en_)); have GB11 := Aside0.mk gb11; have GG11 := Aside0.mk HG11; clear gb11 gl11 HG11; obtain ⟨_, ce11, hcl11, hM11, hcc11, hfr11, _, _⟩ := Kd.S_elem HO_3.out [] (x13_1 : Int) p11 q11; obtain ⟨ve11_0, rfl, ge11_0⟩ := hM11; have hx11_0 := hcc11 0 _ rfl; have hf11_0 := hfr11 0; (try simp only [show ((Kd.slice 4 Kd.bool)).sz = 1 from rfl, Nat.mul_one, Nat.add_zero] at hx11_0); (try simp only [show ((Kd.slice 4 Kd.bool)).sz = 1 from rfl, Nat.mul_one, Nat.add_zero] at hf11_0); clear hcl11 hcc11 hfr11; (try clear hM11); replace p11 := eq_true p11; replace q11 := eq_true q11; have n_ := Aside0.mk (Kd.S_mono (ok' := (fun k_ => some k_ ≠ (v121 : Value).ownBlock)) HO_3.out (fun k_ hk => hk.2)); clear HO_3; have HO_3 := n_; clear n_; have HX14 := Aside0.mk (show Kd.S (Kd.slice 4 Kd.bool) 114 w12 w.heap.size (fun k_ => ((fun _ => True)) k_ ∧ ¬ ((fun k_ => some k_ = (v121 : Value).ownBlock)) k_) (.slice (some ⟨go11, 0, none⟩) x3_1.length co11) x3_1 from (by (with_reducible repeat first|apply sA_|apply sN_|apply sD_); exact Kd.S_mono HO_3.out (fun k_ hk => ⟨trivial, fun e_ => hk e_⟩))); obtain ⟨oki14, ce14, hcl14, hM14, hcc14, hfr14, hoki14, hH14⟩ := Kd.S_elem HX14.out [] (x13_1 : Int) (of_decide_eq_true (by first | (with_reducible assumption) | assumption)) (by have h_ : (x13_1 : Int) < ((x3_1.length : Int) : Int) := of_decide_eq_true (by first | (with_reducible assumption) | assumption); first | exact h_ | (have e_ := (Kd.S_reads' HO_3.out).1; omega) | simpa using h_); obtain ⟨ve14_0, rfl, ge14_0⟩ := hM14; have HP14 := Kd.S_seg hH14 (of_decide_eq_true (by first | (with_reducible assumption) | assumption)) (by have h_ : (x13_1 : Int) < ((x3_1.length : Int) : Int) := of_decide_eq_true (by first | (with_reducible assumption) | assumption); first | exact h_ | (have e_ := (Kd.S_reads' HO_3.out).1; omega) | simpa using h_) (seg := [v121]) (j := 0) (show 1 ≤ 1 from by decide) (x' := y120) (Kd.M_row (Kd.R_mono (Kd.R_tight rfl (Kd.R_mono (ok' := fun k_ => ((fun _ => True)) k_ ∧ k_ ≠ go11) (Kd.R_apart' (HO122.out) (Kd.S_typed HO_3.out) (by decide)) (fun k_ hk => ⟨trivial, fun e_ => (hk.2) (by rw [e_]; rfl)⟩))) (fun _ h_ => Or.inr (h_)))) (fun _ hk => hk) (fun k_ hk_ => ((Kd.R_mono (ok' := fun k_ => ((fun _ => True)) k_ ∧ k_ ≠ go11) (Kd.R_apart' (HO122.out) (Kd.S_typed HO_3.out) (by decide)) (fun k_ hk => ⟨trivial, fun e_ => (hk.2) (by rw [e_]; rfl)⟩))).1 k_ hk_.symm); have hx14_0 := hcc14 0 _ rfl; (try simp only [show ((Kd.slice 4 Kd.bool)).sz = 1 from rfl, Nat.mul_one, Nat.add_zero] at hx14_0); have hf14_0 := hfr14 0; (try simp only [show ((Kd.slice 4 Kd.bool)).sz = 1 from rfl, Nat.mul_one, Nat.add_zero] at hf14_0); clear hcl14 hcc14 hfr14 hoki14 hH14; (try clear hM14); (try simp only [show ((Kd.slice 4 Kd.bool)).sz = 1 from rfl, Nat.mul_one, Nat.add_zero] at HP14)) | ((with_reducible refine gate_store (t := 114) (p := 21) rfl ?_); refine store_event (t := 114) (p := 21) (v := ?vo_w15) (w1 := (w12.setCell ⟨go11, (x13_1 : Int).toNat, none⟩ (v121))) ?hg ?ho ?hn ?hr ?_; (case ho => rfl); (case hg => rfl); (case hn => rfl); (case hr => first | (go_simp; done) | (go_simp; rfl) | (obtain ⟨Ax_, cx_, ex_⟩ := Kd.R_slice HO122.out; rw [ex_]; first | (go_simp; done) | (go_simp; rfl))); intro w15 hw; have hg : w12.grownBy w15 (some go11) := (by rw [hw]; exact HP14.2); have hp_ : Kd.S (Kd.slice 4 Kd.bool) 114 w15 w.heap.size (fun _ => True) (.slice (some ⟨go11, 0, none⟩) x3_1.length co11) y123 := (by rw [hw, Ny123.out]; exact HP14.1); clear HP14; have n0_ := Aside0.mk (hp_); have n1_ := Aside0.mk ((by rw [hw]; exact below_set (HB.out) GB11.out : Below w.heap.size w w15)); clear HO_3; clear HB; clear HO122; have HO_3 := n0_; have HB := n1_; clear n0_ n1_; clear hg hw hp_))
                    go_loopg [5] k1 (fun kq v5 w' => ∃ (x3_2 : List (List Bool)) (x5_2 : Int), v5 = .int .i64 x5_2 ∧ Aside0 (spec_l6Ahead.l1 kq l0 x3_2 x13_1 x5_2 (l0.length : Int) x13_1 = some r) ∧ Aside0 (kq ≤ k1) ∧ Aside0 (Kd.S (Kd.slice 4 Kd.bool) 114 w' w.heap.size (fun _ => True) (.slice (some ⟨go11, 0, none⟩) x3_1.length co11) x3_2) ∧ Aside0 (Below w.heap.size w w'))
                    case atStart => exact ⟨(y123), (0), (by first | rfl | (simp; done) | (simp [*]; done)), H', ⟨Nat.le_refl _⟩, ⟨by (with_reducible repeat first|apply sA_|apply sN_|apply sD_); exact HO_3.out⟩, ⟨by repeat (first | (with_reducible first|exact HB.out|apply vA_|apply vN_|apply vD_) | exact HB.out)⟩⟩
                    case round =>
                      clear H'
                      try clear c1
                      try clear p1
                      try clear q1
                      try clear hx1
                      try clear hf1
                      try clear c2
                      try clear c2b0
                      try clear c2b1
                      try clear p2
                      try clear c3
                      try clear c3b0
                      try clear c3b1
                      try clear c6
                      try clear c6b0
                      try clear c7
                      try clear c7b0
                      try clear c7b1
                      try clear c8
                      try clear c8b0
                      try clear c8b1
                      try clear c9
                      try clear c9b0
                      try clear c10
                      try clear c10b0
                      try clear c11
                      try clear p11
                      try clear q11
                      try clear hx11
                      try clear hf11
                      try clear c14
                      try clear hx14
                      try clear hf14
                      try clear hx11_0
                      try clear hx14_0
                      try clear p11
                      try clear p2
                      try clear q11
                      obtain ⟨x3_2, x5_2, rfl, HA, HK2, HO_3, HB⟩ := hrel
                      have hl3_2 := (Kd.S_reads' HO_3.out).1
                      rw [hl3_2] at HO_3
                      (try simp only [hl3_2])
                      cases gk with
                      | zero => exact absurd HA.out (by simp [spec_l6Ahead.l1])
                      | succ k2 =>
                        have H := HA.out
                        clear HA
                        simp only [spec_l6Ahead.l1] at H
                        by_cases c16 : x5_2 < x13_1
                        · rw [if_pos c16] at H
                          have c16b0 : decide (x5_2 < x13_1) = true := decide_eq_true c16
                          clear c16
                          by_cases c17 : 0 ≤ x5_2
                          · rw [if_pos c17] at H
                            have c17b0 : decide (0 ≤ x5_2) = true := decide_eq_true c17
                            clear c17
                            by_cases c18 : x5_2 < (l0.length : Int)
                            · rw [if_pos c18] at H
                              have c18b0 : decide (x5_2 < (l0.length : Int)) = true := decide_eq_true c18
                              clear c18
                              by_cases c19 : 0 ≤ x13_1
                              · rw [if_pos c19] at H
                                have c19b0 : decide (0 ≤ x13_1) = true := decide_eq_true c19
                                clear c19
                                by_cases c20 : x13_1 < (l0.length : Int)
                                · rw [if_pos c20] at H
                                  have c20b0 : decide (x13_1 < (l0.length : Int)) = true := decide_eq_true c20
                                  clear c20
                                  replace H := Option.bind_eq_some_iff.mp H
                                  obtain ⟨t126, A210, H⟩ := H
                                  replace H : (if t126 = true then (if x13_1 < (x3_2.length : Int) then (if x5_2 < ((rd_L4 x3_2 x13_1).length : Int) then ((some (x3_2.set (x13_1 : Int).toNat ((rd_L4 x3_2 x13_1).set (x5_2 : Int).toNat true) : List (List Bool))).bind fun y130 => (if x5_2 < (x3_2.length : Int) then (spec_l6Ahead.l2 k2 l0 y130 x13_1 x5_2 (l0.length : Int) x13_1 (rd_L4 y130 x5_2) ((rd_L4 y130 x5_2).length : Int) 0) else (none))) else (none)) else (none)) else (spec_l6Ahead.l1 k2 l0 x3_2 x13_1 (wrap64 (x5_2 + 1)) (l0.length : Int) x13_1)) = some r := H
                                  have A21 := Aside0.mk A210
                                  clear A210
                                  by_cases c22 : t126 = true
                                  · subst c22
                                    have H1 : (if x13_1 < (x3_2.length : Int) then (if x5_2 < ((rd_L4 x3_2 x13_1).length : Int) then ((some (x3_2.set (x13_1 : Int).toNat ((rd_L4 x3_2 x13_1).set (x5_2 : Int).toNat true) : List (List Bool))).bind fun y130 => (if x5_2 < (x3_2.length : Int) then (spec_l6Ahead.l2 k2 l0 y130 x13_1 x5_2 (l0.length : Int) x13_1 (rd_L4 y130 x5_2) ((rd_L4 y130 x5_2).length : Int) 0) else (none))) else (none)) else (none)) = some r := by rw [if_pos rfl] at H; exact H
                                    clear H
                                    have H := H1
                                    clear H1
                                    by_cases c23 : x13_1 < (x3_2.length : Int)
                                    · rw [if_pos c23] at H
                                      have c23b0 : decide (x13_1 < (x3_2.length : Int)) = true := decide_eq_true c23
                                      clear c23
                                      by_cases c24 : x5_2 < ((rd_L4 x3_2 x13_1).length : Int)
                                      · rw [if_pos c24] at H
                                        have c24b0 : decide (x5_2 < ((rd_L4 x3_2 x13_1).length : Int)) = true := decide_eq_true c24
                                        clear c24
                                        obtain ⟨y128, hy128⟩ : ∃ y_ : List Bool, y_ = ((rd_L4 x3_2 x13_1).set (x5_2 : Int).toNat true) := ⟨_, rfl⟩
                                        replace H : ((some (x3_2.set (x13_1 : Int).toNat y128 : List (List Bool))).bind fun y130 => (if x5_2 < (x3_2.length : Int) then (spec_l6Ahead.l2 k2 l0 y130 x13_1 x5_2 (l0.length : Int) x13_1 (rd_L4 y130 x5_2) ((rd_L4 y130 x5_2).length : Int) 0) else (none))) = some r := by first | (rw [hy128]; with_reducible exact H) | (have H2_ := (Option.bind_some _ _).symm.trans H; rw [hy128]; with_reducible exact H2_) | (have H2_ := (Option.bind_some _ _).symm.trans H; with_reducible exact H2_) | with_reducible exact H | (rw [hy128]; exact H) | exact H
                                        have Ny128 := Aside0.mk hy128
                                        clear hy128
                                        obtain ⟨y130, hy130⟩ : ∃ y_ : List (List Bool), y_ = (x3_2.set (x13_1 : Int).toNat y128) := ⟨_, rfl⟩
                                        replace H : (if x5_2 < (x3_2.length : Int) then (spec_l6Ahead.l2 k2 l0 y130 x13_1 x5_2 (l0.length : Int) x13_1 (rd_L4 y130 x5_2) ((rd_L4 y130 x5_2).length : Int) 0) else (none)) = some r := by first | (rw [hy130]; with_reducible exact H) | (have H2_ := (Option.bind_some _ _).symm.trans H; rw [hy130]; with_reducible exact H2_) | (have H2_ := (Option.bind_some _ _).symm.trans H; with_reducible exact H2_) | with_reducible exact H | (rw [hy130]; exact H) | exact H
                                        have Ny130 := Aside0.mk hy130
                                        clear hy130
                                        by_cases c26 : x5_2 < (x3_2.length : Int)
                                        · rw [if_pos c26] at H
                                          have c26b0 : decide (x5_2 < (x3_2.length : Int)) = true := decide_eq_true c26
                                          clear c26
                                          have H' := Aside0.mk H
                                          clear H
                                          try go_wp2
                                          have n0_ := Aside0.mk (Kd.S_drew HO_3.out)
                                          have n1_ := Aside0.mk (below_drew1 HB.out)
                                          clear HO_3
                                          clear HB
                                          have HO_3 := n0_
                                          have HB := n1_
                                          clear n0_ n1_
                                          have p124 : 0 ≤ (x5_2 : Int) := of_decide_eq_true (by first | (with_reducible assumption) | assumption)
                                          have q124 : x5_2 < (l0.length : Int) := of_decide_eq_true (by first | (with_reducible assumption) | assumption)
                                          obtain ⟨ad124, e124, hx124_0, hx124_1, hx124_2, hx124_3, hx124_4⟩ := at_T118 HR0.out x5_2 p124 q124
                                          have hw124_4 := hx124_4
                                          have hw124_3 := hx124_3
                                          have hw124_2 := hx124_2
                                          have hw124_1 := hx124_1
                                          have hw124_0 := hx124_0
                                          cases e124
                                          try replace hx124_0 := (HB.out.cell (World.block_lt_of_cell? w _ hx124_0)).trans hx124_0
                                          try replace hx124_1 := (HB.out.cell (World.block_lt_of_cell? w _ hx124_1)).trans hx124_1
                                          try replace hx124_2 := (HB.out.cell (World.block_lt_of_cell? w _ hx124_2)).trans hx124_2
                                          try replace hx124_3 := (HB.out.cell (World.block_lt_of_cell? w _ hx124_3)).trans hx124_3
                                          try replace hx124_4 := (HB.out.cell (World.block_lt_of_cell? w _ hx124_4)).trans hx124_4
                                          replace p124 := eq_true p124
                                          replace q124 := eq_true q124
                                          have p125 : 0 ≤ (x13_1 : Int) := of_decide_eq_true (by first | (with_reducible assumption) | assumption)
                                          have q125 : x13_1 < (l0.length : Int) := of_decide_eq_true (by first | (with_reducible assumption) | assumption)
                                          obtain ⟨ad125, e125, hx125_0, hx125_1, hx125_2, hx125_3, hx125_4⟩ := at_T118 HR0.out x13_1 p125 q125
                                          have hw125_4 := hx125_4
                                          have hw125_3 := hx125_3
                                          have hw125_2 := hx125_2
                                          have hw125_1 := hx125_1
                                          have hw125_0 := hx125_0
                                          obtain rfl : ad124 = ad125 := (by injection e125)
                                          try replace hx125_0 := (HB.out.cell (World.block_lt_of_cell? w _ hx125_0)).trans hx125_0
                                          try replace hx125_1 := (HB.out.cell (World.block_lt_of_cell? w _ hx125_1)).trans hx125_1
                                          try replace hx125_2 := (HB.out.cell (World.block_lt_of_cell? w _ hx125_2)).trans hx125_2
                                          try replace hx125_3 := (HB.out.cell (World.block_lt_of_cell? w _ hx125_3)).trans hx125_3
                                          try replace hx125_4 := (HB.out.cell (World.block_lt_of_cell? w _ hx125_4)).trans hx125_4
                                          replace p125 := eq_true p125
                                          replace q125 := eq_true q125
                                          refine start_ (n := 10) (S := fun w' => w'.cell? (ad124.add ((x5_2).toNat * 5)) = some (.int .i64 ((rd_T118 l0 x5_2).f0)) ∧ w'.cell? ⟨(ad124.add ((x5_2).toNat * 5)).block, (ad124.add ((x5_2).toNat * 5)).off + 1, none⟩ = some (.int .i64 ((rd_T118 l0 x5_2).f1)) ∧ w'.cell? ⟨(ad124.add ((x5_2).toNat * 5)).block, (ad124.add ((x5_2).toNat * 5)).off + 2, none⟩ = some (.int .i64 ((rd_T118 l0 x5_2).f2)) ∧ w'.cell? ⟨(ad124.add ((x5_2).toNat * 5)).block, (ad124.add ((x5_2).toNat * 5)).off + 3, none⟩ = some (.int .i64 ((rd_T118 l0 x5_2).f3)) ∧ w'.cell? ⟨(ad124.add ((x5_2).toNat * 5)).block, (ad124.add ((x5_2).toNat * 5)).off + 4, none⟩ = some (.int .i64 ((rd_T118 l0 x5_2).f4)) ∧ w'.cell? (ad124.add ((x13_1).toNat * 5)) = some (.int .i64 ((rd_T118 l0 x13_1).f0)) ∧ w'.cell? ⟨(ad124.add ((x13_1).toNat * 5)).block, (ad124.add ((x13_1).toNat * 5)).off + 1, none⟩ = some (.int .i64 ((rd_T118 l0 x13_1).f1)) ∧ w'.cell? ⟨(ad124.add ((x13_1).toNat * 5)).block, (ad124.add ((x13_1).toNat * 5)).off + 2, none⟩ = some (.int .i64 ((rd_T118 l0 x13_1).f2)) ∧ w'.cell? ⟨(ad124.add ((x13_1).toNat * 5)).block, (ad124.add ((x13_1).toNat * 5)).off + 3, none⟩ = some (.int .i64 ((rd_T118 l0 x13_1).f3)) ∧ w'.cell? ⟨(ad124.add ((x13_1).toNat * 5)).block, (ad124.add ((x13_1).toNat * 5)).off + 4, none⟩ = some (.int .i64 ((rd_T118 l0 x13_1).f4))) (ds := []) #[false, false, false, false, false, false, false, false, false, false] (by kernel_rfl) rfl rfl ⟨((HB.out.cell (World.block_lt_of_cell? w _ hw124_0)).trans hw124_0), ((HB.out.cell (World.block_lt_of_cell? w _ hw124_1)).trans hw124_1), ((HB.out.cell (World.block_lt_of_cell? w _ hw124_2)).trans hw124_2), ((HB.out.cell (World.block_lt_of_cell? w _ hw124_3)).trans hw124_3), ((HB.out.cell (World.block_lt_of_cell? w _ hw124_4)).trans hw124_4), ((HB.out.cell (World.block_lt_of_cell? w _ hw125_0)).trans hw125_0), ((HB.out.cell (World.block_lt_of_cell? w _ hw125_1)).trans hw125_1), ((HB.out.cell (World.block_lt_of_cell? w _ hw125_2)).trans hw125_2), ((HB.out.cell (World.block_lt_of_cell? w _ hw125_3)).trans hw125_3), ((HB.out.cell (World.block_lt_of_cell? w _ hw125_4)).trans hw125_4)⟩ (fun hHeld => ?_); refine with_tabW spec_l6Ahead.tab9 spec_l6Ahead.bits9 (fun HT_ HW_ => ?_)
                                          generalize wr.drew = w27 at HO_3 HB hx124_0 hx124_1 hx124_2 hx124_3 hx124_4 hx125_0 hx125_1 hx125_2 hx125_3 hx125_4 hHeld ⊢
                                          refine pure_ (i := 0) (N := some 27) (v := ?_) (a' := ?_) #[true, false, false, false, false, false, false, false, false, false] rfl rfl (any_of HT_.out (by kernel_rfl)) (fun _ _ _ h => h) (Or.inl ⟨by rfl, ?_⟩) ?_ ?_
                                          rotate_left
                                          · intro w'
                                            go_simp
                                            with_reducible rfl
                                          rotate_left
                                          · simp only [Act.put, List.setIfInBounds_toArray, List.set_cons_zero, List.set_cons_succ, i64_w, i32_w]
                                            rfl
                                          refine pure_ (i := 1) (N := some 28) (v := ?_) (a' := ?_) #[true, true, false, false, false, false, false, false, false, false] rfl rfl (any_of HT_.out (by kernel_rfl)) (fun _ _ _ h => h) (Or.inl ⟨by rfl, ?_⟩) ?_ ?_
                                          rotate_left
                                          · intro w'
                                            go_simp
                                            with_reducible rfl
                                          rotate_left
                                          · simp only [Act.put, List.setIfInBounds_toArray, List.set_cons_zero, List.set_cons_succ, i64_w, i32_w]
                                            rfl
                                          refine pure_ (i := 2) (N := some 29) (v := ?_) (a' := ?_) #[true, true, true, false, false, false, false, false, false, false] rfl rfl (any_of HT_.out (by kernel_rfl)) (fun _ _ _ h => h) (Or.inl ⟨by rfl, ?_⟩) ?_ ?_
                                          rotate_left
                                          · intro w'
                                            go_simp
                                            with_reducible rfl
                                          rotate_left
                                          · simp only [Act.put, List.setIfInBounds_toArray, List.set_cons_zero, List.set_cons_succ, i64_w, i32_w]
                                            rfl
                                          refine pure_ (i := 4) (N := some 31) (v := ?_) (a' := ?_) #[true, true, true, false, true, false, false, false, false, false] rfl rfl (any_of HT_.out (by kernel_rfl)) (fun _ _ _ h => h) (Or.inl ⟨by rfl, ?_⟩) ?_ ?_
                                          rotate_left
                                          · intro w'
                                            go_simp
                                            with_reducible rfl
                                          rotate_left
                                          · simp only [Act.put, List.setIfInBounds_toArray, List.set_cons_zero, List.set_cons_succ, i64_w, i32_w]
                                            rfl
                                          refine pure_ (i := 5) (N := some 32) (v := ?_) (a' := ?_) #[true, true, true, false, true, true, false, false, false, false] rfl rfl (any_of HT_.out (by kernel_rfl)) (fun _ _ _ h => h) (Or.inl ⟨by rfl, ?_⟩) ?_ ?_
                                          rotate_left
                                          · intro w'
                                            go_simp
                                            with_reducible rfl
                                          rotate_left
                                          · simp only [Act.put, List.setIfInBounds_toArray, List.set_cons_zero, List.set_cons_succ, i64_w, i32_w]
                                            rfl
                                          refine pure_ (i := 6) (N := some 33) (v := ?_) (a' := ?_) #[true, true, true, false, true, true, true, false, false, false] rfl rfl (any_of HT_.out (by kernel_rfl)) (fun _ _ _ h => h) (Or.inl ⟨by rfl, ?_⟩) ?_ ?_
                                          rotate_left
                                          · intro w'
                                            go_simp
                                            with_reducible rfl
                                          rotate_left
                                          · simp only [Act.put, List.setIfInBounds_toArray, List.set_cons_zero, List.set_cons_succ, i64_w, i32_w]
                                            rfl
                                          refine take_ (i := 3) (N := some 30) (v := ?_) (a' := ?_) #[true, true, true, true, true, true, true, false, false, false] rfl rfl (take_ofW HT_.out HW_.out (by kernel_rfl)) (fun _ _ _ h => h) (Or.inl ⟨by rfl, ?_⟩) hHeld ?_ ?_
                                          rotate_left
                                          · rintro w' ⟨s0, s1, s2, s3, s4, s5, s6, s7, s8, s9⟩
                                            go_simp
                                            with_reducible rfl
                                          rotate_left
                                          · simp only [Act.put, List.setIfInBounds_toArray, List.set_cons_zero, List.set_cons_succ, i64_w, i32_w]
                                            rfl
                                          refine take_ (i := 7) (N := some 34) (v := ?_) (a' := ?_) #[true, true, true, true, true, true, true, true, false, false] rfl rfl (take_ofW HT_.out HW_.out (by kernel_rfl)) (fun _ _ _ h => h) (Or.inl ⟨by rfl, ?_⟩) hHeld ?_ ?_
                                          rotate_left
                                          · rintro w' ⟨s0, s1, s2, s3, s4, s5, s6, s7, s8, s9⟩
                                            go_simp
                                            with_reducible rfl
                                          rotate_left
                                          · simp only [Act.put, List.setIfInBounds_toArray, List.set_cons_zero, List.set_cons_succ, i64_w, i32_w]
                                            rfl
                                          refine one_ (i := 8) (N := some 35) #[true, true, true, true, true, true, true, true, true, false] rfl rfl (one_of HT_.out (by kernel_rfl)) (by decide) (fun K hK => ?_)
                                          first | refine goes_ Try.func127 (by kernel_rfl) rfl #[.agg #[.int .i64 ((rd_T118 l0 x5_2).f0), .int .i64 ((rd_T118 l0 x5_2).f1), .int .i64 ((rd_T118 l0 x5_2).f2), .int .i64 ((rd_T118 l0 x5_2).f3), .int .i64 ((rd_T118 l0 x5_2).f4)], .agg #[.int .i64 ((rd_T118 l0 x13_1).f0), .int .i64 ((rd_T118 l0 x13_1).f1), .int .i64 ((rd_T118 l0 x13_1).f2), .int .i64 ((rd_T118 l0 x13_1).f3), .int .i64 ((rd_T118 l0 x13_1).f4)]] (by rfl) rfl rfl (by (try simp only [List.map_toArray, List.map_cons, List.map_nil]); first | done | rfl | (simp only [List.length_drop, List.length_take]; rfl)) ?_ | refine goesV_ Try.func127 (by kernel_rfl) rfl #[.agg #[.int .i64 ((rd_T118 l0 x5_2).f0), .int .i64 ((rd_T118 l0 x5_2).f1), .int .i64 ((rd_T118 l0 x5_2).f2), .int .i64 ((rd_T118 l0 x5_2).f3), .int .i64 ((rd_T118 l0 x5_2).f4)], .agg #[.int .i64 ((rd_T118 l0 x13_1).f0), .int .i64 ((rd_T118 l0 x13_1).f1), .int .i64 ((rd_T118 l0 x13_1).f2), .int .i64 ((rd_T118 l0 x13_1).f3), .int .i64 ((rd_T118 l0 x13_1).f4)]] (by rfl) rfl rfl (by rfl) (by first | rfl | (simp only [List.map_toArray, List.map_cons, List.map_nil]; rfl)) ?_
                                          with_reducible refine (spec_l6Right.calls k2 ((rd_T118 l0 x5_2).f0) ((rd_T118 l0 x5_2).f1) ((rd_T118 l0 x5_2).f2) ((rd_T118 l0 x5_2).f3) ((rd_T118 l0 x5_2).f4) ((rd_T118 l0 x13_1).f0) ((rd_T118 l0 x13_1).f1) ((rd_T118 l0 x13_1).f2) ((rd_T118 l0 x13_1).f3) ((rd_T118 l0 x13_1).f4) true _ A21.out).mono ?_
                                          rintro e w28 ⟨rfl, hb⟩
                                          refine ⟨_, rfl, ?_⟩
                                          have n0_ := Aside0.mk (Kd.S_below (by (with_reducible repeat first|apply sA_|apply sN_|apply sD_); exact HO_3.out) hb)
                                          have n1_ := Aside0.mk (below_step (by repeat (first | (with_reducible first|exact HB.out|apply vA_|apply vN_|apply vD_) | exact HB.out)) hb)
                                          clear HO_3
                                          clear HB
                                          have HO_3 := n0_
                                          have HB := n1_
                                          clear n0_ n1_
                                          (try clear hb)
                                          (try clear hb2)
                                          (try clear hk)
                                          (try clear hi)
                                          refine hK.out _ _ ⟨((HB.out.cell (World.block_lt_of_cell? w _ hw124_0)).trans hw124_0), ((HB.out.cell (World.block_lt_of_cell? w _ hw124_1)).trans hw124_1), ((HB.out.cell (World.block_lt_of_cell? w _ hw124_2)).trans hw124_2), ((HB.out.cell (World.block_lt_of_cell? w _ hw124_3)).trans hw124_3), ((HB.out.cell (World.block_lt_of_cell? w _ hw124_4)).trans hw124_4), ((HB.out.cell (World.block_lt_of_cell? w _ hw125_0)).trans hw125_0), ((HB.out.cell (World.block_lt_of_cell? w _ hw125_1)).trans hw125_1), ((HB.out.cell (World.block_lt_of_cell? w _ hw125_2)).trans hw125_2), ((HB.out.cell (World.block_lt_of_cell? w _ hw125_3)).trans hw125_3), ((HB.out.cell (World.block_lt_of_cell? w _ hw125_4)).trans hw125_4)⟩ (fun hHeld => ?_)
                                          clear hK K
                                          refine norm_ (a' := ?_) ?_ ?_
                                          rotate_left
                                          · show Act.put _ (some 35) _ = _
                                            simp only [Act.put, List.setIfInBounds_toArray, List.set_cons_zero, List.set_cons_succ, i64_w, i32_w]
                                            rfl
                                          refine pure_ (i := 9) (N := some 36) (v := ?_) (a' := ?_) #[true, true, true, true, true, true, true, true, true, true] rfl rfl (any_of HT_.out (by kernel_rfl)) (fun _ _ _ h => h) (Or.inl ⟨by rfl, ?_⟩) ?_ ?_
                                          rotate_left
                                          · intro w'
                                            go_simp
                                            with_reducible rfl
                                          rotate_left
                                          · simp only [Act.put, List.setIfInBounds_toArray, List.set_cons_zero, List.set_cons_succ, i64_w, i32_w]
                                            rfl
                                          refine done_ (done_of HT_.out (by kernel_rfl)) ?_
                                          have p127 : 0 ≤ (x13_1 : Int) := of_decide_eq_true (by first | (with_reducible assumption) | assumption)
                                          have q127 : x13_1 < (x3_2.length : Int) := of_decide_eq_true (by first | (with_reducible assumption) | assumption)
                                          obtain ⟨ad127, A127_0, c127_0, e127, hx127_0, hl127_0, hi127_0⟩ := at_L4 (Kd.S_reads' HO_3.out).2.2 x13_1 p127 q127
                                          obtain rfl : (⟨go11, 0, none⟩ : Addr) = ad127 := (by injection e127)
                                          obtain ⟨ce127, hce127, hMe127, hcc127⟩ := Kd.S_get HO_3.out [] x13_1 p127 (by first | exact q127 | exact of_decide_eq_true (by first | (with_reducible assumption) | assumption) | (have e_ := (Kd.S_reads' HO_3.out).1; omega))
                                          obtain ⟨ve127_0, rfl, ge127_0⟩ := hMe127
                                          have hv127_0 := hcc127 0 _ rfl
                                          rw [Nat.add_zero, show ((Kd.slice 4 Kd.bool)).sz = 1 from rfl, Nat.mul_one] at hv127_0
                                          replace hv127_0 := Option.some.inj (hv127_0.symm.trans hx127_0)
                                          rw [hv127_0] at ge127_0
                                          have HL127_0 := Aside0.mk (show Kd.R Kd.bool 4 _ _ _ _ (rd_L4 x3_2 x13_1) from ge127_0)
                                          clear hv127_0 ge127_0
                                          have HX127_0 := Aside0.mk hx127_0
                                          clear hcc127 hce127
                                          (first | simp only [add_plain] at hx127_0 | simp only [add_at] at hx127_0 | simp only [Addr.add, Nat.zero_add] at hx127_0 | skip)
                                          have HR127_0 := Aside0.mk hi127_0
                                          have HC127_0 := Aside0.mk hl127_0
                                          clear hi127_0 hl127_0
                                          replace p127 := eq_true p127
                                          replace q127 := eq_true q127
                                          have p25 : 0 ≤ (x5_2 : Int) := of_decide_eq_true (by first | (with_reducible assumption) | assumption)
                                          have q25 : (x5_2 : Int) < (((rd_L4 x3_2 x13_1).length : Int) : Int) := of_decide_eq_true (by first | (with_reducible assumption) | assumption)
                                          obtain ⟨go25, co25, eo25, gb25, gl25, cl25, HG25⟩ := Kd.R_form HL127_0.out (by omega)
                                          (first | cases eo25 | (injection eo25 with ea_ en_ ec_; (first | subst ea_ | (injection ea_ with ea_; subst ea_)); subst ec_; clear en_))
                                          have GB25 := Aside0.mk gb25
                                          have GG25 := Aside0.mk HG25
                                          clear gb25 gl25 HG25
                                          obtain ⟨hx25_0, hf25_0⟩ := Kd.R_celln false HL127_0.out (x5_2 : Int) p25 q25
                                          replace p25 := eq_true p25
                                          replace q25 := eq_true q25
                                          have hq29 : (x13_1 : Int) < (x3_2.length : Int) := (by have h_ : (x13_1 : Int) < ((x3_2.length : Int) : Int) := of_decide_eq_true (by first | (with_reducible assumption) | assumption); first | exact h_ | (have e_ := (Kd.S_reads' HO_3.out).1; omega) | simpa only [List.length_set, List.length_set] using h_)
                                          obtain ⟨oki29, ce29, hcl29, hM29, hcc29, hok29, hbk29⟩ := Kd.S_borrow HO_3.out [] (x13_1 : Int) (of_decide_eq_true (by first | (with_reducible assumption) | assumption)) hq29
                                          obtain ⟨ve29_0, rfl, ge29_0⟩ := hM29
                                          have hv29 := hcc29 0 _ rfl
                                          rw [Nat.add_zero, show ((Kd.slice 4 Kd.bool)).sz = 1 from rfl, Nat.mul_one] at hv29
                                          replace hv29 := Option.some.inj (hv29.symm.trans HX127_0.out)
                                          subst hv29
                                          clear hcc29 hcl29
                                          replace ge29_0 := (show Kd.R Kd.bool 4 _ _ _ _ (rd_L4 x3_2 x13_1) from ge29_0)
                                          have HP29 := Kd.R_putg ge29_0 (x5_2 : Int) true
                                          try go_wp2_with (first | ((with_reducible refine gate_store (t := 4) (p := 42) rfl ?_); refine store_event (t := 4) (p := 42) (v := ?vo_w30) (w1 := (w28.setCell ⟨go25, (x5_2 : Int).toNat, none⟩ (.bool true))) ?hg ?ho ?hn ?hr ?_; (case ho => rfl); (case hg => rfl); (case hn => rfl); (case hr => first | (go_simp; done) | (go_simp; rfl)); intro w30 hw; have hg : w28.grownBy w30 (some go25) := (by rw [hw]; exact HP29.2); have hz_ : Kd.R Kd.bool 4 w30 w.heap.size oki29 (.slice (some ⟨go25, 0, none⟩) (rd_L4 x3_2 x13_1).length c127_0) y128 := (by rw [hw, Ny128.out]; exact HP29.1); have hp_ : Kd.S (Kd.slice 4 Kd.bool) 114 w30 w.heap.size (fun _ => True) (.slice (some ⟨go11, 0, none⟩) x3_2.length co11) y130 := (by rw [Ny130.out]; exact hbk29 hg (fun k_ e_ => by injection e_ with e_; subst e_; exact ge29_0.1 _ rfl) (Kd.M_row hz_)); have hm_ := Kd.R_mono hz_ hok29; clear HP29 hbk29; have n0_ := Aside0.mk (hp_); have n1_ := Aside0.mk ((by rw [hw]; exact below_set (HB.out) GB25.out : Below w.heap.size w w30)); have n2_ := Aside0.mk (hm_); have n3_ := Aside0.mk ((Kd.R_reads' hm_).2.1); clear HO_3; clear HB; clear HL127_0; have HO_3 := n0_; have HB := n1_; have HL142 := n2_; have HC129 := n3_; clear n0_ n1_ n2_ n3_; clear hg hw hp_ hz_ hm_ hok29; have p131 : 0 ≤ (x5_2 : Int) := of_decide_eq_true (by first | (with_reducible assumption) | assumption); have q131 : x5_2 < (y130.length : Int) := (by have h_ : (x5_2 : Int) < ((x3_2.length : Int) : Int) := of_decide_eq_true (by first | (with_reducible assumption) | assumption); first | (have e_ := (Kd.S_reads' HO_3.out).1; omega) | simpa only [Ny130.out, List.length_set] using h_); have ql131 : ((x5_2 : Int) < ((x3_2.length : Int) : Int)) = True := eq_true (of_decide_eq_true (by first | (with_reducible assumption) | assumption)); obtain ⟨ad131, A131_0, c131_0, e131, hx131_0, hl131_0, hi131_0⟩ := at_L4 (Kd.S_reads' HO_3.out).2.2 x5_2 p131 q131; obtain rfl : (⟨go11, 0, none⟩ : Addr) = ad131 := (by injection e131); obtain ⟨ce131, hce131, hMe131, hcc131⟩ := Kd.S_get HO_3.out [] x5_2 p131 (by first | exact q131 | exact of_decide_eq_true (by first | (with_reducible assumption) | assumption) | (have e_ := (Kd.S_reads' HO_3.out).1; omega)); obtain ⟨ve131_0, rfl, ge131_0⟩ := hMe131; have hv131_0 := hcc131 0 _ rfl; rw [Nat.add_zero, show ((Kd.slice 4 Kd.bool)).sz = 1 from rfl, Nat.mul_one] at hv131_0; replace hv131_0 := Option.some.inj (hv131_0.symm.trans hx131_0); rw [hv131_0] at ge131_0; have HL131_0 := Aside0.mk (show Kd.R Kd.bool 4 _ _ _ _ (rd_L4 y130 x5_2) from ge131_0); clear hv131_0 ge131_0; have HX131_0 := Aside0.mk hx131_0; clear hcc131 hce131; (first | simp only [add_plain] at hx131_0 | simp only [add_at] at hx131_0 | simp only [Addr.add, Nat.zero_add] at hx131_0 | skip); have HR131_0 := Aside0.mk hi131_0; have HC131_0 := Aside0.mk hl131_0; clear hi131_0 hl131_0; replace p131 := eq_true p131; replace q131 := eq_true q131))
                                          go_loopg [48] k2 (fun kq v48 w' => ∃ (x3_3 : List (List Bool)) (x48_3 : Int), v48 = .int .i64 x48_3 ∧ Aside0 (spec_l6Ahead.l2 kq l0 x3_3 x13_1 x5_2 (l0.length : Int) x13_1 (rd_L4 y130 x5_2) ((rd_L4 y130 x5_2).length : Int) x48_3 = some r) ∧ Aside0 (kq ≤ k2) ∧ Aside0 (Kd.S (Kd.slice 4 Kd.bool) 114 w' w.heap.size (fun _ => True) (.slice (some ⟨go11, 0, none⟩) x3_2.length co11) x3_3) ∧ Aside0 (Below w.heap.size w w') ∧ Aside0 (w'.cell? ⟨go11, (x5_2).toNat, none⟩ = some (.slice A131_0 (rd_L4 y130 x5_2).length c131_0)))
                                          case atStart => exact ⟨(y130), (0), (by first | rfl | (simp; done) | (simp [*]; done)), H', ⟨Nat.le_refl _⟩, ⟨by (try simp only [hl3_2]); (with_reducible repeat first|apply sA_|apply sN_|apply sD_); exact HO_3.out⟩, ⟨by repeat (first | (with_reducible first|exact HB.out|apply vA_|apply vN_|apply vD_) | exact HB.out)⟩, ⟨hx131_0⟩⟩
                                          case round =>
                                            clear H'
                                            try clear c1
                                            try clear p1
                                            try clear q1
                                            try clear hx1
                                            try clear hf1
                                            try clear c2
                                            try clear c2b0
                                            try clear c2b1
                                            try clear p2
                                            try clear q2
                                            try clear hx2
                                            try clear hf2
                                            try clear c3
                                            try clear c3b0
                                            try clear c3b1
                                            try clear c6
                                            try clear c6b0
                                            try clear p6
                                            try clear c7
                                            try clear c7b0
                                            try clear c7b1
                                            try clear c8
                                            try clear c8b0
                                            try clear c8b1
                                            try clear c9
                                            try clear c9b0
                                            try clear c10
                                            try clear c10b0
                                            try clear c11
                                            try clear p11
                                            try clear q11
                                            try clear hx11
                                            try clear hf11
                                            try clear c12
                                            try clear p12
                                            try clear q12
                                            try clear hx12
                                            try clear c13
                                            try clear p13
                                            try clear q13
                                            try clear hx13
                                            try clear c14
                                            try clear hx14
                                            try clear hf14
                                            try clear c16
                                            try clear c16b0
                                            try clear c17
                                            try clear c17b0
                                            try clear c18
                                            try clear c18b0
                                            try clear c19
                                            try clear c19b0
                                            try clear c20
                                            try clear c20b0
                                            try clear c22
                                            try clear c23
                                            try clear c23b0
                                            try clear c24
                                            try clear c24b0
                                            try clear p25
                                            try clear q25
                                            try clear hx25
                                            try clear hf25
                                            try clear c26
                                            try clear c26b0
                                            try clear c29
                                            try clear q29
                                            try clear hx11_0
                                            try clear hx124_0
                                            try clear hx124_1
                                            try clear hx124_2
                                            try clear hx124_3
                                            try clear hx124_4
                                            try clear hx125_0
                                            try clear hx125_1
                                            try clear hx125_2
                                            try clear hx125_3
                                            try clear hx125_4
                                            try clear hx127_0
                                            try clear hx131_0
                                            try clear hx14_0
                                            try clear hx25_0
                                            try clear p1
                                            try clear p11
                                            try clear p124
                                            try clear p125
                                            try clear p127
                                            try clear p131
                                            try clear p2
                                            try clear p25
                                            try clear q1
                                            try clear q11
                                            try clear q124
                                            try clear q125
                                            try clear q127
                                            try clear q131
                                            try clear q25
                                            obtain ⟨x3_3, x48_3, rfl, HA, HK3, HO_3, HB, HX_⟩ := hrel
                                            have hl3_3 := (Kd.S_reads' HO_3.out).1
                                            rw [hl3_3] at HO_3
                                            (try simp only [hl3_3])
                                            cases gk with
                                            | zero => exact absurd HA.out (by simp [spec_l6Ahead.l2])
                                            | succ k3 =>
                                              have H := HA.out
                                              clear HA
                                              simp only [spec_l6Ahead.l2] at H
                                              by_cases c31 : x48_3 < ((rd_L4 y130 x5_2).length : Int)
                                              · rw [if_pos c31] at H
                                                have c31b0 : decide (x48_3 < ((rd_L4 y130 x5_2).length : Int)) = true := decide_eq_true c31
                                                clear c31
                                                have g1_ : 0 ≤ x5_2 := by
                                                  by_cases q_ : 0 ≤ x5_2
                                                  · exact q_
                                                  · rw [if_neg q_] at H; exact absurd H (by simp)
                                                rw [if_pos g1_] at H
                                                have g2_ : x5_2 < (x3_3.length : Int) := by
                                                  by_cases q_ : x5_2 < (x3_3.length : Int)
                                                  · exact q_
                                                  · rw [if_neg q_] at H; exact absurd H (by simp)
                                                rw [if_pos g2_] at H
                                                have g3_ : rd_L4 x3_3 x5_2 = rd_L4 y130 x5_2 := by
                                                  by_cases q_ : rd_L4 x3_3 x5_2 = rd_L4 y130 x5_2
                                                  · exact q_
                                                  · rw [if_neg q_] at H; exact absurd H (by simp)
                                                rw [if_pos g3_] at H
                                                obtain ⟨gT_, cT_, eT_, _, _, clT_, HT_0⟩ := Kd.S_form HO_3.out (by omega)
                                                obtain rfl : go11 = gT_ := by injection eT_ with eT_; injection eT_ with eT_; injection eT_
                                                have HT0_ := Aside0.mk HT_0
                                                clear HT_0 eT_
                                                obtain ⟨ad_, A_, c_, e_, hx_, hl_, hi_⟩ := at_L4 (Kd.S_reads' HO_3.out).2.2 x5_2 g1_ (by have e_ := (Kd.S_reads' HO_3.out).1; omega)
                                                obtain rfl : (⟨go11, 0, none⟩ : Addr) = ad_ := (by injection e_)
                                                (first | simp only [add_plain] at hx_ | simp only [add_at] at hx_ | simp only [Addr.add, Nat.zero_add] at hx_ | skip)
                                                have ei_ := Option.some.inj (hx_.symm.trans HX_.out)
                                                injection ei_ with ea_ en_ ec_
                                                subst ea_
                                                subst ec_
                                                rw [g3_] at hi_
                                                have HR131_0 := Aside0.mk hi_
                                                clear hi_ hl_ hx_ en_ g1_ g2_ g3_
                                                by_cases c32 : 0 ≤ x48_3
                                                · rw [if_pos c32] at H
                                                  have c32b0 : decide (0 ≤ x48_3) = true := decide_eq_true c32
                                                  clear c32
                                                  by_cases c33 : x48_3 < ((rd_L4 y130 x5_2).length : Int)
                                                  · rw [if_pos c33] at H
                                                    have c33b0 : decide (x48_3 < ((rd_L4 y130 x5_2).length : Int)) = true := decide_eq_true c33
                                                    clear c33
                                                    by_cases c34 : 0 ≤ x13_1
                                                    · rw [if_pos c34] at H
                                                      have c34b0 : decide (0 ≤ x13_1) = true := decide_eq_true c34
                                                      clear c34
                                                      by_cases c35 : x13_1 < (x3_3.length : Int)
                                                      · rw [if_pos c35] at H
                                                        have c35b0 : decide (x13_1 < (x3_3.length : Int)) = true := decide_eq_true c35
                                                        clear c35
                                                        by_cases c36 : x48_3 < ((rd_L4 x3_3 x13_1).length : Int)
                                                        · rw [if_pos c36] at H
                                                          have c36b0 : decide (x48_3 < ((rd_L4 x3_3 x13_1).length : Int)) = true := decide_eq_true c36
                                                          clear c36
                                                          obtain ⟨bq37, hbq37⟩ : ∃ b_ : Bool, b_ = (rdOf false (rd_L4 x3_3 x13_1) x48_3) := ⟨_, rfl⟩
                                                          replace H : (if bq37 = true then (spec_l6Ahead.l2 k3 l0 (x3_3.set (x13_1 : Int).toNat ((rd_L4 x3_3 x13_1).set (x48_3 : Int).toNat true)) x13_1 x5_2 (l0.length : Int) x13_1 (rd_L4 y130 x5_2) ((rd_L4 y130 x5_2).length : Int) (wrap64 (x48_3 + 1))) else (spec_l6Ahead.l2 k3 l0 (x3_3.set (x13_1 : Int).toNat ((rd_L4 x3_3 x13_1).set (x48_3 : Int).toNat (rdOf false (rd_L4 y130 x5_2) x48_3))) x13_1 x5_2 (l0.length : Int) x13_1 (rd_L4 y130 x5_2) ((rd_L4 y130 x5_2).length : Int) (wrap64 (x48_3 + 1)))) = some r := by rw [← hbq37] at H; exact H
                                                          have Nbq37 := Aside0.mk hbq37
                                                          clear hbq37
                                                          by_cases c38 : bq37 = true
                                                          · subst c38
                                                            have H1 : (spec_l6Ahead.l2 k3 l0 (x3_3.set (x13_1 : Int).toNat ((rd_L4 x3_3 x13_1).set (x48_3 : Int).toNat true)) x13_1 x5_2 (l0.length : Int) x13_1 (rd_L4 y130 x5_2) ((rd_L4 y130 x5_2).length : Int) (wrap64 (x48_3 + 1))) = some r := by rw [if_pos rfl] at H; exact H
                                                            clear H
                                                            have H := H1
                                                            clear H1
                                                            obtain ⟨y136, hy136⟩ : ∃ y_ : List Bool, y_ = ((rd_L4 x3_3 x13_1).set (x48_3 : Int).toNat true) := ⟨_, rfl⟩
                                                            replace H : (spec_l6Ahead.l2 k3 l0 (x3_3.set (x13_1 : Int).toNat y136) x13_1 x5_2 (l0.length : Int) x13_1 (rd_L4 y130 x5_2) ((rd_L4 y130 x5_2).length : Int) (wrap64 (x48_3 + 1))) = some r := by first | (rw [hy136]; with_reducible exact H) | (have H2_ := (Option.bind_some _ _).symm.trans H; rw [hy136]; with_reducible exact H2_) | (have H2_ := (Option.bind_some _ _).symm.trans H; with_reducible exact H2_) | with_reducible exact H | (rw [hy136]; exact H) | exact H
                                                            have Ny136 := Aside0.mk hy136
                                                            clear hy136
                                                            obtain ⟨y138, hy138⟩ : ∃ y_ : List (List Bool), y_ = (x3_3.set (x13_1 : Int).toNat y136) := ⟨_, rfl⟩
                                                            replace H : (spec_l6Ahead.l2 k3 l0 y138 x13_1 x5_2 (l0.length : Int) x13_1 (rd_L4 y130 x5_2) ((rd_L4 y130 x5_2).length : Int) (wrap64 (x48_3 + 1))) = some r := by first | (rw [hy138]; with_reducible exact H) | (have H2_ := (Option.bind_some _ _).symm.trans H; rw [hy138]; with_reducible exact H2_) | (have H2_ := (Option.bind_some _ _).symm.trans H; with_reducible exact H2_) | with_reducible exact H | (rw [hy138]; exact H) | exact H
                                                            have Ny138 := Aside0.mk hy138
                                                            clear hy138
                                                            have H' := Aside0.mk H
                                                            clear H
                                                            have p132 : 0 ≤ (x48_3 : Int) := of_decide_eq_true (by first | (with_reducible assumption) | assumption)
                                                            have q132 : x48_3 < ((rd_L4 y130 x5_2).length : Int) := of_decide_eq_true (by first | (with_reducible assumption) | assumption)
                                                            obtain ⟨ad132, e132, hx132_0⟩ := Kd.at_bool HR131_0.out x48_3 p132 q132
                                                            (try rw [← Nbq37.out] at hx132_0)
                                                            cases e132
                                                            try replace hx132_0 := (HB.out.cell (World.block_lt_of_cell? w _ hx132_0)).trans hx132_0
                                                            replace p132 := eq_true p132
                                                            replace q132 := eq_true q132
                                                            try go_wp2
                                                            have n0_ := Aside0.mk (Kd.S_drew HO_3.out)
                                                            have n1_ := Aside0.mk (below_drew1 HB.out)
                                                            clear HO_3
                                                            clear HB
                                                            have HO_3 := n0_
                                                            have HB := n1_
                                                            clear n0_ n1_
                                                            have p133 : 0 ≤ (x13_1 : Int) := of_decide_eq_true (by first | (with_reducible assumption) | assumption)
                                                            have q133 : x13_1 < (x3_3.length : Int) := of_decide_eq_true (by first | (with_reducible assumption) | assumption)
                                                            obtain ⟨ad133, A133_0, c133_0, e133, hx133_0, hl133_0, hi133_0⟩ := at_L4 (Kd.S_reads' HO_3.out).2.2 x13_1 p133 q133
                                                            obtain rfl : (⟨go11, 0, none⟩ : Addr) = ad133 := (by injection e133)
                                                            obtain ⟨ce133, hce133, hMe133, hcc133⟩ := Kd.S_get HO_3.out [] x13_1 p133 (by first | exact q133 | exact of_decide_eq_true (by first | (with_reducible assumption) | assumption) | (have e_ := (Kd.S_reads' HO_3.out).1; omega))
                                                            obtain ⟨ve133_0, rfl, ge133_0⟩ := hMe133
                                                            have hv133_0 := hcc133 0 _ rfl
                                                            rw [Nat.add_zero, show ((Kd.slice 4 Kd.bool)).sz = 1 from rfl, Nat.mul_one] at hv133_0
                                                            replace hv133_0 := Option.some.inj (hv133_0.symm.trans hx133_0)
                                                            rw [hv133_0] at ge133_0
                                                            have HL133_0 := Aside0.mk (show Kd.R Kd.bool 4 _ _ _ _ (rd_L4 x3_3 x13_1) from ge133_0)
                                                            clear hv133_0 ge133_0
                                                            have HX133_0 := Aside0.mk hx133_0
                                                            clear hcc133 hce133
                                                            (first | simp only [add_plain] at hx133_0 | simp only [add_at] at hx133_0 | simp only [Addr.add, Nat.zero_add] at hx133_0 | skip)
                                                            have HR133_0 := Aside0.mk hi133_0
                                                            have HC133_0 := Aside0.mk hl133_0
                                                            clear hi133_0 hl133_0
                                                            replace p133 := eq_true p133
                                                            replace q133 := eq_true q133
                                                            have p134 : 0 ≤ (x13_1 : Int) := of_decide_eq_true (by first | (with_reducible assumption) | assumption)
                                                            have q134 : x13_1 < (x3_3.length : Int) := of_decide_eq_true (by first | (with_reducible assumption) | assumption)
                                                            obtain ⟨ad134, A134_0, c134_0, e134, hx134_0, hl134_0, hi134_0⟩ := at_L4 (Kd.S_reads' HO_3.out).2.2 x13_1 p134 q134
                                                            obtain rfl : (⟨go11, 0, none⟩ : Addr) = ad134 := (by injection e134)
                                                            obtain ⟨ce134, hce134, hMe134, hcc134⟩ := Kd.S_get HO_3.out [] x13_1 p134 (by first | exact q134 | exact of_decide_eq_true (by first | (with_reducible assumption) | assumption) | (have e_ := (Kd.S_reads' HO_3.out).1; omega))
                                                            obtain ⟨ve134_0, rfl, ge134_0⟩ := hMe134
                                                            have hv134_0 := hcc134 0 _ rfl
                                                            rw [Nat.add_zero, show ((Kd.slice 4 Kd.bool)).sz = 1 from rfl, Nat.mul_one] at hv134_0
                                                            replace hv134_0 := Option.some.inj (hv134_0.symm.trans hx134_0)
                                                            rw [hv134_0] at ge134_0
                                                            have HL134_0 := Aside0.mk (show Kd.R Kd.bool 4 _ _ _ _ (rd_L4 x3_3 x13_1) from ge134_0)
                                                            clear hv134_0 ge134_0
                                                            have HX134_0 := Aside0.mk hx134_0
                                                            clear hcc134 hce134
                                                            (first | simp only [add_plain] at hx134_0 | simp only [add_at] at hx134_0 | simp only [Addr.add, Nat.zero_add] at hx134_0 | skip)
                                                            have HR134_0 := Aside0.mk hi134_0
                                                            have HC134_0 := Aside0.mk hl134_0
                                                            clear hi134_0 hl134_0
                                                            replace p134 := eq_true p134
                                                            replace q134 := eq_true q134
                                                            have ea_ := Option.some.inj (hx133_0.symm.trans hx134_0)
                                                            injection ea_ with ea_ en_ ec_
                                                            subst ea_
                                                            subst ec_
                                                            clear en_
                                                            have p135 : 0 ≤ (x48_3 : Int) := of_decide_eq_true (by first | (with_reducible assumption) | assumption)
                                                            have q135 : x48_3 < ((rd_L4 x3_3 x13_1).length : Int) := of_decide_eq_true (by first | (with_reducible assumption) | assumption)
                                                            obtain ⟨ad135, e135, hx135_0⟩ := Kd.at_bool (by repeat (first | (with_reducible exact HR134_0.out) | with_reducible apply cA_|with_reducible apply cN_|with_reducible apply cD_ | exact HR134_0.out)) x48_3 p135 q135
                                                            (try rw [← Nbq37.out] at hx135_0)
                                                            cases e135
                                                            replace p135 := eq_true p135
                                                            replace q135 := eq_true q135
                                                            have p39 : 0 ≤ (x48_3 : Int) := of_decide_eq_true (by first | (with_reducible assumption) | assumption)
                                                            have q39 : (x48_3 : Int) < (((rd_L4 x3_3 x13_1).length : Int) : Int) := of_decide_eq_true (by first | (with_reducible assumption) | assumption)
                                                            obtain ⟨go39, co39, eo39, gb39, gl39, cl39, HG39⟩ := Kd.R_form HL133_0.out (by omega)
                                                            (first | cases eo39 | (injection eo39 with ea_ en_ ec_; (first | subst ea_ | (injection ea_ with ea_; subst ea_)); subst ec_; clear en_))
                                                            have GB39 := Aside0.mk gb39
                                                            have GG39 := Aside0.mk HG39
                                                            clear gb39 gl39 HG39
                                                            (first | simp only [add_plain] at hx135_0 | skip)
                                                            obtain ⟨hx39_0, hf39_0⟩ := Kd.R_celln false HL133_0.out (x48_3 : Int) p39 q39
                                                            replace p39 := eq_true p39
                                                            replace q39 := eq_true q39
                                                            have hq41 : (x13_1 : Int) < (x3_3.length : Int) := (by have h_ : (x13_1 : Int) < ((x3_3.length : Int) : Int) := of_decide_eq_true (by first | (with_reducible assumption) | assumption); first | exact h_ | (have e_ := (Kd.S_reads' HO_3.out).1; omega) | simpa only [List.length_set, List.length_set] using h_)
                                                            obtain ⟨oki41, ce41, hcl41, hM41, hcc41, hok41, hbk41⟩ := Kd.S_borrow HO_3.out [] (x13_1 : Int) (of_decide_eq_true (by first | (with_reducible assumption) | assumption)) hq41
                                                            obtain ⟨ve41_0, rfl, ge41_0⟩ := hM41
                                                            have hv41 := hcc41 0 _ rfl
                                                            rw [Nat.add_zero, show ((Kd.slice 4 Kd.bool)).sz = 1 from rfl, Nat.mul_one] at hv41
                                                            replace hv41 := Option.some.inj (hv41.symm.trans HX133_0.out)
                                                            subst hv41
                                                            clear hcc41 hcl41
                                                            replace ge41_0 := (show Kd.R Kd.bool 4 _ _ _ _ (rd_L4 x3_3 x13_1) from ge41_0)
                                                            have HP41 := Kd.R_putg ge41_0 (x48_3 : Int) true
                                                            rw [← Ny136.out] at HP41
                                                            have HS41 := hbk41 HP41.2 (fun k_ e_ => by injection e_ with e_; subst e_; exact ge41_0.1 _ rfl) (x' := y136) (Kd.M_row HP41.1)
                                                            rw [← Ny138.out] at HS41
                                                            have HQ41 := Aside0.mk HS41
                                                            clear HP41 HS41 hbk41 hok41
                                                            have HX1_ : Aside0 (wr.drew.cell? ⟨go11, (x5_2).toNat, none⟩ = _) := ⟨HX_.out⟩
                                                            have HT1_ : Aside0 (wr.drew.heap[go11]? = _) := ⟨HT0_.out⟩
                                                            refine start_ (n := 17) (S := fun w' => w'.cell? ⟨go11, (x13_1).toNat, none⟩ = some (.slice (some ⟨go39, 0, none⟩) (rd_L4 x3_3 x13_1).length c133_0) ∧ w'.cell? ⟨go11, (x13_1).toNat, none⟩ = some (.slice (some ⟨go39, 0, none⟩) (rd_L4 x3_3 x13_1).length c133_0) ∧ w'.cell? ⟨go39, (x48_3).toNat, none⟩ = some (.bool true)) (ds := [16]) #[false, false, false, false, false, false, false, false, false, false, false, false, false, false, false, false, false] (by kernel_rfl) rfl rfl ⟨hx133_0, hx134_0, hx135_0⟩ (fun hHeld => ?_); refine with_tabW spec_l6Ahead.tab14 spec_l6Ahead.bits14 (fun HT_ HW_ => ?_)
                                                            generalize wr.drew = w40 at HX1_ HT1_ HO_3 HB GG39 HL133_0 HL134_0 HQ41 HR133_0 HR134_0 HX133_0 HX134_0 hf39_0 hx133_0 hx134_0 hx135_0 hx39_0 hHeld ⊢
                                                            refine pure_ (i := 0) (N := some 53) (v := ?_) (a' := ?_) #[true, false, false, false, false, false, false, false, false, false, false, false, false, false, false, false, false] rfl rfl (any_of HT_.out (by kernel_rfl)) (fun _ _ _ h => h) (Or.inl ⟨by rfl, ?_⟩) ?_ ?_
                                                            rotate_left
                                                            · intro w'
                                                              go_simp
                                                              with_reducible rfl
                                                            rotate_left
                                                            · simp only [Act.put, List.setIfInBounds_toArray, List.set_cons_zero, List.set_cons_succ, i64_w, i32_w]
                                                              rfl
                                                            refine pure_ (i := 1) (N := some 54) (v := ?_) (a' := ?_) #[true, true, false, false, false, false, false, false, false, false, false, false, false, false, false, false, false] rfl rfl (any_of HT_.out (by kernel_rfl)) (fun _ _ _ h => h) (Or.inl ⟨by rfl, ?_⟩) ?_ ?_
                                                            rotate_left
                                                            · intro w'
                                                              go_simp
                                                              with_reducible rfl
                                                            rotate_left
                                                            · simp only [Act.put, List.setIfInBounds_toArray, List.set_cons_zero, List.set_cons_succ, i64_w, i32_w]
                                                              rfl
                                                            refine pure_ (i := 2) (N := some 55) (v := ?_) (a' := ?_) #[true, true, true, false, false, false, false, false, false, false, false, false, false, false, false, false, false] rfl rfl (any_of HT_.out (by kernel_rfl)) (fun _ _ _ h => h) (Or.inl ⟨by rfl, ?_⟩) ?_ ?_
                                                            rotate_left
                                                            · intro w'
                                                              go_simp
                                                              with_reducible rfl
                                                            rotate_left
                                                            · simp only [Act.put, List.setIfInBounds_toArray, List.set_cons_zero, List.set_cons_succ, i64_w, i32_w]
                                                              rfl
                                                            refine pure_ (i := 4) (N := some 57) (v := ?_) (a' := ?_) #[true, true, true, false, true, false, false, false, false, false, false, false, false, false, false, false, false] rfl rfl (any_of HT_.out (by kernel_rfl)) (fun _ _ _ h => h) (Or.inl ⟨by rfl, ?_⟩) ?_ ?_
                                                            rotate_left
                                                            · intro w'
                                                              go_simp
                                                              with_reducible rfl
                                                            rotate_left
                                                            · simp only [Act.put, List.setIfInBounds_toArray, List.set_cons_zero, List.set_cons_succ, i64_w, i32_w]
                                                              rfl
                                                            refine pure_ (i := 5) (N := some 58) (v := ?_) (a' := ?_) #[true, true, true, false, true, true, false, false, false, false, false, false, false, false, false, false, false] rfl rfl (any_of HT_.out (by kernel_rfl)) (fun _ _ _ h => h) (Or.inl ⟨by rfl, ?_⟩) ?_ ?_
                                                            rotate_left
                                                            · intro w'
                                                              go_simp
                                                              with_reducible rfl
                                                            rotate_left
                                                            · simp only [Act.put, List.setIfInBounds_toArray, List.set_cons_zero, List.set_cons_succ, i64_w, i32_w]
                                                              rfl
                                                            refine pure_ (i := 6) (N := some 59) (v := ?_) (a' := ?_) #[true, true, true, false, true, true, true, false, false, false, false, false, false, false, false, false, false] rfl rfl (any_of HT_.out (by kernel_rfl)) (fun _ _ _ h => h) (Or.inl ⟨by rfl, ?_⟩) ?_ ?_
                                                            rotate_left
                                                            · intro w'
                                                              go_simp
                                                              with_reducible rfl
                                                            rotate_left
                                                            · simp only [Act.put, List.setIfInBounds_toArray, List.set_cons_zero, List.set_cons_succ, i64_w, i32_w]
                                                              rfl
                                                            refine pure_ (i := 7) (N := some 60) (v := ?_) (a' := ?_) #[true, true, true, false, true, true, true, true, false, false, false, false, false, false, false, false, false] rfl rfl (any_of HT_.out (by kernel_rfl)) (fun _ _ _ h => h) (Or.inl ⟨by rfl, ?_⟩) ?_ ?_
                                                            rotate_left
                                                            · intro w'
                                                              go_simp
                                                              with_reducible rfl
                                                            rotate_left
                                                            · simp only [Act.put, List.setIfInBounds_toArray, List.set_cons_zero, List.set_cons_succ, i64_w, i32_w]
                                                              rfl
                                                            refine pure_ (i := 9) (N := some 62) (v := ?_) (a' := ?_) #[true, true, true, false, true, true, true, true, false, true, false, false, false, false, false, false, false] rfl rfl (any_of HT_.out (by kernel_rfl)) (fun _ _ _ h => h) (Or.inl ⟨by rfl, ?_⟩) ?_ ?_
                                                            rotate_left
                                                            · intro w'
                                                              go_simp
                                                              with_reducible rfl
                                                            rotate_left
                                                            · simp only [Act.put, List.setIfInBounds_toArray, List.set_cons_zero, List.set_cons_succ, i64_w, i32_w]
                                                              rfl
                                                            refine take_ (i := 3) (N := some 56) (v := ?_) (a' := ?_) #[true, true, true, true, true, true, true, true, false, true, false, false, false, false, false, false, false] rfl rfl (take_ofW HT_.out HW_.out (by kernel_rfl)) (fun _ _ _ h => h) (Or.inl ⟨by rfl, ?_⟩) hHeld ?_ ?_
                                                            rotate_left
                                                            · rintro w' ⟨s0, s1, s2⟩
                                                              go_simp
                                                              with_reducible rfl
                                                            rotate_left
                                                            · simp only [Act.put, List.setIfInBounds_toArray, List.set_cons_zero, List.set_cons_succ, i64_w, i32_w]
                                                              rfl
                                                            refine take_ (i := 8) (N := some 61) (v := ?_) (a' := ?_) #[true, true, true, true, true, true, true, true, true, true, false, false, false, false, false, false, false] rfl rfl (take_ofW HT_.out HW_.out (by kernel_rfl)) (fun _ _ _ h => h) (Or.inl ⟨by rfl, ?_⟩) hHeld ?_ ?_
                                                            rotate_left
                                                            · rintro w' ⟨s0, s1, s2⟩
                                                              go_simp
                                                              with_reducible rfl
                                                            rotate_left
                                                            · simp only [Act.put, List.setIfInBounds_toArray, List.set_cons_zero, List.set_cons_succ, i64_w, i32_w]
                                                              rfl
                                                            refine pure_ (i := 10) (N := some 63) (v := ?_) (a' := ?_) #[true, true, true, true, true, true, true, true, true, true, true, false, false, false, false, false, false] rfl rfl (any_of HT_.out (by kernel_rfl)) (fun _ _ _ h => h) (Or.inl ⟨by rfl, ?_⟩) ?_ ?_
                                                            rotate_left
                                                            · intro w'
                                                              go_simp
                                                              with_reducible rfl
                                                            rotate_left
                                                            · simp only [Act.put, List.setIfInBounds_toArray, List.set_cons_zero, List.set_cons_succ, i64_w, i32_w]
                                                              rfl
                                                            refine take_ (i := 11) (N := some 64) (v := ?_) (a' := ?_) #[true, true, true, true, true, true, true, true, true, true, true, true, false, false, false, false, false] rfl rfl (take_ofW HT_.out HW_.out (by kernel_rfl)) (fun _ _ _ h => h) (Or.inl ⟨by rfl, ?_⟩) hHeld ?_ ?_
                                                            rotate_left
                                                            · rintro w' ⟨s0, s1, s2⟩
                                                              go_simp
                                                              with_reducible rfl
                                                            rotate_left
                                                            · simp only [Act.put, List.setIfInBounds_toArray, List.set_cons_zero, List.set_cons_succ, i64_w, i32_w]
                                                              rfl
                                                            refine pure_ (i := 12) (N := some 65) (v := ?_) (a' := ?_) #[true, true, true, true, true, true, true, true, true, true, true, true, true, false, false, false, false] rfl rfl (any_of HT_.out (by kernel_rfl)) (fun _ _ _ h => h) (Or.inl ⟨by rfl, ?_⟩) ?_ ?_
                                                            rotate_left
                                                            · intro w'
                                                              go_simp
                                                              with_reducible rfl
                                                            rotate_left
                                                            · simp only [Act.put, List.setIfInBounds_toArray, List.set_cons_zero, List.set_cons_succ, i64_w, i32_w]
                                                              rfl
                                                            refine pure_ (i := 13) (N := some 66) (v := undef) (a' := ?_) #[true, true, true, true, true, true, true, true, true, true, true, true, true, true, false, false, false] rfl rfl (any_of HT_.out (by kernel_rfl)) (fun _ _ _ h => h) (Or.inr ⟨by rfl, rfl⟩) ?_ ?_
                                                            rotate_left
                                                            · simp only [Act.put, List.setIfInBounds_toArray, List.set_cons_zero, List.set_cons_succ, i64_w, i32_w]
                                                              rfl
                                                            refine pure_ (i := 14) (N := some 67) (v := ?_) (a' := ?_) #[true, true, true, true, true, true, true, true, true, true, true, true, true, true, true, false, false] rfl rfl (any_of HT_.out (by kernel_rfl)) (fun _ _ _ h => h) (Or.inl ⟨by rfl, ?_⟩) ?_ ?_
                                                            rotate_left
                                                            · intro w'
                                                              go_simp
                                                              with_reducible rfl
                                                            rotate_left
                                                            · simp only [Act.put, List.setIfInBounds_toArray, List.set_cons_zero, List.set_cons_succ, i64_w, i32_w]
                                                              rfl
                                                            refine pure_ (i := 15) (N := some 68) (v := ?_) (a' := ?_) #[true, true, true, true, true, true, true, true, true, true, true, true, true, true, true, true, false] rfl rfl (any_of HT_.out (by kernel_rfl)) (fun _ _ _ h => h) (Or.inl ⟨by rfl, ?_⟩) ?_ ?_
                                                            rotate_left
                                                            · intro w'
                                                              go_simp
                                                              with_reducible rfl
                                                            rotate_left
                                                            · simp only [Act.put, List.setIfInBounds_toArray, List.set_cons_zero, List.set_cons_succ, i64_w, i32_w]
                                                              rfl
                                                            refine last_ (i := 16) (N := none) #[true, true, true, true, true, true, true, true, true, true, true, true, true, true, true, true, true] rfl rfl (one_of HT_.out (by kernel_rfl)) (by decide) (fun K hK => ?_)
                                                            refine skip_ (w1 := ?_) (by rfl) rfl ?_ ?_
                                                            rotate_left
                                                            · go_simp
                                                              rfl
                                                            refine hK.out _ _ ?_
                                                            clear hK K
                                                            refine done_ (done_of HT_.out (by kernel_rfl)) ?_
                                                            try go_wp2
                                                            (try simp only [← hl3_3])
                                                            go_roundg k3
                                                            case measure => have := HK1.out; have := HK2.out; have := HK3.out; omega
                                                            case rel => exact ⟨(y138), (wrap64 (x48_3 + 1)), (by first | rfl | (simp; done) | (simp [*]; done)), H', ⟨by have := HK1.out; have := HK2.out; have := HK3.out; omega⟩, ⟨by (try simp only [hl3_2]); (try simp only [hl3_3]); (with_reducible repeat first|apply sA_|apply sN_|apply sD_); exact HQ41.out⟩, ⟨by repeat (first | (with_reducible first|exact HB.out|apply vA_|apply vN_|apply vD_ | refine vS_ ?_ GB39.out) | exact HB.out)⟩, ⟨late_cell HT1_.out GG39.out (by decide) HX1_.out _ _⟩⟩
                                                          · replace c38 := Bool.eq_false_iff.mpr c38
                                                            subst c38
                                                            have H1 : (spec_l6Ahead.l2 k3 l0 (x3_3.set (x13_1 : Int).toNat ((rd_L4 x3_3 x13_1).set (x48_3 : Int).toNat (rdOf false (rd_L4 y130 x5_2) x48_3))) x13_1 x5_2 (l0.length : Int) x13_1 (rd_L4 y130 x5_2) ((rd_L4 y130 x5_2).length : Int) (wrap64 (x48_3 + 1))) = some r := by rw [if_neg (show ¬ (false = true) by decide)] at H; exact H
                                                            clear H
                                                            have H := H1
                                                            clear H1
                                                            obtain ⟨y139, hy139⟩ : ∃ y_ : List Bool, y_ = ((rd_L4 x3_3 x13_1).set (x48_3 : Int).toNat (rdOf false (rd_L4 y130 x5_2) x48_3)) := ⟨_, rfl⟩
                                                            replace H : (spec_l6Ahead.l2 k3 l0 (x3_3.set (x13_1 : Int).toNat y139) x13_1 x5_2 (l0.length : Int) x13_1 (rd_L4 y130 x5_2) ((rd_L4 y130 x5_2).length : Int) (wrap64 (x48_3 + 1))) = some r := by first | (rw [hy139]; with_reducible exact H) | (have H2_ := (Option.bind_some _ _).symm.trans H; rw [hy139]; with_reducible exact H2_) | (have H2_ := (Option.bind_some _ _).symm.trans H; with_reducible exact H2_) | with_reducible exact H | (rw [hy139]; exact H) | exact H
                                                            have Ny139 := Aside0.mk hy139
                                                            clear hy139
                                                            obtain ⟨y141, hy141⟩ : ∃ y_ : List (List Bool), y_ = (x3_3.set (x13_1 : Int).toNat y139) := ⟨_, rfl⟩
                                                            replace H : (spec_l6Ahead.l2 k3 l0 y141 x13_1 x5_2 (l0.length : Int) x13_1 (rd_L4 y130 x5_2) ((rd_L4 y130 x5_2).length : Int) (wrap64 (x48_3 + 1))) = some r := by first | (rw [hy141]; with_reducible exact H) | (have H2_ := (Option.bind_some _ _).symm.trans H; rw [hy141]; with_reducible exact H2_) | (have H2_ := (Option.bind_some _ _).symm.trans H; with_reducible exact H2_) | with_reducible exact H | (rw [hy141]; exact H) | exact H
                                                            have Ny141 := Aside0.mk hy141
                                                            clear hy141
                                                            have H' := Aside0.mk H
                                                            clear H
                                                            have p132 : 0 ≤ (x48_3 : Int) := of_decide_eq_true (by first | (with_reducible assumption) | assumption)
                                                            have q132 : x48_3 < ((rd_L4 y130 x5_2).length : Int) := of_decide_eq_true (by first | (with_reducible assumption) | assumption)
                                                            obtain ⟨ad132, e132, hx132_0⟩ := Kd.at_bool HR131_0.out x48_3 p132 q132
                                                            (try rw [← Nbq37.out] at hx132_0)
                                                            cases e132
                                                            try replace hx132_0 := (HB.out.cell (World.block_lt_of_cell? w _ hx132_0)).trans hx132_0
                                                            replace p132 := eq_true p132
                                                            replace q132 := eq_true q132
                                                            try go_wp2
                                                            have n0_ := Aside0.mk (Kd.S_drew HO_3.out)
                                                            have n1_ := Aside0.mk (below_drew1 HB.out)
                                                            clear HO_3
                                                            clear HB
                                                            have HO_3 := n0_
                                                            have HB := n1_
                                                            clear n0_ n1_
                                                            have p133 : 0 ≤ (x13_1 : Int) := of_decide_eq_true (by first | (with_reducible assumption) | assumption)
                                                            have q133 : x13_1 < (x3_3.length : Int) := of_decide_eq_true (by first | (with_reducible assumption) | assumption)
                                                            obtain ⟨ad133, A133_0, c133_0, e133, hx133_0, hl133_0, hi133_0⟩ := at_L4 (Kd.S_reads' HO_3.out).2.2 x13_1 p133 q133
                                                            obtain rfl : (⟨go11, 0, none⟩ : Addr) = ad133 := (by injection e133)
                                                            obtain ⟨ce133, hce133, hMe133, hcc133⟩ := Kd.S_get HO_3.out [] x13_1 p133 (by first | exact q133 | exact of_decide_eq_true (by first | (with_reducible assumption) | assumption) | (have e_ := (Kd.S_reads' HO_3.out).1; omega))
                                                            obtain ⟨ve133_0, rfl, ge133_0⟩ := hMe133
                                                            have hv133_0 := hcc133 0 _ rfl
                                                            rw [Nat.add_zero, show ((Kd.slice 4 Kd.bool)).sz = 1 from rfl, Nat.mul_one] at hv133_0
                                                            replace hv133_0 := Option.some.inj (hv133_0.symm.trans hx133_0)
                                                            rw [hv133_0] at ge133_0
                                                            have HL133_0 := Aside0.mk (show Kd.R Kd.bool 4 _ _ _ _ (rd_L4 x3_3 x13_1) from ge133_0)
                                                            clear hv133_0 ge133_0
                                                            have HX133_0 := Aside0.mk hx133_0
                                                            clear hcc133 hce133
                                                            (first | simp only [add_plain] at hx133_0 | simp only [add_at] at hx133_0 | simp only [Addr.add, Nat.zero_add] at hx133_0 | skip)
                                                            have HR133_0 := Aside0.mk hi133_0
                                                            have HC133_0 := Aside0.mk hl133_0
                                                            clear hi133_0 hl133_0
                                                            replace p133 := eq_true p133
                                                            replace q133 := eq_true q133
                                                            have p134 : 0 ≤ (x13_1 : Int) := of_decide_eq_true (by first | (with_reducible assumption) | assumption)
                                                            have q134 : x13_1 < (x3_3.length : Int) := of_decide_eq_true (by first | (with_reducible assumption) | assumption)
                                                            obtain ⟨ad134, A134_0, c134_0, e134, hx134_0, hl134_0, hi134_0⟩ := at_L4 (Kd.S_reads' HO_3.out).2.2 x13_1 p134 q134
                                                            obtain rfl : (⟨go11, 0, none⟩ : Addr) = ad134 := (by injection e134)
                                                            obtain ⟨ce134, hce134, hMe134, hcc134⟩ := Kd.S_get HO_3.out [] x13_1 p134 (by first | exact q134 | exact of_decide_eq_true (by first | (with_reducible assumption) | assumption) | (have e_ := (Kd.S_reads' HO_3.out).1; omega))
                                                            obtain ⟨ve134_0, rfl, ge134_0⟩ := hMe134
                                                            have hv134_0 := hcc134 0 _ rfl
                                                            rw [Nat.add_zero, show ((Kd.slice 4 Kd.bool)).sz = 1 from rfl, Nat.mul_one] at hv134_0
                                                            replace hv134_0 := Option.some.inj (hv134_0.symm.trans hx134_0)
                                                            rw [hv134_0] at ge134_0
                                                            have HL134_0 := Aside0.mk (show Kd.R Kd.bool 4 _ _ _ _ (rd_L4 x3_3 x13_1) from ge134_0)
                                                            clear hv134_0 ge134_0
                                                            have HX134_0 := Aside0.mk hx134_0
                                                            clear hcc134 hce134
                                                            (first | simp only [add_plain] at hx134_0 | simp only [add_at] at hx134_0 | simp only [Addr.add, Nat.zero_add] at hx134_0 | skip)
                                                            have HR134_0 := Aside0.mk hi134_0
                                                            have HC134_0 := Aside0.mk hl134_0
                                                            clear hi134_0 hl134_0
                                                            replace p134 := eq_true p134
                                                            replace q134 := eq_true q134
                                                            have ea_ := Option.some.inj (hx133_0.symm.trans hx134_0)
                                                            injection ea_ with ea_ en_ ec_
                                                            subst ea_
                                                            subst ec_
                                                            clear en_
                                                            have p135 : 0 ≤ (x48_3 : Int) := of_decide_eq_true (by first | (with_reducible assumption) | assumption)
                                                            have q135 : x48_3 < ((rd_L4 x3_3 x13_1).length : Int) := of_decide_eq_true (by first | (with_reducible assumption) | assumption)
                                                            obtain ⟨ad135, e135, hx135_0⟩ := Kd.at_bool (by repeat (first | (with_reducible exact HR134_0.out) | with_reducible apply cA_|with_reducible apply cN_|with_reducible apply cD_ | exact HR134_0.out)) x48_3 p135 q135
                                                            (try rw [← Nbq37.out] at hx135_0)
                                                            cases e135
                                                            replace p135 := eq_true p135
                                                            replace q135 := eq_true q135
                                                            have p43 : 0 ≤ (x48_3 : Int) := of_decide_eq_true (by first | (with_reducible assumption) | assumption)
                                                            have q43 : (x48_3 : Int) < (((rd_L4 x3_3 x13_1).length : Int) : Int) := of_decide_eq_true (by first | (with_reducible assumption) | assumption)
                                                            obtain ⟨go43, co43, eo43, gb43, gl43, cl43, HG43⟩ := Kd.R_form HL133_0.out (by omega)
                                                            (first | cases eo43 | (injection eo43 with ea_ en_ ec_; (first | subst ea_ | (injection ea_ with ea_; subst ea_)); subst ec_; clear en_))
                                                            have GB43 := Aside0.mk gb43
                                                            have GG43 := Aside0.mk HG43
                                                            clear gb43 gl43 HG43
                                                            (first | simp only [add_plain] at hx135_0 | skip)
                                                            obtain ⟨hx43_0, hf43_0⟩ := Kd.R_celln false HL133_0.out (x48_3 : Int) p43 q43
                                                            replace p43 := eq_true p43
                                                            replace q43 := eq_true q43
                                                            have hq45 : (x13_1 : Int) < (x3_3.length : Int) := (by have h_ : (x13_1 : Int) < ((x3_3.length : Int) : Int) := of_decide_eq_true (by first | (with_reducible assumption) | assumption); first | exact h_ | (have e_ := (Kd.S_reads' HO_3.out).1; omega) | simpa only [List.length_set, List.length_set] using h_)
                                                            obtain ⟨oki45, ce45, hcl45, hM45, hcc45, hok45, hbk45⟩ := Kd.S_borrow HO_3.out [] (x13_1 : Int) (of_decide_eq_true (by first | (with_reducible assumption) | assumption)) hq45
                                                            obtain ⟨ve45_0, rfl, ge45_0⟩ := hM45
                                                            have hv45 := hcc45 0 _ rfl
                                                            rw [Nat.add_zero, show ((Kd.slice 4 Kd.bool)).sz = 1 from rfl, Nat.mul_one] at hv45
                                                            replace hv45 := Option.some.inj (hv45.symm.trans HX133_0.out)
                                                            subst hv45
                                                            clear hcc45 hcl45
                                                            replace ge45_0 := (show Kd.R Kd.bool 4 _ _ _ _ (rd_L4 x3_3 x13_1) from ge45_0)
                                                            have HP45 := Kd.R_putg ge45_0 (x48_3 : Int) (rdOf false (rd_L4 y130 x5_2) x48_3)
                                                            rw [← Ny139.out] at HP45
                                                            have HS45 := hbk45 HP45.2 (fun k_ e_ => by injection e_ with e_; subst e_; exact ge45_0.1 _ rfl) (x' := y139) (Kd.M_row HP45.1)
                                                            rw [← Ny141.out] at HS45
                                                            have HQ45 := Aside0.mk HS45
                                                            clear HP45 HS45 hbk45 hok45
                                                            have HX1_ : Aside0 (wr.drew.cell? ⟨go11, (x5_2).toNat, none⟩ = _) := ⟨HX_.out⟩
                                                            have HT1_ : Aside0 (wr.drew.heap[go11]? = _) := ⟨HT0_.out⟩
                                                            refine start_ (n := 17) (S := fun w' => w'.cell? ⟨go11, (x13_1).toNat, none⟩ = some (.slice (some ⟨go43, 0, none⟩) (rd_L4 x3_3 x13_1).length c133_0) ∧ w'.cell? ⟨go11, (x13_1).toNat, none⟩ = some (.slice (some ⟨go43, 0, none⟩) (rd_L4 x3_3 x13_1).length c133_0) ∧ w'.cell? ⟨go43, (x48_3).toNat, none⟩ = some (.bool false)) (ds := [16]) #[false, false, false, false, false, false, false, false, false, false, false, false, false, false, false, false, false] (by kernel_rfl) rfl rfl ⟨hx133_0, hx134_0, hx135_0⟩ (fun hHeld => ?_); refine with_tabW spec_l6Ahead.tab14 spec_l6Ahead.bits14 (fun HT_ HW_ => ?_)
                                                            generalize wr.drew = w44 at HX1_ HT1_ HO_3 HB GG43 HL133_0 HL134_0 HQ45 HR133_0 HR134_0 HX133_0 HX134_0 hf43_0 hx133_0 hx134_0 hx135_0 hx43_0 hHeld ⊢
                                                            refine pure_ (i := 0) (N := some 53) (v := ?_) (a' := ?_) #[true, false, false, false, false, false, false, false, false, false, false, false, false, false, false, false, false] rfl rfl (any_of HT_.out (by kernel_rfl)) (fun _ _ _ h => h) (Or.inl ⟨by rfl, ?_⟩) ?_ ?_
                                                            rotate_left
                                                            · intro w'
                                                              go_simp
                                                              with_reducible rfl
                                                            rotate_left
                                                            · simp only [Act.put, List.setIfInBounds_toArray, List.set_cons_zero, List.set_cons_succ, i64_w, i32_w]
                                                              rfl
                                                            refine pure_ (i := 1) (N := some 54) (v := ?_) (a' := ?_) #[true, true, false, false, false, false, false, false, false, false, false, false, false, false, false, false, false] rfl rfl (any_of HT_.out (by kernel_rfl)) (fun _ _ _ h => h) (Or.inl ⟨by rfl, ?_⟩) ?_ ?_
                                                            rotate_left
                                                            · intro w'
                                                              go_simp
                                                              with_reducible rfl
                                                            rotate_left
                                                            · simp only [Act.put, List.setIfInBounds_toArray, List.set_cons_zero, List.set_cons_succ, i64_w, i32_w]
                                                              rfl
                                                            refine pure_ (i := 2) (N := some 55) (v := ?_) (a' := ?_) #[true, true, true, false, false, false, false, false, false, false, false, false, false, false, false, false, false] rfl rfl (any_of HT_.out (by kernel_rfl)) (fun _ _ _ h => h) (Or.inl ⟨by rfl, ?_⟩) ?_ ?_
                                                            rotate_left
                                                            · intro w'
                                                              go_simp
                                                              with_reducible rfl
                                                            rotate_left
                                                            · simp only [Act.put, List.setIfInBounds_toArray, List.set_cons_zero, List.set_cons_succ, i64_w, i32_w]
                                                              rfl
                                                            refine pure_ (i := 4) (N := some 57) (v := ?_) (a' := ?_) #[true, true, true, false, true, false, false, false, false, false, false, false, false, false, false, false, false] rfl rfl (any_of HT_.out (by kernel_rfl)) (fun _ _ _ h => h) (Or.inl ⟨by rfl, ?_⟩) ?_ ?_
                                                            rotate_left
                                                            · intro w'
                                                              go_simp
                                                              with_reducible rfl
                                                            rotate_left
                                                            · simp only [Act.put, List.setIfInBounds_toArray, List.set_cons_zero, List.set_cons_succ, i64_w, i32_w]
                                                              rfl
                                                            refine pure_ (i := 5) (N := some 58) (v := ?_) (a' := ?_) #[true, true, true, false, true, true, false, false, false, false, false, false, false, false, false, false, false] rfl rfl (any_of HT_.out (by kernel_rfl)) (fun _ _ _ h => h) (Or.inl ⟨by rfl, ?_⟩) ?_ ?_
                                                            rotate_left
                                                            · intro w'
                                                              go_simp
                                                              with_reducible rfl
                                                            rotate_left
                                                            · simp only [Act.put, List.setIfInBounds_toArray, List.set_cons_zero, List.set_cons_succ, i64_w, i32_w]
                                                              rfl
                                                            refine pure_ (i := 6) (N := some 59) (v := ?_) (a' := ?_) #[true, true, true, false, true, true, true, false, false, false, false, false, false, false, false, false, false] rfl rfl (any_of HT_.out (by kernel_rfl)) (fun _ _ _ h => h) (Or.inl ⟨by rfl, ?_⟩) ?_ ?_
                                                            rotate_left
                                                            · intro w'
                                                              go_simp
                                                              with_reducible rfl
                                                            rotate_left
                                                            · simp only [Act.put, List.setIfInBounds_toArray, List.set_cons_zero, List.set_cons_succ, i64_w, i32_w]
                                                              rfl
                                                            refine pure_ (i := 7) (N := some 60) (v := ?_) (a' := ?_) #[true, true, true, false, true, true, true, true, false, false, false, false, false, false, false, false, false] rfl rfl (any_of HT_.out (by kernel_rfl)) (fun _ _ _ h => h) (Or.inl ⟨by rfl, ?_⟩) ?_ ?_
                                                            rotate_left
                                                            · intro w'
                                                              go_simp
                                                              with_reducible rfl
                                                            rotate_left
                                                            · simp only [Act.put, List.setIfInBounds_toArray, List.set_cons_zero, List.set_cons_succ, i64_w, i32_w]
                                                              rfl
                                                            refine pure_ (i := 9) (N := some 62) (v := ?_) (a' := ?_) #[true, true, true, false, true, true, true, true, false, true, false, false, false, false, false, false, false] rfl rfl (any_of HT_.out (by kernel_rfl)) (fun _ _ _ h => h) (Or.inl ⟨by rfl, ?_⟩) ?_ ?_
                                                            rotate_left
                                                            · intro w'
                                                              go_simp
                                                              with_reducible rfl
                                                            rotate_left
                                                            · simp only [Act.put, List.setIfInBounds_toArray, List.set_cons_zero, List.set_cons_succ, i64_w, i32_w]
                                                              rfl
                                                            refine take_ (i := 3) (N := some 56) (v := ?_) (a' := ?_) #[true, true, true, true, true, true, true, true, false, true, false, false, false, false, false, false, false] rfl rfl (take_ofW HT_.out HW_.out (by kernel_rfl)) (fun _ _ _ h => h) (Or.inl ⟨by rfl, ?_⟩) hHeld ?_ ?_
                                                            rotate_left
                                                            · rintro w' ⟨s0, s1, s2⟩
                                                              go_simp
                                                              with_reducible rfl
                                                            rotate_left
                                                            · simp only [Act.put, List.setIfInBounds_toArray, List.set_cons_zero, List.set_cons_succ, i64_w, i32_w]
                                                              rfl
                                                            refine take_ (i := 8) (N := some 61) (v := ?_) (a' := ?_) #[true, true, true, true, true, true, true, true, true, true, false, false, false, false, false, false, false] rfl rfl (take_ofW HT_.out HW_.out (by kernel_rfl)) (fun _ _ _ h => h) (Or.inl ⟨by rfl, ?_⟩) hHeld ?_ ?_
                                                            rotate_left
                                                            · rintro w' ⟨s0, s1, s2⟩
                                                              go_simp
                                                              with_reducible rfl
                                                            rotate_left
                                                            · simp only [Act.put, List.setIfInBounds_toArray, List.set_cons_zero, List.set_cons_succ, i64_w, i32_w]
                                                              rfl
                                                            refine pure_ (i := 10) (N := some 63) (v := ?_) (a' := ?_) #[true, true, true, true, true, true, true, true, true, true, true, false, false, false, false, false, false] rfl rfl (any_of HT_.out (by kernel_rfl)) (fun _ _ _ h => h) (Or.inl ⟨by rfl, ?_⟩) ?_ ?_
                                                            rotate_left
                                                            · intro w'
                                                              go_simp
                                                              with_reducible rfl
                                                            rotate_left
                                                            · simp only [Act.put, List.setIfInBounds_toArray, List.set_cons_zero, List.set_cons_succ, i64_w, i32_w]
                                                              rfl
                                                            refine take_ (i := 11) (N := some 64) (v := ?_) (a' := ?_) #[true, true, true, true, true, true, true, true, true, true, true, true, false, false, false, false, false] rfl rfl (take_ofW HT_.out HW_.out (by kernel_rfl)) (fun _ _ _ h => h) (Or.inl ⟨by rfl, ?_⟩) hHeld ?_ ?_
                                                            rotate_left
                                                            · rintro w' ⟨s0, s1, s2⟩
                                                              go_simp
                                                              with_reducible rfl
                                                            rotate_left
                                                            · simp only [Act.put, List.setIfInBounds_toArray, List.set_cons_zero, List.set_cons_succ, i64_w, i32_w]
                                                              rfl
                                                            refine pure_ (i := 12) (N := some 65) (v := ?_) (a' := ?_) #[true, true, true, true, true, true, true, true, true, true, true, true, true, false, false, false, false] rfl rfl (any_of HT_.out (by kernel_rfl)) (fun _ _ _ h => h) (Or.inl ⟨by rfl, ?_⟩) ?_ ?_
                                                            rotate_left
                                                            · intro w'
                                                              go_simp
                                                              with_reducible rfl
                                                            rotate_left
                                                            · simp only [Act.put, List.setIfInBounds_toArray, List.set_cons_zero, List.set_cons_succ, i64_w, i32_w]
                                                              rfl
                                                            refine pure_ (i := 13) (N := some 66) (v := ?_) (a' := ?_) #[true, true, true, true, true, true, true, true, true, true, true, true, true, true, false, false, false] rfl rfl (any_of HT_.out (by kernel_rfl)) (fun _ _ _ h => h) (Or.inl ⟨by rfl, ?_⟩) ?_ ?_
                                                            rotate_left
                                                            · intro w'
                                                              go_simp
                                                              with_reducible rfl
                                                            rotate_left
                                                            · simp only [Act.put, List.setIfInBounds_toArray, List.set_cons_zero, List.set_cons_succ, i64_w, i32_w]
                                                              rfl
                                                            refine pure_ (i := 14) (N := some 67) (v := ?_) (a' := ?_) #[true, true, true, true, true, true, true, true, true, true, true, true, true, true, true, false, false] rfl rfl (any_of HT_.out (by kernel_rfl)) (fun _ _ _ h => h) (Or.inl ⟨by rfl, ?_⟩) ?_ ?_
                                                            rotate_left
                                                            · intro w'
                                                              go_simp
                                                              with_reducible rfl
                                                            rotate_left
                                                            · simp only [Act.put, List.setIfInBounds_toArray, List.set_cons_zero, List.set_cons_succ, i64_w, i32_w]
                                                              rfl
                                                            refine pure_ (i := 15) (N := some 68) (v := ?_) (a' := ?_) #[true, true, true, true, true, true, true, true, true, true, true, true, true, true, true, true, false] rfl rfl (any_of HT_.out (by kernel_rfl)) (fun _ _ _ h => h) (Or.inl ⟨by rfl, ?_⟩) ?_ ?_
                                                            rotate_left
                                                            · intro w'
                                                              go_simp
                                                              with_reducible rfl
                                                            rotate_left
                                                            · simp only [Act.put, List.setIfInBounds_toArray, List.set_cons_zero, List.set_cons_succ, i64_w, i32_w]
                                                              rfl
                                                            refine last_ (i := 16) (N := none) #[true, true, true, true, true, true, true, true, true, true, true, true, true, true, true, true, true] rfl rfl (one_of HT_.out (by kernel_rfl)) (by decide) (fun K hK => ?_)
                                                            refine skip_ (w1 := ?_) (by rfl) rfl ?_ ?_
                                                            rotate_left
                                                            · go_simp
                                                              rfl
                                                            refine hK.out _ _ ?_
                                                            clear hK K
                                                            refine done_ (done_of HT_.out (by kernel_rfl)) ?_
                                                            try go_wp2
                                                            (try simp only [← hl3_3])
                                                            go_roundg k3
                                                            case measure => have := HK1.out; have := HK2.out; have := HK3.out; omega
                                                            case rel => exact ⟨(y141), (wrap64 (x48_3 + 1)), (by first | rfl | (simp; done) | (simp [*]; done)), H', ⟨by have := HK1.out; have := HK2.out; have := HK3.out; omega⟩, ⟨by (try simp only [hl3_2]); (try simp only [hl3_3]); (with_reducible repeat first|apply sA_|apply sN_|apply sD_); exact HQ45.out⟩, ⟨by repeat (first | (with_reducible first|exact HB.out|apply vA_|apply vN_|apply vD_ | refine vS_ ?_ GB43.out) | exact HB.out)⟩, ⟨late_cell HT1_.out GG43.out (by decide) HX1_.out _ _⟩⟩
                                                        · rw [if_neg c36] at H
                                                          exact absurd H (by simp)
                                                      · rw [if_neg c35] at H
                                                        exact absurd H (by simp)
                                                    · rw [if_neg c34] at H
                                                      exact absurd H (by simp)
                                                  · rw [if_neg c33] at H
                                                    exact absurd H (by simp)
                                                · rw [if_neg c32] at H
                                                  exact absurd H (by simp)
                                              · rw [if_neg c31] at H
                                                have c31b0 : decide (x48_3 < ((rd_L4 y130 x5_2).length : Int)) = false := decide_eq_false c31
                                                clear c31
                                                have H' := Aside0.mk H
                                                clear H
                                                go_wp2
                                                (try simp only [← hl3_2, ← hl3_3])
                                                go_roundg k3
                                                case measure => have := HK1.out; have := HK2.out; have := HK3.out; omega
                                                case rel => exact ⟨(x3_3), (wrap64 (x5_2 + 1)), (by first | rfl | (simp; done) | (simp [*]; done)), H', ⟨by have := HK1.out; have := HK2.out; have := HK3.out; omega⟩, ⟨by (try simp only [hl3_2]); (try simp only [hl3_3]); (with_reducible repeat first|apply sA_|apply sN_|apply sD_); exact HO_3.out⟩, ⟨by repeat (first | (with_reducible first|exact HB.out|apply vA_|apply vN_|apply vD_) | exact HB.out)⟩⟩
                                        · rw [if_neg c26] at H
                                          exact absurd H (by simp)
                                      · rw [if_neg c24] at H
                                        exact absurd H (by simp)
                                    · rw [if_neg c23] at H
                                      exact absurd H (by simp)
                                  · replace c22 := Bool.eq_false_iff.mpr c22
                                    subst c22
                                    have H1 : (spec_l6Ahead.l1 k2 l0 x3_2 x13_1 (wrap64 (x5_2 + 1)) (l0.length : Int) x13_1) = some r := by rw [if_neg (show ¬ (false = true) by decide)] at H; exact H
                                    clear H
                                    have H := H1
                                    clear H1
                                    have H' := Aside0.mk H
                                    clear H
                                    try go_wp2
                                    have n0_ := Aside0.mk (Kd.S_drew HO_3.out)
                                    have n1_ := Aside0.mk (below_drew1 HB.out)
                                    clear HO_3
                                    clear HB
                                    have HO_3 := n0_
                                    have HB := n1_
                                    clear n0_ n1_
                                    have p124 : 0 ≤ (x5_2 : Int) := of_decide_eq_true (by first | (with_reducible assumption) | assumption)
                                    have q124 : x5_2 < (l0.length : Int) := of_decide_eq_true (by first | (with_reducible assumption) | assumption)
                                    obtain ⟨ad124, e124, hx124_0, hx124_1, hx124_2, hx124_3, hx124_4⟩ := at_T118 HR0.out x5_2 p124 q124
                                    have hw124_4 := hx124_4
                                    have hw124_3 := hx124_3
                                    have hw124_2 := hx124_2
                                    have hw124_1 := hx124_1
                                    have hw124_0 := hx124_0
                                    cases e124
                                    try replace hx124_0 := (HB.out.cell (World.block_lt_of_cell? w _ hx124_0)).trans hx124_0
                                    try replace hx124_1 := (HB.out.cell (World.block_lt_of_cell? w _ hx124_1)).trans hx124_1
                                    try replace hx124_2 := (HB.out.cell (World.block_lt_of_cell? w _ hx124_2)).trans hx124_2
                                    try replace hx124_3 := (HB.out.cell (World.block_lt_of_cell? w _ hx124_3)).trans hx124_3
                                    try replace hx124_4 := (HB.out.cell (World.block_lt_of_cell? w _ hx124_4)).trans hx124_4
                                    replace p124 := eq_true p124
                                    replace q124 := eq_true q124
                                    have p125 : 0 ≤ (x13_1 : Int) := of_decide_eq_true (by first | (with_reducible assumption) | assumption)
                                    have q125 : x13_1 < (l0.length : Int) := of_decide_eq_true (by first | (with_reducible assumption) | assumption)
                                    obtain ⟨ad125, e125, hx125_0, hx125_1, hx125_2, hx125_3, hx125_4⟩ := at_T118 HR0.out x13_1 p125 q125
                                    have hw125_4 := hx125_4
                                    have hw125_3 := hx125_3
                                    have hw125_2 := hx125_2
                                    have hw125_1 := hx125_1
                                    have hw125_0 := hx125_0
                                    obtain rfl : ad124 = ad125 := (by injection e125)
                                    try replace hx125_0 := (HB.out.cell (World.block_lt_of_cell? w _ hx125_0)).trans hx125_0
                                    try replace hx125_1 := (HB.out.cell (World.block_lt_of_cell? w _ hx125_1)).trans hx125_1
                                    try replace hx125_2 := (HB.out.cell (World.block_lt_of_cell? w _ hx125_2)).trans hx125_2
                                    try replace hx125_3 := (HB.out.cell (World.block_lt_of_cell? w _ hx125_3)).trans hx125_3
                                    try replace hx125_4 := (HB.out.cell (World.block_lt_of_cell? w _ hx125_4)).trans hx125_4
                                    replace p125 := eq_true p125
                                    replace q125 := eq_true q125
                                    refine start_ (n := 10) (S := fun w' => w'.cell? (ad124.add ((x5_2).toNat * 5)) = some (.int .i64 ((rd_T118 l0 x5_2).f0)) ∧ w'.cell? ⟨(ad124.add ((x5_2).toNat * 5)).block, (ad124.add ((x5_2).toNat * 5)).off + 1, none⟩ = some (.int .i64 ((rd_T118 l0 x5_2).f1)) ∧ w'.cell? ⟨(ad124.add ((x5_2).toNat * 5)).block, (ad124.add ((x5_2).toNat * 5)).off + 2, none⟩ = some (.int .i64 ((rd_T118 l0 x5_2).f2)) ∧ w'.cell? ⟨(ad124.add ((x5_2).toNat * 5)).block, (ad124.add ((x5_2).toNat * 5)).off + 3, none⟩ = some (.int .i64 ((rd_T118 l0 x5_2).f3)) ∧ w'.cell? ⟨(ad124.add ((x5_2).toNat * 5)).block, (ad124.add ((x5_2).toNat * 5)).off + 4, none⟩ = some (.int .i64 ((rd_T118 l0 x5_2).f4)) ∧ w'.cell? (ad124.add ((x13_1).toNat * 5)) = some (.int .i64 ((rd_T118 l0 x13_1).f0)) ∧ w'.cell? ⟨(ad124.add ((x13_1).toNat * 5)).block, (ad124.add ((x13_1).toNat * 5)).off + 1, none⟩ = some (.int .i64 ((rd_T118 l0 x13_1).f1)) ∧ w'.cell? ⟨(ad124.add ((x13_1).toNat * 5)).block, (ad124.add ((x13_1).toNat * 5)).off + 2, none⟩ = some (.int .i64 ((rd_T118 l0 x13_1).f2)) ∧ w'.cell? ⟨(ad124.add ((x13_1).toNat * 5)).block, (ad124.add ((x13_1).toNat * 5)).off + 3, none⟩ = some (.int .i64 ((rd_T118 l0 x13_1).f3)) ∧ w'.cell? ⟨(ad124.add ((x13_1).toNat * 5)).block, (ad124.add ((x13_1).toNat * 5)).off + 4, none⟩ = some (.int .i64 ((rd_T118 l0 x13_1).f4))) (ds := []) #[false, false, false, false, false, false, false, false, false, false] (by kernel_rfl) rfl rfl ⟨((HB.out.cell (World.block_lt_of_cell? w _ hw124_0)).trans hw124_0), ((HB.out.cell (World.block_lt_of_cell? w _ hw124_1)).trans hw124_1), ((HB.out.cell (World.block_lt_of_cell? w _ hw124_2)).trans hw124_2), ((HB.out.cell (World.block_lt_of_cell? w _ hw124_3)).trans hw124_3), ((HB.out.cell (World.block_lt_of_cell? w _ hw124_4)).trans hw124_4), ((HB.out.cell (World.block_lt_of_cell? w _ hw125_0)).trans hw125_0), ((HB.out.cell (World.block_lt_of_cell? w _ hw125_1)).trans hw125_1), ((HB.out.cell (World.block_lt_of_cell? w _ hw125_2)).trans hw125_2), ((HB.out.cell (World.block_lt_of_cell? w _ hw125_3)).trans hw125_3), ((HB.out.cell (World.block_lt_of_cell? w _ hw125_4)).trans hw125_4)⟩ (fun hHeld => ?_); refine with_tabW spec_l6Ahead.tab9 spec_l6Ahead.bits9 (fun HT_ HW_ => ?_)
                                    generalize wr.drew = w47 at HO_3 HB hx124_0 hx124_1 hx124_2 hx124_3 hx124_4 hx125_0 hx125_1 hx125_2 hx125_3 hx125_4 hHeld ⊢
                                    refine pure_ (i := 0) (N := some 27) (v := ?_) (a' := ?_) #[true, false, false, false, false, false, false, false, false, false] rfl rfl (any_of HT_.out (by kernel_rfl)) (fun _ _ _ h => h) (Or.inl ⟨by rfl, ?_⟩) ?_ ?_
                                    rotate_left
                                    · intro w'
                                      go_simp
                                      with_reducible rfl
                                    rotate_left
                                    · simp only [Act.put, List.setIfInBounds_toArray, List.set_cons_zero, List.set_cons_succ, i64_w, i32_w]
                                      rfl
                                    refine pure_ (i := 1) (N := some 28) (v := ?_) (a' := ?_) #[true, true, false, false, false, false, false, false, false, false] rfl rfl (any_of HT_.out (by kernel_rfl)) (fun _ _ _ h => h) (Or.inl ⟨by rfl, ?_⟩) ?_ ?_
                                    rotate_left
                                    · intro w'
                                      go_simp
                                      with_reducible rfl
                                    rotate_left
                                    · simp only [Act.put, List.setIfInBounds_toArray, List.set_cons_zero, List.set_cons_succ, i64_w, i32_w]
                                      rfl
                                    refine pure_ (i := 2) (N := some 29) (v := ?_) (a' := ?_) #[true, true, true, false, false, false, false, false, false, false] rfl rfl (any_of HT_.out (by kernel_rfl)) (fun _ _ _ h => h) (Or.inl ⟨by rfl, ?_⟩) ?_ ?_
                                    rotate_left
                                    · intro w'
                                      go_simp
                                      with_reducible rfl
                                    rotate_left
                                    · simp only [Act.put, List.setIfInBounds_toArray, List.set_cons_zero, List.set_cons_succ, i64_w, i32_w]
                                      rfl
                                    refine pure_ (i := 4) (N := some 31) (v := ?_) (a' := ?_) #[true, true, true, false, true, false, false, false, false, false] rfl rfl (any_of HT_.out (by kernel_rfl)) (fun _ _ _ h => h) (Or.inl ⟨by rfl, ?_⟩) ?_ ?_
                                    rotate_left
                                    · intro w'
                                      go_simp
                                      with_reducible rfl
                                    rotate_left
                                    · simp only [Act.put, List.setIfInBounds_toArray, List.set_cons_zero, List.set_cons_succ, i64_w, i32_w]
                                      rfl
                                    refine pure_ (i := 5) (N := some 32) (v := ?_) (a' := ?_) #[true, true, true, false, true, true, false, false, false, false] rfl rfl (any_of HT_.out (by kernel_rfl)) (fun _ _ _ h => h) (Or.inl ⟨by rfl, ?_⟩) ?_ ?_
                                    rotate_left
                                    · intro w'
                                      go_simp
                                      with_reducible rfl
                                    rotate_left
                                    · simp only [Act.put, List.setIfInBounds_toArray, List.set_cons_zero, List.set_cons_succ, i64_w, i32_w]
                                      rfl
                                    refine pure_ (i := 6) (N := some 33) (v := ?_) (a' := ?_) #[true, true, true, false, true, true, true, false, false, false] rfl rfl (any_of HT_.out (by kernel_rfl)) (fun _ _ _ h => h) (Or.inl ⟨by rfl, ?_⟩) ?_ ?_
                                    rotate_left
                                    · intro w'
                                      go_simp
                                      with_reducible rfl
                                    rotate_left
                                    · simp only [Act.put, List.setIfInBounds_toArray, List.set_cons_zero, List.set_cons_succ, i64_w, i32_w]
                                      rfl
                                    refine take_ (i := 3) (N := some 30) (v := ?_) (a' := ?_) #[true, true, true, true, true, true, true, false, false, false] rfl rfl (take_ofW HT_.out HW_.out (by kernel_rfl)) (fun _ _ _ h => h) (Or.inl ⟨by rfl, ?_⟩) hHeld ?_ ?_
                                    rotate_left
                                    · rintro w' ⟨s0, s1, s2, s3, s4, s5, s6, s7, s8, s9⟩
                                      go_simp
                                      with_reducible rfl
                                    rotate_left
                                    · simp only [Act.put, List.setIfInBounds_toArray, List.set_cons_zero, List.set_cons_succ, i64_w, i32_w]
                                      rfl
                                    refine take_ (i := 7) (N := some 34) (v := ?_) (a' := ?_) #[true, true, true, true, true, true, true, true, false, false] rfl rfl (take_ofW HT_.out HW_.out (by kernel_rfl)) (fun _ _ _ h => h) (Or.inl ⟨by rfl, ?_⟩) hHeld ?_ ?_
                                    rotate_left
                                    · rintro w' ⟨s0, s1, s2, s3, s4, s5, s6, s7, s8, s9⟩
                                      go_simp
                                      with_reducible rfl
                                    rotate_left
                                    · simp only [Act.put, List.setIfInBounds_toArray, List.set_cons_zero, List.set_cons_succ, i64_w, i32_w]
                                      rfl
                                    refine one_ (i := 8) (N := some 35) #[true, true, true, true, true, true, true, true, true, false] rfl rfl (one_of HT_.out (by kernel_rfl)) (by decide) (fun K hK => ?_)
                                    first | refine goes_ Try.func127 (by kernel_rfl) rfl #[.agg #[.int .i64 ((rd_T118 l0 x5_2).f0), .int .i64 ((rd_T118 l0 x5_2).f1), .int .i64 ((rd_T118 l0 x5_2).f2), .int .i64 ((rd_T118 l0 x5_2).f3), .int .i64 ((rd_T118 l0 x5_2).f4)], .agg #[.int .i64 ((rd_T118 l0 x13_1).f0), .int .i64 ((rd_T118 l0 x13_1).f1), .int .i64 ((rd_T118 l0 x13_1).f2), .int .i64 ((rd_T118 l0 x13_1).f3), .int .i64 ((rd_T118 l0 x13_1).f4)]] (by rfl) rfl rfl (by (try simp only [List.map_toArray, List.map_cons, List.map_nil]); first | done | rfl | (simp only [List.length_drop, List.length_take]; rfl)) ?_ | refine goesV_ Try.func127 (by kernel_rfl) rfl #[.agg #[.int .i64 ((rd_T118 l0 x5_2).f0), .int .i64 ((rd_T118 l0 x5_2).f1), .int .i64 ((rd_T118 l0 x5_2).f2), .int .i64 ((rd_T118 l0 x5_2).f3), .int .i64 ((rd_T118 l0 x5_2).f4)], .agg #[.int .i64 ((rd_T118 l0 x13_1).f0), .int .i64 ((rd_T118 l0 x13_1).f1), .int .i64 ((rd_T118 l0 x13_1).f2), .int .i64 ((rd_T118 l0 x13_1).f3), .int .i64 ((rd_T118 l0 x13_1).f4)]] (by rfl) rfl rfl (by rfl) (by first | rfl | (simp only [List.map_toArray, List.map_cons, List.map_nil]; rfl)) ?_
                                    with_reducible refine (spec_l6Right.calls k2 ((rd_T118 l0 x5_2).f0) ((rd_T118 l0 x5_2).f1) ((rd_T118 l0 x5_2).f2) ((rd_T118 l0 x5_2).f3) ((rd_T118 l0 x5_2).f4) ((rd_T118 l0 x13_1).f0) ((rd_T118 l0 x13_1).f1) ((rd_T118 l0 x13_1).f2) ((rd_T118 l0 x13_1).f3) ((rd_T118 l0 x13_1).f4) false _ A21.out).mono ?_
                                    rintro e w48 ⟨rfl, hb⟩
                                    refine ⟨_, rfl, ?_⟩
                                    have n0_ := Aside0.mk (Kd.S_below (by (with_reducible repeat first|apply sA_|apply sN_|apply sD_); exact HO_3.out) hb)
                                    have n1_ := Aside0.mk (below_step (by repeat (first | (with_reducible first|exact HB.out|apply vA_|apply vN_|apply vD_) | exact HB.out)) hb)
                                    clear HO_3
                                    clear HB
                                    have HO_3 := n0_
                                    have HB := n1_
                                    clear n0_ n1_
                                    (try clear hb)
                                    (try clear hb2)
                                    (try clear hk)
                                    (try clear hi)
                                    refine hK.out _ _ ⟨((HB.out.cell (World.block_lt_of_cell? w _ hw124_0)).trans hw124_0), ((HB.out.cell (World.block_lt_of_cell? w _ hw124_1)).trans hw124_1), ((HB.out.cell (World.block_lt_of_cell? w _ hw124_2)).trans hw124_2), ((HB.out.cell (World.block_lt_of_cell? w _ hw124_3)).trans hw124_3), ((HB.out.cell (World.block_lt_of_cell? w _ hw124_4)).trans hw124_4), ((HB.out.cell (World.block_lt_of_cell? w _ hw125_0)).trans hw125_0), ((HB.out.cell (World.block_lt_of_cell? w _ hw125_1)).trans hw125_1), ((HB.out.cell (World.block_lt_of_cell? w _ hw125_2)).trans hw125_2), ((HB.out.cell (World.block_lt_of_cell? w _ hw125_3)).trans hw125_3), ((HB.out.cell (World.block_lt_of_cell? w _ hw125_4)).trans hw125_4)⟩ (fun hHeld => ?_)
                                    clear hK K
                                    refine norm_ (a' := ?_) ?_ ?_
                                    rotate_left
                                    · show Act.put _ (some 35) _ = _
                                      simp only [Act.put, List.setIfInBounds_toArray, List.set_cons_zero, List.set_cons_succ, i64_w, i32_w]
                                      rfl
                                    refine pure_ (i := 9) (N := some 36) (v := ?_) (a' := ?_) #[true, true, true, true, true, true, true, true, true, true] rfl rfl (any_of HT_.out (by kernel_rfl)) (fun _ _ _ h => h) (Or.inl ⟨by rfl, ?_⟩) ?_ ?_
                                    rotate_left
                                    · intro w'
                                      go_simp
                                      with_reducible rfl
                                    rotate_left
                                    · simp only [Act.put, List.setIfInBounds_toArray, List.set_cons_zero, List.set_cons_succ, i64_w, i32_w]
                                      rfl
                                    refine done_ (done_of HT_.out (by kernel_rfl)) ?_
                                    try go_wp2
                                    (try simp only [← hl3_2])
                                    go_roundg k2
                                    case measure => have := HK1.out; have := HK2.out; omega
                                    case rel => exact ⟨(x3_2), (wrap64 (x5_2 + 1)), (by first | rfl | (simp; done) | (simp [*]; done)), H', ⟨by have := HK1.out; have := HK2.out; omega⟩, ⟨by (try simp only [hl3_2]); (with_reducible repeat first|apply sA_|apply sN_|apply sD_); exact HO_3.out⟩, ⟨by repeat (first | (with_reducible first|exact HB.out|apply vA_|apply vN_|apply vD_) | exact HB.out)⟩⟩
                                · rw [if_neg c20] at H
                                  exact absurd H (by simp)
                              · rw [if_neg c19] at H
                                exact absurd H (by simp)
                            · rw [if_neg c18] at H
                              exact absurd H (by simp)
                          · rw [if_neg c17] at H
                            exact absurd H (by simp)
                        · rw [if_neg c16] at H
                          have c16b0 : decide (x5_2 < x13_1) = false := decide_eq_false c16
                          clear c16
                          have H' := Aside0.mk H
                          clear H
                          go_wp2
                          (try simp only [← hl3_2])
                          go_roundg k2
                          case measure => have := HK1.out; have := HK2.out; omega
                          case rel => exact ⟨(x3_2), (wrap64 (x13_1 + 1)), (by first | rfl | (simp; done) | (simp [*]; done)), H', ⟨by have := HK1.out; have := HK2.out; omega⟩, ⟨by (try simp only [hl3_2]); (with_reducible repeat first|apply sA_|apply sN_|apply sD_); exact HO_3.out⟩, ⟨by repeat (first | (with_reducible first|exact HB.out|apply vA_|apply vN_|apply vD_) | exact HB.out)⟩⟩
                  · rw [if_neg c10] at H
                    exact absurd H (by simp)
                · rw [if_neg c9] at H
                  exact absurd H (by simp)
              · rw [if_neg c8] at H
                exact absurd H (by simp)
            · rw [if_neg c7] at H
              exact absurd H (by simp)
          · rw [if_neg c6] at H
            have c6b0 : decide (x13_1 < (l0.length : Int)) = false := decide_eq_false c6
            clear c6
            obtain rfl := Option.some.inj H
            go_wp2
            go_ret
            exact ⟨_, by first | rfl | (simp [errW_none, errW_some] <;> rfl) | (simp [*, errW_none, errW_some] <;> rfl), by (with_reducible repeat first|apply sA_|apply sN_|apply sD_); exact HO_3.out, by repeat (first | (with_reducible first|exact HB.out|apply vA_|apply vN_|apply vD_) | exact HB.out)⟩
    · rw [if_neg c3] at H
      exact absurd H (by simp)
  · rw [if_neg c2] at H
    exact absurd H (by simp)

end Go.Proofs.Ytpfbiopcfbokbaa.GAheadIn

-- Printed by wip/tools/print2.py out of the translation: walks and plain functions; Lean checks them.
import Derived.Test.YthdpiceiemkjlaaDoorGFnNumTextx0
namespace Go.Proofs.YthdpiceiemkjlaaDoor.GFnNumText
open Go.RowKit Go.Proofs.YthdpiceiemkjlaaDoorW.PrintWords Go.Proofs.YthdpiceiemkjlaaDoorW.PrintLast Go.Proofs.YthdpiceiemkjlaaDoorW.PrintMore
attribute [local go_sem] max2_int min2_int max_two min_two max_three min_three max_four min_four   -- for this text's walks alone
set_option linter.unusedVariables false
set_option linter.unusedSimpArgs false

/-! ### spec_l1Parts: function 31 -/
mutual
def spec_l1Parts.l0 : Nat → Nat → Int → Option (Int × Int)
  | 0, _, _ => none
  | k + 1, x0, x4 => if fgt x0 4841369599423283200 = true then (if fdivOk x0 4611686018427387904 = true then (spec_l1Parts.l0 k (fdiv x0 4611686018427387904) (wrap64 (x4 + 1))) else (none)) else (if flt x0 14064741636278059008 = true then (if fdivOk x0 4611686018427387904 = true then (spec_l1Parts.l0 k (fdiv x0 4611686018427387904) (wrap64 (x4 + 1))) else (none)) else (spec_l1Parts.l1 k x0 x4))
def spec_l1Parts.l1 : Nat → Nat → Int → Option (Int × Int)
  | 0, _, _ => none
  | k + 1, x0, x4 => if flt x0 4841369599423283200 = true then (spec_l1Parts.j2 k x0 x4 (fgt x0 14064741636278059008)) else (spec_l1Parts.j2 k x0 x4 false)
def spec_l1Parts.j2 : Nat → Nat → Int → Bool → Option (Int × Int)
  | 0, _, _, _ => none
  | k + 1, x0, x4, x21 => if x21 = true then (if fintOk x0 = true then (if feq (fofi (fint x0)) x0 = true then (if (Int.tmod (fint x0) 2) = 0 then (if fmulOk x0 4611686018427387904 = true then (spec_l1Parts.l1 k (fmul x0 4611686018427387904) (wrap64 (x4 - 1))) else (none)) else (some (fint x0, x4))) else (if fmulOk x0 4611686018427387904 = true then (spec_l1Parts.l1 k (fmul x0 4611686018427387904) (wrap64 (x4 - 1))) else (none))) else (none)) else (if fintOk x0 = true then (spec_l1Parts.l2 k x4 (fint x0)) else (none))
def spec_l1Parts.l2 : Nat → Int → Int → Option (Int × Int)
  | 0, _, _ => none
  | k + 1, x4, x5 => if (Int.tmod x5 2) = 0 then (spec_l1Parts.l2 k (wrap64 (x4 + 1)) (wrap64 (Int.tdiv x5 2))) else (some (x5, x4))
end
def spec_l1Parts.f (k : Nat) (a0 : Nat) : Option (Int × Int) := spec_l1Parts.l0 k a0 0
theorem spec_l1Parts.mono_l : ∀ k, (∀ y0 y1, LeO (spec_l1Parts.l0 k y0 y1) (spec_l1Parts.l0 (k + 1) y0 y1)) ∧ (∀ y0 y1, LeO (spec_l1Parts.l1 k y0 y1) (spec_l1Parts.l1 (k + 1) y0 y1)) ∧ (∀ y0 y1 y2, LeO (spec_l1Parts.j2 k y0 y1 y2) (spec_l1Parts.j2 (k + 1) y0 y1 y2)) ∧ (∀ y0 y1, LeO (spec_l1Parts.l2 k y0 y1) (spec_l1Parts.l2 (k + 1) y0 y1))
  | 0 => ⟨fun _ _ r h => by simp [spec_l1Parts.l0] at h, fun _ _ r h => by simp [spec_l1Parts.l1] at h, fun _ _ _ r h => by simp [spec_l1Parts.j2] at h, fun _ _ r h => by simp [spec_l1Parts.l2] at h⟩
  | k + 1 => by
    obtain ⟨ih0, ih1, ih2, ih3⟩ := spec_l1Parts.mono_l k
    refine ⟨?_, ?_, ?_, ?_⟩
    · intro y0 y1
      unfold spec_l1Parts.l0
      repeat' first
      | (with_reducible exact ih0 _ _)
      | (with_reducible exact ih1 _ _)
      | (with_reducible exact ih2 _ _ _)
      | (with_reducible exact ih3 _ _)
      | (with_reducible exact LeO.refl _)
      | (with_reducible exact LeO.none _)
      | (with_reducible refine LeO.ite ?_ ?_)
      | (with_reducible refine LeO.bind ?_ (fun _ => ?_))
      | exact ih0 _ _
      | exact ih1 _ _
      | exact ih2 _ _ _
      | exact ih3 _ _
      | exact LeO.none _
      | refine LeO.ite ?_ ?_
      | refine LeO.bind ?_ (fun _ => ?_)
    · intro y0 y1
      unfold spec_l1Parts.l1
      repeat' first
      | (with_reducible exact ih0 _ _)
      | (with_reducible exact ih1 _ _)
      | (with_reducible exact ih2 _ _ _)
      | (with_reducible exact ih3 _ _)
      | (with_reducible exact LeO.refl _)
      | (with_reducible exact LeO.none _)
      | (with_reducible refine LeO.ite ?_ ?_)
      | (with_reducible refine LeO.bind ?_ (fun _ => ?_))
      | exact ih0 _ _
      | exact ih1 _ _
      | exact ih2 _ _ _
      | exact ih3 _ _
      | exact LeO.none _
      | refine LeO.ite ?_ ?_
      | refine LeO.bind ?_ (fun _ => ?_)
    · intro y0 y1 y2
      unfold spec_l1Parts.j2
      repeat' first
      | (with_reducible exact ih0 _ _)
      | (with_reducible exact ih1 _ _)
      | (with_reducible exact ih2 _ _ _)
      | (with_reducible exact ih3 _ _)
      | (with_reducible exact LeO.refl _)
      | (with_reducible exact LeO.none _)
      | (with_reducible refine LeO.ite ?_ ?_)
      | (with_reducible refine LeO.bind ?_ (fun _ => ?_))
      | exact ih0 _ _
      | exact ih1 _ _
      | exact ih2 _ _ _
      | exact ih3 _ _
      | exact LeO.none _
      | refine LeO.ite ?_ ?_
      | refine LeO.bind ?_ (fun _ => ?_)
    · intro y0 y1
      unfold spec_l1Parts.l2
      repeat' first
      | (with_reducible exact ih0 _ _)
      | (with_reducible exact ih1 _ _)
      | (with_reducible exact ih2 _ _ _)
      | (with_reducible exact ih3 _ _)
      | (with_reducible exact LeO.refl _)
      | (with_reducible exact LeO.none _)
      | (with_reducible refine LeO.ite ?_ ?_)
      | (with_reducible refine LeO.bind ?_ (fun _ => ?_))
      | exact ih0 _ _
      | exact ih1 _ _
      | exact ih2 _ _ _
      | exact ih3 _ _
      | exact LeO.none _
      | refine LeO.ite ?_ ?_
      | refine LeO.bind ?_ (fun _ => ?_)
theorem spec_l1Parts.mono : ∀ a0 k, LeO (spec_l1Parts.f k a0) (spec_l1Parts.f (k + 1) a0) := by
  intro a0 k
  obtain ⟨ih0, ih1, ih2, ih3⟩ := spec_l1Parts.mono_l k
  unfold spec_l1Parts.f
  repeat' first
      | (with_reducible exact ih0 _ _)
      | (with_reducible exact ih1 _ _)
      | (with_reducible exact ih2 _ _ _)
      | (with_reducible exact ih3 _ _)
      | (with_reducible exact LeO.refl _)
      | (with_reducible exact LeO.none _)
      | (with_reducible refine LeO.ite ?_ ?_)
      | (with_reducible refine LeO.bind ?_ (fun _ => ?_))
      | exact ih0 _ _
      | exact ih1 _ _
      | exact ih2 _ _ _
      | exact ih3 _ _
      | exact LeO.none _
      | refine LeO.ite ?_ ?_
      | refine LeO.bind ?_ (fun _ => ?_)
set_option maxHeartbeats 8000000 in
set_option maxRecDepth 100000 in
theorem spec_l1Parts.calls (k : Nat) (a0 : Nat) (r1 : Int) (r2 : Int) (w : World) (h : spec_l1Parts.f k a0 = some (r1, r2)) :
    Calls Tryd.prog 31 #[.float .f64 a0] w fun e w' => e = .returned (.tuple #[.int .i64 r1, .int .i64 r2]) ∧ Drawn0 w w' := by
  have H : (spec_l1Parts.l0 k a0 0) = some (r1, r2) := h
  clear h
  have H' := Aside0.mk H
  clear H
  go_enter Tryd.func31, Tryd.ntmps31
  go_wp2
  go_loopg [0, 4] k (fun kq v0 v4 w' => ∃ (x0_1 : Nat) (x4_1 : Int), v0 = .float .f64 x0_1 ∧ v4 = .int .i64 x4_1 ∧ Aside0 (spec_l1Parts.l0 kq x0_1 x4_1 = some (r1, r2)) ∧ Aside0 (kq ≤ k) ∧ Drawn0 w w')
  case atStart => exact ⟨(a0), (0), (by first | rfl | (simp; done) | (simp [*]; done)), (by first | rfl | (simp; done) | (simp [*]; done)), H', ⟨Nat.le_refl _⟩, by repeat (first | exact Drawn0.refl _ | apply Drawn0.step)⟩
  case round =>
    clear H'
    obtain ⟨x0_1, x4_1, rfl, rfl, HA, HK1, ⟨m1, rfl⟩⟩ := hrel
    cases gk with
    | zero => exact absurd HA.out (by simp [spec_l1Parts.l0])
    | succ k1 =>
      have H := HA.out
      clear HA
      simp only [spec_l1Parts.l0] at H
      by_cases c2 : fgt x0_1 4841369599423283200 = true
      · rw [if_pos c2] at H
        have c2b0 : fgt x0_1 4841369599423283200 = true := c2
        clear c2
        by_cases c3 : fdivOk x0_1 4611686018427387904 = true
        · rw [if_pos c3] at H
          have c3b0 := eq_true c3
          have c3b1 : decide (fdivOk x0_1 4611686018427387904 = true) = true := decide_eq_true c3
          clear c3
          have H' := Aside0.mk H
          clear H
          go_wp2
          go_roundg k1
          case measure => have := HK1.out; omega
          case rel => exact ⟨(fdiv x0_1 4611686018427387904), (wrap64 (x4_1 + 1)), (by first | rfl | (simp; done) | (simp [*]; done)), (by first | rfl | (simp; done) | (simp [*]; done)), H', ⟨by have := HK1.out; omega⟩, by repeat (first | exact Drawn0.refl _ | apply Drawn0.step)⟩
        · rw [if_neg c3] at H
          exact absurd H (by simp)
      · rw [if_neg c2] at H
        have c2b0 : fgt x0_1 4841369599423283200 = false := by simpa using c2
        clear c2
        by_cases c4 : flt x0_1 14064741636278059008 = true
        · rw [if_pos c4] at H
          have c4b0 : flt x0_1 14064741636278059008 = true := c4
          clear c4
          by_cases c5 : fdivOk x0_1 4611686018427387904 = true
          · rw [if_pos c5] at H
            have c5b0 := eq_true c5
            have c5b1 : decide (fdivOk x0_1 4611686018427387904 = true) = true := decide_eq_true c5
            clear c5
            have H' := Aside0.mk H
            clear H
            go_wp2
            go_roundg k1
            case measure => have := HK1.out; omega
            case rel => exact ⟨(fdiv x0_1 4611686018427387904), (wrap64 (x4_1 + 1)), (by first | rfl | (simp; done) | (simp [*]; done)), (by first | rfl | (simp; done) | (simp [*]; done)), H', ⟨by have := HK1.out; omega⟩, by repeat (first | exact Drawn0.refl _ | apply Drawn0.step)⟩
          · rw [if_neg c5] at H
            exact absurd H (by simp)
        · rw [if_neg c4] at H
          have c4b0 : flt x0_1 14064741636278059008 = false := by simpa using c4
          clear c4
          have H' := Aside0.mk H
          clear H
          go_wp2
          go_loopg [0, 4] k1 (fun kq v0 v4 w' => ∃ (x0_2 : Nat) (x4_2 : Int), v0 = .float .f64 x0_2 ∧ v4 = .int .i64 x4_2 ∧ Aside0 (spec_l1Parts.l1 kq x0_2 x4_2 = some (r1, r2)) ∧ Aside0 (kq ≤ k1) ∧ Drawn0 w w')
          case atStart => exact ⟨(x0_1), (x4_1), (by first | rfl | (simp; done) | (simp [*]; done)), (by first | rfl | (simp; done) | (simp [*]; done)), H', ⟨Nat.le_refl _⟩, by repeat (first | exact Drawn0.refl _ | apply Drawn0.step)⟩
          case round =>
            clear H'
            try clear c2
            try clear c2b0
            try clear p2
            try clear c3
            try clear c3b0
            try clear c3b1
            try clear c4
            try clear c4b0
            try clear c5
            try clear c5b0
            try clear c5b1
            obtain ⟨x0_2, x4_2, rfl, rfl, HA, HK2, ⟨m2, rfl⟩⟩ := hrel
            cases gk with
            | zero => exact absurd HA.out (by simp [spec_l1Parts.l1])
            | succ k2 =>
              have H := HA.out
              clear HA
              simp only [spec_l1Parts.l1] at H
              have HC6 := Aside0.mk H
              clear H
              go_upto_region 5 with (fail)
              go_cut [21] (fun v21 wc => ∃ (kq : Nat) (x21_5 : Bool), v21 = .bool x21_5 ∧ Aside0 (spec_l1Parts.j2 kq x0_2 x4_2 x21_5 = some (r1, r2)) ∧ Aside0 (kq ≤ k2) ∧ Drawn0 w wc)
              case first =>
                have H := HC6.out
                clear HC6
                by_cases c7 : flt x0_2 4841369599423283200 = true
                · rw [if_pos c7] at H
                  have c7b0 : flt x0_2 4841369599423283200 = true := c7
                  clear c7
                  (first | rw [c7b0] | (simp only [i64_w, i32_w]; rw [c7b0]) | skip)
                  have H' := Aside0.mk H
                  clear H
                  go_wp2
                  go_meet
                  case rel => exact ⟨_, ((fgt x0_2 14064741636278059008)), (by first | rfl | (simp; done) | (simp [*]; done)), H', ⟨by have := HK1.out; have := HK2.out; first | omega | exact Nat.le_refl _⟩, by repeat (first | exact Drawn0.refl _ | apply Drawn0.step)⟩
                · rw [if_neg c7] at H
                  have c7b0 : flt x0_2 4841369599423283200 = false := by simpa using c7
                  clear c7
                  (first | rw [c7b0] | (simp only [i64_w, i32_w]; rw [c7b0]) | skip)
                  have H' := Aside0.mk H
                  clear H
                  go_wp2
                  go_meet
                  case rel => exact ⟨_, (false), (by first | rfl | (simp; done) | (simp [*]; done)), H', ⟨by have := HK1.out; have := HK2.out; first | omega | exact Nat.le_refl _⟩, by repeat (first | exact Drawn0.refl _ | apply Drawn0.step)⟩
              case rest =>
                clear HC6
                try clear c2
                try clear c2b0
                try clear p2
                try clear c3
                try clear c3b0
                try clear c3b1
                try clear c4
                try clear c4b0
                try clear c5
                try clear c5b0
                try clear c5b1
                try clear p6
                try clear c7
                try clear c7b0
                try clear p2
                obtain ⟨kq, x21_5, rfl, HA, HJ5, ⟨mc5, rfl⟩⟩ := hcut
                cases kq with
                | zero => exact absurd HA.out (by simp [spec_l1Parts.j2])
                | succ kj5 =>
                  have H := HA.out
                  clear HA
                  simp only [spec_l1Parts.j2] at H
                  by_cases c8 : x21_5 = true
                  · subst c8
                    have H1 : (if fintOk x0_2 = true then (if feq (fofi (fint x0_2)) x0_2 = true then (if (Int.tmod (fint x0_2) 2) = 0 then (if fmulOk x0_2 4611686018427387904 = true then (spec_l1Parts.l1 kj5 (fmul x0_2 4611686018427387904) (wrap64 (x4_2 - 1))) else (none)) else (some (fint x0_2, x4_2))) else (if fmulOk x0_2 4611686018427387904 = true then (spec_l1Parts.l1 kj5 (fmul x0_2 4611686018427387904) (wrap64 (x4_2 - 1))) else (none))) else (none)) = some (r1, r2) := by rw [if_pos rfl] at H; exact H
                    clear H
                    have H := H1
                    clear H1
                    by_cases c9 : fintOk x0_2 = true
                    · rw [if_pos c9] at H
                      have c9b0 := eq_true c9
                      have c9b1 : decide (fintOk x0_2 = true) = true := decide_eq_true c9
                      clear c9
                      by_cases c10 : feq (fofi (fint x0_2)) x0_2 = true
                      · rw [if_pos c10] at H
                        have c10b0 : feq (fofi (fint x0_2)) x0_2 = true := c10
                        clear c10
                        have c11b0 := eq_true (of_decide_eq_true (by first | (with_reducible assumption) | assumption) : fintOk x0_2 = true)
                        by_cases c12 : (Int.tmod (fint x0_2) 2) = 0
                        · rw [if_pos c12] at H
                          have c12b0 : ((Int.tmod (fint x0_2) 2) == 0) = true := beq_iff_eq.mpr c12
                          have c12b1 : ((Int.tmod (fint x0_2) 2) != 0) = false := bne_eq_false_iff_eq.mpr c12
                          clear c12
                          by_cases c13 : fmulOk x0_2 4611686018427387904 = true
                          · rw [if_pos c13] at H
                            have c13b0 := eq_true c13
                            have c13b1 : decide (fmulOk x0_2 4611686018427387904 = true) = true := decide_eq_true c13
                            clear c13
                            have H' := Aside0.mk H
                            clear H
                            go_wp2
                            go_roundg kj5
                            case measure => have := HK1.out; have := HK2.out; have := HJ5.out; omega
                            case rel => exact ⟨(fmul x0_2 4611686018427387904), (wrap64 (x4_2 - 1)), (by first | rfl | (simp; done) | (simp [*]; done)), (by first | rfl | (simp; done) | (simp [*]; done)), H', ⟨by have := HK1.out; have := HK2.out; have := HJ5.out; omega⟩, by repeat (first | exact Drawn0.refl _ | apply Drawn0.step)⟩
                          · rw [if_neg c13] at H
                            exact absurd H (by simp)
                        · rw [if_neg c12] at H
                          have c12b0 : ((Int.tmod (fint x0_2) 2) == 0) = false := beq_eq_false_iff_ne.mpr c12
                          have c12b1 : ((Int.tmod (fint x0_2) 2) != 0) = true := bne_iff_ne.mpr c12
                          have c14b0 := eq_true (of_decide_eq_true (by first | (with_reducible assumption) | assumption) : fintOk x0_2 = true)
                          simp only [Option.some.injEq, Prod.mk.injEq] at H
                          obtain ⟨rfl, rfl⟩ := H
                          go_wp2
                          go_ret2
                          exact ⟨by first | rfl | (simp; done) | (simp [*]; done), by repeat (first | exact Drawn0.refl _ | apply Drawn0.step)⟩
                      · rw [if_neg c10] at H
                        have c10b0 : feq (fofi (fint x0_2)) x0_2 = false := by simpa using c10
                        clear c10
                        by_cases c15 : fmulOk x0_2 4611686018427387904 = true
                        · rw [if_pos c15] at H
                          have c15b0 := eq_true c15
                          have c15b1 : decide (fmulOk x0_2 4611686018427387904 = true) = true := decide_eq_true c15
                          clear c15
                          have H' := Aside0.mk H
                          clear H
                          go_wp2
                          go_roundg kj5
                          case measure => have := HK1.out; have := HK2.out; have := HJ5.out; omega
                          case rel => exact ⟨(fmul x0_2 4611686018427387904), (wrap64 (x4_2 - 1)), (by first | rfl | (simp; done) | (simp [*]; done)), (by first | rfl | (simp; done) | (simp [*]; done)), H', ⟨by have := HK1.out; have := HK2.out; have := HJ5.out; omega⟩, by repeat (first | exact Drawn0.refl _ | apply Drawn0.step)⟩
                        · rw [if_neg c15] at H
                          exact absurd H (by simp)
                    · rw [if_neg c9] at H
                      exact absurd H (by simp)
                  · replace c8 := Bool.eq_false_iff.mpr c8
                    subst c8
                    have H1 : (if fintOk x0_2 = true then (spec_l1Parts.l2 kj5 x4_2 (fint x0_2)) else (none)) = some (r1, r2) := by rw [if_neg (show ¬ (false = true) by decide)] at H; exact H
                    clear H
                    have H := H1
                    clear H1
                    by_cases c16 : fintOk x0_2 = true
                    · rw [if_pos c16] at H
                      have c16b0 := eq_true c16
                      have c16b1 : decide (fintOk x0_2 = true) = true := decide_eq_true c16
                      clear c16
                      have H' := Aside0.mk H
                      clear H
                      go_wp2
                      go_loopg [4, 5] kj5 (fun kq v4 v5 w' => ∃ (x4_4 : Int) (x5_4 : Int), v4 = .int .i64 x4_4 ∧ v5 = .int .i64 x5_4 ∧ Aside0 (spec_l1Parts.l2 kq x4_4 x5_4 = some (r1, r2)) ∧ Aside0 (kq ≤ kj5) ∧ Drawn0 w w')
                      case atStart => exact ⟨(x4_2), (fint x0_2), (by first | rfl | (simp; done) | (simp [*]; done)), (by first | rfl | (simp; done) | (simp [*]; done)), H', ⟨Nat.le_refl _⟩, by repeat (first | exact Drawn0.refl _ | apply Drawn0.step)⟩
                      case round =>
                        clear H'
                        try clear c1
                        try clear c2
                        try clear c2b0
                        try clear p2
                        try clear c3
                        try clear c3b0
                        try clear c3b1
                        try clear c4
                        try clear c4b0
                        try clear c5
                        try clear c5b0
                        try clear c5b1
                        try clear p6
                        try clear c7
                        try clear c7b0
                        try clear c8
                        try clear c9
                        try clear c9b0
                        try clear c9b1
                        try clear c10
                        try clear c10b0
                        try clear c11
                        try clear c11b0
                        try clear c12
                        try clear c12b0
                        try clear c12b1
                        try clear c13
                        try clear c13b0
                        try clear c13b1
                        try clear c14
                        try clear c14b0
                        try clear c15
                        try clear c15b0
                        try clear c15b1
                        try clear c16
                        try clear c16b0
                        try clear c16b1
                        try clear p2
                        try clear p6
                        obtain ⟨x4_4, x5_4, rfl, rfl, HA, HK4, ⟨m4, rfl⟩⟩ := hrel
                        cases gk with
                        | zero => exact absurd HA.out (by simp [spec_l1Parts.l2])
                        | succ k4 =>
                          have H := HA.out
                          clear HA
                          simp only [spec_l1Parts.l2] at H
                          by_cases c17 : (Int.tmod x5_4 2) = 0
                          · rw [if_pos c17] at H
                            have c17b0 : ((Int.tmod x5_4 2) == 0) = true := beq_iff_eq.mpr c17
                            have c17b1 : ((Int.tmod x5_4 2) != 0) = false := bne_eq_false_iff_eq.mpr c17
                            clear c17
                            have H' := Aside0.mk H
                            clear H
                            go_wp2
                            go_roundg k4
                            case measure => have := HK1.out; have := HK2.out; have := HJ5.out; have := HK4.out; omega
                            case rel => exact ⟨(wrap64 (x4_4 + 1)), (wrap64 (Int.tdiv x5_4 2)), (by first | rfl | (simp; done) | (simp [*]; done)), (by first | rfl | (simp; done) | (simp [*]; done)), H', ⟨by have := HK1.out; have := HK2.out; have := HJ5.out; have := HK4.out; omega⟩, by repeat (first | exact Drawn0.refl _ | apply Drawn0.step)⟩
                          · rw [if_neg c17] at H
                            have c17b0 : ((Int.tmod x5_4 2) == 0) = false := beq_eq_false_iff_ne.mpr c17
                            have c17b1 : ((Int.tmod x5_4 2) != 0) = true := bne_iff_ne.mpr c17
                            simp only [Option.some.injEq, Prod.mk.injEq] at H
                            obtain ⟨rfl, rfl⟩ := H
                            go_wp2
                            go_ret2
                            exact ⟨by first | rfl | (simp; done) | (simp [*]; done), by repeat (first | exact Drawn0.refl _ | apply Drawn0.step)⟩
                    · rw [if_neg c16] at H
                      exact absurd H (by simp)

/-! ### spec_l1Nan: function 60 -/
def spec_l1Nan.f (a0 : Nat) : Option (Bool) := some (!(feq a0 a0))
set_option maxHeartbeats 8000000 in
set_option maxRecDepth 100000 in
theorem spec_l1Nan.calls (a0 : Nat) (r : Bool) (w : World) (h : spec_l1Nan.f a0 = some r) :
    Calls Tryd.prog 60 #[.float .f64 a0] w fun e w' => e = .returned (.bool r) ∧ Drawn0 w w' := by
  have H : (some (!(feq a0 a0))) = some r := h
  clear h
  obtain rfl := Option.some.inj H
  go_enter Tryd.func60, Tryd.ntmps60
  go_wp2
  go_ret
  exact ⟨by first | rfl | (simp; done) | (simp [*]; done), by repeat (first | exact Drawn0.refl _ | apply Drawn0.step)⟩

/-! ### spec_l1Inf: function 61 -/
def spec_l1Inf.f (a0 : Nat) : Option (Bool) := if feq a0 a0 = true then (if fsubOk a0 a0 = true then (some (!(feq (fsub a0 a0) 0))) else (some true)) else (some false)
set_option maxHeartbeats 8000000 in
set_option maxRecDepth 100000 in
theorem spec_l1Inf.calls (a0 : Nat) (r : Bool) (w : World) (h : spec_l1Inf.f a0 = some r) :
    Calls Tryd.prog 61 #[.float .f64 a0] w fun e w' => e = .returned (.bool r) ∧ Drawn0 w w' := by
  have H : (if feq a0 a0 = true then (if fsubOk a0 a0 = true then (some (!(feq (fsub a0 a0) 0))) else (some true)) else (some false)) = some r := h
  clear h
  by_cases c2 : feq a0 a0 = true
  · rw [if_pos c2] at H
    have c2b0 : feq a0 a0 = true := c2
    clear c2
    by_cases c3 : fsubOk a0 a0 = true
    · rw [if_pos c3] at H
      have c3b0 := eq_true c3
      have c3b1 : decide (fsubOk a0 a0 = true) = true := decide_eq_true c3
      clear c3
      obtain rfl := Option.some.inj H
      go_enter Tryd.func61, Tryd.ntmps61
      go_wp2
      go_ret
      exact ⟨by first | rfl | (simp; done) | (simp [*]; done), by repeat (first | exact Drawn0.refl _ | apply Drawn0.step)⟩
    · rw [if_neg c3] at H
      have c3b0 : fsubOk a0 a0 = false := by simpa using c3
      clear c3
      obtain rfl := Option.some.inj H
      go_enter Tryd.func61, Tryd.ntmps61
      go_wp2
      go_ret
      exact ⟨by first | rfl | (simp; done) | (simp [*]; done), by repeat (first | exact Drawn0.refl _ | apply Drawn0.step)⟩
  · rw [if_neg c2] at H
    have c2b0 : feq a0 a0 = false := by simpa using c2
    clear c2
    obtain rfl := Option.some.inj H
    go_enter Tryd.func61, Tryd.ntmps61
    go_wp2
    go_ret
    exact ⟨by first | rfl | (simp; done) | (simp [*]; done), by repeat (first | exact Drawn0.refl _ | apply Drawn0.step)⟩

/-! ### spec_KindOf: function 29 -/
def spec_KindOf.f (k : Nat) (a0 : Nat) : Option (Int) := (spec_l1Nan.f a0).bind fun t179 => (if t179 = true then (some 0) else ((spec_l1Inf.f a0).bind fun t180 => (if t180 = true then (some 1) else (if feq a0 0 = true then (some 2) else ((spec_l1Parts.f k a0).bind fun bt181 => (if bt181.2 ≥ 0 then (some 3) else (some 4)))))))
theorem spec_KindOf.mono : ∀ a0 k, LeO (spec_KindOf.f k a0) (spec_KindOf.f (k + 1) a0) := by
  intro a0 k
  unfold spec_KindOf.f
  repeat' first
      | (with_reducible exact spec_l1Parts.mono _ _)
      | (with_reducible exact LeO.refl _)
      | (with_reducible exact LeO.none _)
      | (with_reducible refine LeO.ite ?_ ?_)
      | (with_reducible refine LeO.bind ?_ (fun _ => ?_))
      | exact spec_l1Parts.mono _ _
      | exact LeO.none _
      | refine LeO.ite ?_ ?_
      | refine LeO.bind ?_ (fun _ => ?_)
set_option maxHeartbeats 8000000 in
set_option maxRecDepth 100000 in
theorem spec_KindOf.calls (k : Nat) (a0 : Nat) (r : Int) (w : World) (h : spec_KindOf.f k a0 = some r) :
    Calls Tryd.prog 29 #[.float .f64 a0] w fun e w' => e = .returned (.int .i64 r) ∧ Drawn0 w w' := by
  have H : ((spec_l1Nan.f a0).bind fun t179 => (if t179 = true then (some 0) else ((spec_l1Inf.f a0).bind fun t180 => (if t180 = true then (some 1) else (if feq a0 0 = true then (some 2) else ((spec_l1Parts.f k a0).bind fun bt181 => (if bt181.2 ≥ 0 then (some 3) else (some 4)))))))) = some r := h
  clear h
  replace H := Option.bind_eq_some_iff.mp H
  obtain ⟨t179, A20, H⟩ := H
  replace H : (if t179 = true then (some 0) else ((spec_l1Inf.f a0).bind fun t180 => (if t180 = true then (some 1) else (if feq a0 0 = true then (some 2) else ((spec_l1Parts.f k a0).bind fun bt181 => (if bt181.2 ≥ 0 then (some 3) else (some 4))))))) = some r := H
  have A2 := Aside0.mk A20
  clear A20
  by_cases c3 : t179 = true
  · subst c3
    have H1 : (some 0) = some r := by rw [if_pos rfl] at H; exact H
    clear H
    have H := H1
    clear H1
    obtain rfl := Option.some.inj H
    go_enter Tryd.func29, Tryd.ntmps29
    go_wp2_with (first | ((with_reducible refine gate_callee (f := 60) rfl ?_); refine goesL_ (some 7) rfl rfl Tryd.func60 (by kernel_rfl) rfl #[.float .f64 a0] rfl (by (try simp only [List.map_toArray, List.map_cons, List.map_nil]); first | done | rfl | (simp only [List.length_drop, List.length_take]; rfl)) ?_; (with_reducible refine (spec_l1Nan.calls a0 true _ A2.out).mono ?_); rintro e w' ⟨rfl, ⟨nd, rfl⟩⟩; refine ⟨_, rfl, ?_⟩))
    go_ret
    exact ⟨by first | rfl | (simp; done) | (simp [*]; done), by repeat (first | exact Drawn0.refl _ | apply Drawn0.step)⟩
  · replace c3 := Bool.eq_false_iff.mpr c3
    subst c3
    have H1 : ((spec_l1Inf.f a0).bind fun t180 => (if t180 = true then (some 1) else (if feq a0 0 = true then (some 2) else ((spec_l1Parts.f k a0).bind fun bt181 => (if bt181.2 ≥ 0 then (some 3) else (some 4)))))) = some r := by rw [if_neg (show ¬ (false = true) by decide)] at H; exact H
    clear H
    have H := H1
    clear H1
    replace H := Option.bind_eq_some_iff.mp H
    obtain ⟨t180, A40, H⟩ := H
    replace H : (if t180 = true then (some 1) else (if feq a0 0 = true then (some 2) else ((spec_l1Parts.f k a0).bind fun bt181 => (if bt181.2 ≥ 0 then (some 3) else (some 4))))) = some r := H
    have A4 := Aside0.mk A40
    clear A40
    by_cases c5 : t180 = true
    · subst c5
      have H1 : (some 1) = some r := by rw [if_pos rfl] at H; exact H
      clear H
      have H := H1
      clear H1
      obtain rfl := Option.some.inj H
      go_enter Tryd.func29, Tryd.ntmps29
      go_wp2_with (first | ((with_reducible refine gate_callee (f := 60) rfl ?_); refine goesL_ (some 7) rfl rfl Tryd.func60 (by kernel_rfl) rfl #[.float .f64 a0] rfl (by (try simp only [List.map_toArray, List.map_cons, List.map_nil]); first | done | rfl | (simp only [List.length_drop, List.length_take]; rfl)) ?_; (with_reducible refine (spec_l1Nan.calls a0 false _ A2.out).mono ?_); rintro e w' ⟨rfl, ⟨nd, rfl⟩⟩; refine ⟨_, rfl, ?_⟩) | ((with_reducible refine gate_callee (f := 61) rfl ?_); refine goesL_ (some 10) rfl rfl Tryd.func61 (by kernel_rfl) rfl #[.float .f64 a0] rfl (by (try simp only [List.map_toArray, List.map_cons, List.map_nil]); first | done | rfl | (simp only [List.length_drop, List.length_take]; rfl)) ?_; (with_reducible refine (spec_l1Inf.calls a0 true _ A4.out).mono ?_); rintro e w' ⟨rfl, ⟨nd, rfl⟩⟩; refine ⟨_, rfl, ?_⟩))
      go_ret
      exact ⟨by first | rfl | (simp; done) | (simp [*]; done), by repeat (first | exact Drawn0.refl _ | apply Drawn0.step)⟩
    · replace c5 := Bool.eq_false_iff.mpr c5
      subst c5
      have H1 : (if feq a0 0 = true then (some 2) else ((spec_l1Parts.f k a0).bind fun bt181 => (if bt181.2 ≥ 0 then (some 3) else (some 4)))) = some r := by rw [if_neg (show ¬ (false = true) by decide)] at H; exact H
      clear H
      have H := H1
      clear H1
      by_cases c6 : feq a0 0 = true
      · rw [if_pos c6] at H
        have c6b0 : feq a0 0 = true := c6
        clear c6
        obtain rfl := Option.some.inj H
        go_enter Tryd.func29, Tryd.ntmps29
        go_wp2_with (first | ((with_reducible refine gate_callee (f := 60) rfl ?_); refine goesL_ (some 7) rfl rfl Tryd.func60 (by kernel_rfl) rfl #[.float .f64 a0] rfl (by (try simp only [List.map_toArray, List.map_cons, List.map_nil]); first | done | rfl | (simp only [List.length_drop, List.length_take]; rfl)) ?_; (with_reducible refine (spec_l1Nan.calls a0 false _ A2.out).mono ?_); rintro e w' ⟨rfl, ⟨nd, rfl⟩⟩; refine ⟨_, rfl, ?_⟩) | ((with_reducible refine gate_callee (f := 61) rfl ?_); refine goesL_ (some 10) rfl rfl Tryd.func61 (by kernel_rfl) rfl #[.float .f64 a0] rfl (by (try simp only [List.map_toArray, List.map_cons, List.map_nil]); first | done | rfl | (simp only [List.length_drop, List.length_take]; rfl)) ?_; (with_reducible refine (spec_l1Inf.calls a0 false _ A4.out).mono ?_); rintro e w' ⟨rfl, ⟨nd, rfl⟩⟩; refine ⟨_, rfl, ?_⟩))
        go_ret
        exact ⟨by first | rfl | (simp; done) | (simp [*]; done), by repeat (first | exact Drawn0.refl _ | apply Drawn0.step)⟩
      · rw [if_neg c6] at H
        have c6b0 : feq a0 0 = false := by simpa using c6
        clear c6
        replace H := Option.bind_eq_some_iff.mp H
        obtain ⟨⟨t181, t182⟩, A70, H⟩ := H
        replace H : (if t182 ≥ 0 then (some 3) else (some 4)) = some r := H
        have A7 := Aside0.mk A70
        clear A70
        by_cases c8 : t182 ≥ 0
        · rw [if_pos c8] at H
          have c8b0 : decide (0 ≤ t182) = true := decide_eq_true c8
          clear c8
          obtain rfl := Option.some.inj H
          go_enter Tryd.func29, Tryd.ntmps29
          go_wp2_with (first | ((with_reducible refine gate_callee (f := 60) rfl ?_); refine goesL_ (some 7) rfl rfl Tryd.func60 (by kernel_rfl) rfl #[.float .f64 a0] rfl (by (try simp only [List.map_toArray, List.map_cons, List.map_nil]); first | done | rfl | (simp only [List.length_drop, List.length_take]; rfl)) ?_; (with_reducible refine (spec_l1Nan.calls a0 false _ A2.out).mono ?_); rintro e w' ⟨rfl, ⟨nd, rfl⟩⟩; refine ⟨_, rfl, ?_⟩) | ((with_reducible refine gate_callee (f := 61) rfl ?_); refine goesL_ (some 10) rfl rfl Tryd.func61 (by kernel_rfl) rfl #[.float .f64 a0] rfl (by (try simp only [List.map_toArray, List.map_cons, List.map_nil]); first | done | rfl | (simp only [List.length_drop, List.length_take]; rfl)) ?_; (with_reducible refine (spec_l1Inf.calls a0 false _ A4.out).mono ?_); rintro e w' ⟨rfl, ⟨nd, rfl⟩⟩; refine ⟨_, rfl, ?_⟩) | ((with_reducible refine gate_callee (f := 31) rfl ?_); refine goesL_ (some 16) rfl rfl Tryd.func31 (by kernel_rfl) rfl #[.float .f64 a0] rfl (by (try simp only [List.map_toArray, List.map_cons, List.map_nil]); first | done | rfl | (simp only [List.length_drop, List.length_take]; rfl)) ?_; (with_reducible refine (spec_l1Parts.calls k a0 t181 t182 _ A7.out).mono ?_); rintro e w' ⟨rfl, ⟨nd, rfl⟩⟩; refine ⟨_, rfl, ?_⟩))
          go_ret
          exact ⟨by first | rfl | (simp; done) | (simp [*]; done), by repeat (first | exact Drawn0.refl _ | apply Drawn0.step)⟩
        · rw [if_neg c8] at H
          have c8b0 : decide (0 ≤ t182) = false := decide_eq_false c8
          clear c8
          obtain rfl := Option.some.inj H
          go_enter Tryd.func29, Tryd.ntmps29
          go_wp2_with (first | ((with_reducible refine gate_callee (f := 60) rfl ?_); refine goesL_ (some 7) rfl rfl Tryd.func60 (by kernel_rfl) rfl #[.float .f64 a0] rfl (by (try simp only [List.map_toArray, List.map_cons, List.map_nil]); first | done | rfl | (simp only [List.length_drop, List.length_take]; rfl)) ?_; (with_reducible refine (spec_l1Nan.calls a0 false _ A2.out).mono ?_); rintro e w' ⟨rfl, ⟨nd, rfl⟩⟩; refine ⟨_, rfl, ?_⟩) | ((with_reducible refine gate_callee (f := 61) rfl ?_); refine goesL_ (some 10) rfl rfl Tryd.func61 (by kernel_rfl) rfl #[.float .f64 a0] rfl (by (try simp only [List.map_toArray, List.map_cons, List.map_nil]); first | done | rfl | (simp only [List.length_drop, List.length_take]; rfl)) ?_; (with_reducible refine (spec_l1Inf.calls a0 false _ A4.out).mono ?_); rintro e w' ⟨rfl, ⟨nd, rfl⟩⟩; refine ⟨_, rfl, ?_⟩) | ((with_reducible refine gate_callee (f := 31) rfl ?_); refine goesL_ (some 16) rfl rfl Tryd.func31 (by kernel_rfl) rfl #[.float .f64 a0] rfl (by (try simp only [List.map_toArray, List.map_cons, List.map_nil]); first | done | rfl | (simp only [List.length_drop, List.length_take]; rfl)) ?_; (with_reducible refine (spec_l1Parts.calls k a0 t181 t182 _ A7.out).mono ?_); rintro e w' ⟨rfl, ⟨nd, rfl⟩⟩; refine ⟨_, rfl, ?_⟩))
          go_ret
          exact ⟨by first | rfl | (simp; done) | (simp [*]; done), by repeat (first | exact Drawn0.refl _ | apply Drawn0.step)⟩

/-! ### spec_IsMinus: function 30 -/
def spec_IsMinus.f (a0 : Nat) : Option (Bool) := if flt a0 0 = true then (some true) else (if feq a0 0 = true then (if fdivOk 4607182418800017408 a0 = true then (some (flt (fdiv 4607182418800017408 a0) 0)) else (none)) else (some false))
set_option maxHeartbeats 8000000 in
set_option maxRecDepth 100000 in
theorem spec_IsMinus.calls (a0 : Nat) (r : Bool) (w : World) (h : spec_IsMinus.f a0 = some r) :
    Calls Tryd.prog 30 #[.float .f64 a0] w fun e w' => e = .returned (.bool r) ∧ Drawn0 w w' := by
  have H : (if flt a0 0 = true then (some true) else (if feq a0 0 = true then (if fdivOk 4607182418800017408 a0 = true then (some (flt (fdiv 4607182418800017408 a0) 0)) else (none)) else (some false))) = some r := h
  clear h
  by_cases c2 : flt a0 0 = true
  · rw [if_pos c2] at H
    have c2b0 : flt a0 0 = true := c2
    clear c2
    obtain rfl := Option.some.inj H
    go_enter Tryd.func30, Tryd.ntmps30
    go_wp2
    go_ret
    exact ⟨by first | rfl | (simp; done) | (simp [*]; done), by repeat (first | exact Drawn0.refl _ | apply Drawn0.step)⟩
  · rw [if_neg c2] at H
    have c2b0 : flt a0 0 = false := by simpa using c2
    clear c2
    by_cases c3 : feq a0 0 = true
    · rw [if_pos c3] at H
      have c3b0 : feq a0 0 = true := c3
      clear c3
      by_cases c4 : fdivOk 4607182418800017408 a0 = true
      · rw [if_pos c4] at H
        have c4b0 := eq_true c4
        have c4b1 : decide (fdivOk 4607182418800017408 a0 = true) = true := decide_eq_true c4
        clear c4
        obtain rfl := Option.some.inj H
        go_enter Tryd.func30, Tryd.ntmps30
        go_wp2
        go_ret
        exact ⟨by first | rfl | (simp; done) | (simp [*]; done), by repeat (first | exact Drawn0.refl _ | apply Drawn0.step)⟩
      · rw [if_neg c4] at H
        exact absurd H (by simp)
    · rw [if_neg c3] at H
      have c3b0 : feq a0 0 = false := by simpa using c3
      clear c3
      obtain rfl := Option.some.inj H
      go_enter Tryd.func30, Tryd.ntmps30
      go_wp2
      go_ret
      exact ⟨by first | rfl | (simp; done) | (simp [*]; done), by repeat (first | exact Drawn0.refl _ | apply Drawn0.step)⟩

end Go.Proofs.YthdpiceiemkjlaaDoor.GFnNumText

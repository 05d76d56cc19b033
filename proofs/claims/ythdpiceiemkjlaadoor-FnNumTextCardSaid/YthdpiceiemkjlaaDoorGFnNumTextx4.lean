-- Printed by wip/tools/print2.py out of the translation: walks and plain functions; Lean checks them.
import Derived.Test.YthdpiceiemkjlaaDoorGFnNumTextx0
import Derived.Test.YthdpiceiemkjlaaDoorGFnNumTextx1
import Derived.Test.YthdpiceiemkjlaaDoorGFnNumTextx2
import Derived.Test.YthdpiceiemkjlaaDoorGFnNumTextx3
namespace Go.Proofs.YthdpiceiemkjlaaDoor.GFnNumText
open Go.RowKit Go.Proofs.YthdpiceiemkjlaaDoorW.PrintWords Go.Proofs.YthdpiceiemkjlaaDoorW.PrintLast Go.Proofs.YthdpiceiemkjlaaDoorW.PrintMore
attribute [local go_sem] max2_int min2_int max_two min_two max_three min_three max_four min_four   -- for this text's walks alone
set_option linter.unusedVariables false
set_option linter.unusedSimpArgs false

/-! ### impl_ReadNum: function 8 (by hand: errors of the library) -/
def impl_ReadNum.t (k : Nat) (a0 : ByteArray) (x : Nat) : Option (Nat × Bool) := (impl_NumText.f k x).bind fun t => (if t.toList = a0.toList then (some (x, true)) else (some (0, false)))
def impl_ReadNum.f (k : Nat) (a0 : ByteArray) : Option (Nat × Bool) := if (a0.size : Int) > 40 then (some (0, false)) else (if a0.toList = ([110, 97, 110] : List UInt8) then ((math_NaN.f).bind fun x => impl_ReadNum.t k a0 x) else (if a0.toList = ([105, 110, 102] : List UInt8) then ((math_Inf.f 1).bind fun x => impl_ReadNum.t k a0 x) else (if a0.toList = ([45, 105, 110, 102] : List UInt8) then ((math_Inf.f (-1)).bind fun x => impl_ReadNum.t k a0 x) else (if a0.toList = ([45, 48] : List UInt8) then ((math_Copysign.f 0 13830554455654793216).bind fun x => impl_ReadNum.t k a0 x) else (if a0.toList = ([48] : List UInt8) then (impl_ReadNum.t k a0 0) else ((strings_Cut.f a0 (⟨#[112]⟩ : ByteArray)).bind fun c => ((impl_NumOf.f k (Go.Proofs.YthdpiceiemkjlaaDoor.MRead.atoiN c.1.data.toList).1 (Go.Proofs.YthdpiceiemkjlaaDoor.MRead.atoiN c.2.1.data.toList).1).bind fun b => (if (Go.Proofs.YthdpiceiemkjlaaDoor.MRead.atoiN c.1.data.toList).2 = true then (if (Go.Proofs.YthdpiceiemkjlaaDoor.MRead.atoiN c.2.1.data.toList).2 = true then (if b.2 = true then (impl_ReadNum.t k a0 b.1) else (some (0, false))) else (some (0, false))) else (some (0, false))))))))))
theorem impl_ReadNum.mono_t (k : Nat) (a0 : ByteArray) (x : Nat) : LeO (impl_ReadNum.t k a0 x) (impl_ReadNum.t (k + 1) a0 x) := LeO.bind (impl_NumText.mono _ _) (fun _ => LeO.refl _)
theorem impl_ReadNum.mono : ∀ a0 k, LeO (impl_ReadNum.f k a0) (impl_ReadNum.f (k + 1) a0) := by
  intro a0 k
  unfold impl_ReadNum.f
  repeat' first
    | exact impl_ReadNum.mono_t _ _ _
    | exact impl_NumOf.mono _ _ _
    | (with_reducible exact LeO.refl _)
    | (with_reducible refine LeO.ite ?_ ?_)
    | (with_reducible refine LeO.bind ?_ (fun _ => ?_))
def impl_ReadNum.A.rho : Go.Shelf.Ren := ⟨fun q => if q = 129 then 113 else if q = 171 then 22 else if q = 172 then 27 else if q = 205 then 106 else if q = 243 then 53 else if q = 244 then 57 else if q = 245 then 58 else if q = 246 then 84 else if q = 247 then 86 else if q = 279 then 87 else if q = 280 then 88 else if q = 281 then 89 else if q = 282 then 90 else if q = 283 then 96 else if q = 284 then 97 else if q = 285 then 98 else if q = 286 then 99 else if q = 287 then 104 else if q = 316 then 105 else if q = 317 then 112 else if q = 318 then 114 else if q = 319 then 115 else if q = 320 then 116 else if q = 321 then 119 else if q = 322 then 120 else if q = 337 then 134 else if q = 338 then 135 else 0, fun q => if q = 0 then 0 else if q = 2 then 2 else if q = 3 then 3 else if q = 4 then 4 else if q = 5 then 5 else if q = 9 then 9 else if q = 20 then 20 else if q = 21 then 21 else if q = 37 then 22 else if q = 46 then 100 else if q = 51 then 118 else if q = 53 then 57 else if q = 75 then 50 else if q = 76 then 51 else if q = 80 then 151 else if q = 85 then 92 else if q = 127 then 123 else if q = 143 then 124 else if q = 145 then 126 else if q = 167 then 91 else if q = 168 then 94 else if q = 171 then 101 else if q = 173 then 104 else if q = 175 then 107 else if q = 210 then 111 else if q = 212 then 117 else if q = 213 then 119 else if q = 232 then 143 else if q = 233 then 144 else 0, fun q => if q = 15 then 2 else if q = 16 then 3 else if q = 17 then 4 else if q = 18 then 5 else if q = 19 then 6 else 0⟩
theorem impl_ReadNum.A.laid : Go.Proofs.LaysC.n172 Tryd.prog impl_ReadNum.A.rho where
  mixed := by kernel_rfl
  f129 := by kernel_rfl
  f171 := by kernel_rfl
  f172 := by kernel_rfl
  f205 := by kernel_rfl
  f243 := by kernel_rfl
  f244 := by kernel_rfl
  f245 := by kernel_rfl
  f246 := by kernel_rfl
  f247 := by kernel_rfl
  f279 := by kernel_rfl
  f280 := by kernel_rfl
  f281 := by kernel_rfl
  f282 := by kernel_rfl
  f283 := by kernel_rfl
  f284 := by kernel_rfl
  f285 := by kernel_rfl
  f286 := by kernel_rfl
  f287 := by kernel_rfl
  f316 := by kernel_rfl
  f317 := by kernel_rfl
  f318 := by kernel_rfl
  f319 := by kernel_rfl
  f320 := by kernel_rfl
  f321 := by kernel_rfl
  f322 := by kernel_rfl
  f337 := by kernel_rfl
  f338 := by kernel_rfl
  t0 := by kernel_rfl
  a0 := fun w => by kernel_rfl
  z0 := fun w => by kernel_rfl
  v0 := fun w => by kernel_rfl
  t2 := by kernel_rfl
  a2 := fun w => by kernel_rfl
  z2 := fun w => by kernel_rfl
  v2 := fun w => by kernel_rfl
  t3 := by kernel_rfl
  a3 := fun w => by kernel_rfl
  z3 := fun w => by kernel_rfl
  v3 := fun w => by kernel_rfl
  t4 := by kernel_rfl
  a4 := fun w => by kernel_rfl
  z4 := fun w => by kernel_rfl
  v4 := fun w => by kernel_rfl
  t5 := by kernel_rfl
  a5 := fun w => by kernel_rfl
  z5 := fun w => by kernel_rfl
  v5 := fun w => by kernel_rfl
  t9 := by kernel_rfl
  a9 := fun w => by kernel_rfl
  z9 := fun w => by kernel_rfl
  v9 := fun w => by kernel_rfl
  t20 := by kernel_rfl
  a20 := fun w => by kernel_rfl
  z20 := fun w => by kernel_rfl
  v20 := fun w => by kernel_rfl
  t21 := by kernel_rfl
  a21 := fun w => by kernel_rfl
  z21 := fun w => by kernel_rfl
  v21 := fun w => by kernel_rfl
  t37 := by kernel_rfl
  a37 := fun w => by kernel_rfl
  z37 := fun w => by kernel_rfl
  v37 := fun w => by kernel_rfl
  t46 := by kernel_rfl
  a46 := fun w => by kernel_rfl
  z46 := fun w => by kernel_rfl
  v46 := fun w => by kernel_rfl
  t51 := by kernel_rfl
  a51 := fun w => by kernel_rfl
  z51 := fun w => by kernel_rfl
  v51 := fun w => by kernel_rfl
  t53 := by kernel_rfl
  a53 := fun w => by kernel_rfl
  z53 := fun w => by kernel_rfl
  v53 := fun w => by kernel_rfl
  t75 := by kernel_rfl
  a75 := fun w => by kernel_rfl
  z75 := fun w => by kernel_rfl
  v75 := fun w => by kernel_rfl
  t76 := by kernel_rfl
  a76 := fun w => by kernel_rfl
  z76 := fun w => by kernel_rfl
  v76 := fun w => by kernel_rfl
  t85 := by kernel_rfl
  a85 := fun w => by kernel_rfl
  z85 := fun w => by kernel_rfl
  v85 := fun w => by kernel_rfl
  t127 := by kernel_rfl
  a127 := fun w => by kernel_rfl
  z127 := fun w => by kernel_rfl
  v127 := fun w => by kernel_rfl
  t143 := by kernel_rfl
  a143 := fun w => by kernel_rfl
  z143 := fun w => by kernel_rfl
  v143 := fun w => by kernel_rfl
  t145 := by kernel_rfl
  a145 := fun w => by kernel_rfl
  z145 := fun w => by kernel_rfl
  v145 := fun w => by kernel_rfl
  t167 := by kernel_rfl
  a167 := fun w => by kernel_rfl
  z167 := fun w => by kernel_rfl
  v167 := fun w => by kernel_rfl
  t168 := by kernel_rfl
  a168 := fun w => by kernel_rfl
  z168 := fun w => by kernel_rfl
  v168 := fun w => by kernel_rfl
  t171 := by kernel_rfl
  a171 := fun w => by kernel_rfl
  z171 := fun w => by kernel_rfl
  v171 := fun w => by kernel_rfl
  t173 := by kernel_rfl
  a173 := fun w => by kernel_rfl
  z173 := fun w => by kernel_rfl
  v173 := fun w => by kernel_rfl
  t175 := by kernel_rfl
  a175 := fun w => by kernel_rfl
  z175 := fun w => by kernel_rfl
  v175 := fun w => by kernel_rfl
  t210 := by kernel_rfl
  a210 := fun w => by kernel_rfl
  z210 := fun w => by kernel_rfl
  v210 := fun w => by kernel_rfl
  t212 := by kernel_rfl
  a212 := fun w => by kernel_rfl
  z212 := fun w => by kernel_rfl
  v212 := fun w => by kernel_rfl
  t213 := by kernel_rfl
  a213 := fun w => by kernel_rfl
  z213 := fun w => by kernel_rfl
  t232 := by kernel_rfl
  a232 := fun w => by kernel_rfl
  z232 := fun w => by kernel_rfl
  v232 := fun w => by kernel_rfl
  t233 := by kernel_rfl
  a233 := fun w => by kernel_rfl
  z233 := fun w => by kernel_rfl
  v233 := fun w => by kernel_rfl
  g15 := by kernel_rfl
  g16 := by kernel_rfl
  g17 := by kernel_rfl
  g18 := by kernel_rfl
  g19 := by kernel_rfl
  t80 := by kernel_rfl
  a80 := fun w => by kernel_rfl
  z80 := fun w => by kernel_rfl
  v80 := fun w => by kernel_rfl
  i0 := by kernel_rfl
  i2 := by kernel_rfl
  i3 := by kernel_rfl
  i4 := by kernel_rfl
  i5 := by kernel_rfl
  i9 := by kernel_rfl
  i20 := by kernel_rfl
  i21 := by kernel_rfl
  i37 := by kernel_rfl
  i46 := by kernel_rfl
  i51 := by kernel_rfl
  i53 := by kernel_rfl
  i75 := by kernel_rfl
  i76 := by kernel_rfl
  i80 := by kernel_rfl
  i85 := by kernel_rfl
  i127 := by kernel_rfl
  i143 := by kernel_rfl
  i145 := by kernel_rfl
  i167 := by kernel_rfl
  i168 := by kernel_rfl
  i171 := by kernel_rfl
  i173 := by kernel_rfl
  i175 := by kernel_rfl
  i210 := by kernel_rfl
  i212 := by kernel_rfl
  i232 := by kernel_rfl
  i233 := by kernel_rfl
  m15 := by kernel_rfl
  m16 := by kernel_rfl
  m17 := by kernel_rfl
  m18 := by kernel_rfl
  m19 := by kernel_rfl
  c0 := by kernel_rfl
  c2 := by kernel_rfl
  c3 := by kernel_rfl
  c4 := by kernel_rfl
  c5 := by kernel_rfl
  c9 := by kernel_rfl
  c20 := by kernel_rfl
  c21 := by kernel_rfl
  c37 := by kernel_rfl
  c46 := by kernel_rfl
  c51 := by kernel_rfl
  c53 := by kernel_rfl
  c75 := by kernel_rfl
  c76 := by kernel_rfl
  c80 := by kernel_rfl
  c85 := by kernel_rfl
  c127 := by kernel_rfl
  c143 := by kernel_rfl
  c145 := by kernel_rfl
  c167 := by kernel_rfl
  c168 := by kernel_rfl
  c171 := by kernel_rfl
  c173 := by kernel_rfl
  c175 := by kernel_rfl
  c210 := by kernel_rfl
  c212 := by kernel_rfl
  c213 := by kernel_rfl
  c232 := by kernel_rfl
  c233 := by kernel_rfl
set_option maxHeartbeats 4000000 in
set_option maxRecDepth 100000 in
theorem impl_ReadNum.calls (k : Nat) (a0 : ByteArray) (r1 : Nat) (r2 : Bool) (w : World) (hT : Go.Proofs.YthdpiceiemkjlaaDoor.MRead.Tabs2 w) (h : impl_ReadNum.f k a0 = some (r1, r2)) :
    Calls Tryd.prog 8 #[.string a0] w fun e w' => e = .returned (.tuple #[.float .f64 r1, .bool r2]) ∧ Below w.heap.size w w' := by
  have HB := Aside0.mk (Below.refl w.heap.size w)
  have HT := Aside0.mk hT
  clear hT
  have hNT : ∀ (x : Nat) (t : ByteArray) (W : World), impl_NumText.f k x = some t → Below w.heap.size w W → Calls Tryd.prog 7 #[.float .f64 x] W fun e w' => e = .returned (.string t) ∧ Below w.heap.size w w' := fun x t W h1 hb =>
    (impl_NumText.calls (hT := Go.Proofs.YthdpiceiemkjlaaDoor.MRead.tabs2_below HT.out hb) k x t W h1).mono fun e w' ⟨q1, q2⟩ => ⟨q1, below_step hb q2⟩
  have HNT := Aside0.mk hNT
  clear hNT
  unfold impl_ReadNum.f at h
  by_cases c0 : (a0.size : Int) > 40
  · rw [if_pos c0] at h
    have c0b : decide ((a0.size : Int) > 40) = true := decide_eq_true c0
    have c0c : decide ((40 : Int) < (a0.size : Int)) = true := decide_eq_true c0
    clear c0
    simp only [Option.some.injEq, Prod.mk.injEq] at h
    obtain ⟨rfl, rfl⟩ := h
    go_enter Tryd.func8, Tryd.ntmps8
    go_wp2
    go_ret2
    exact ⟨rfl, HB.out⟩
  rw [if_neg c0] at h
  have hs40 : a0.size ≤ 40 := by omega
  have HS := Aside0.mk hs40
  have c0b : decide ((a0.size : Int) > 40) = false := decide_eq_false c0
  have c0c : decide ((40 : Int) < (a0.size : Int)) = false := decide_eq_false c0
  clear c0 hs40
  by_cases c1 : a0.toList = ([110, 97, 110] : List UInt8)
  · rw [if_pos c1] at h
    have c1b : (a0.toList == ([110, 97, 110] : List UInt8)) = true := beq_iff_eq.mpr c1
    have c1c : (a0.toList != ([110, 97, 110] : List UInt8)) = false := bne_eq_false_iff_eq.mpr c1
    clear c1
    obtain ⟨x, hx, h⟩ := Option.bind_eq_some_iff.mp h
    have A1 := Aside0.mk hx
    clear hx
    unfold impl_ReadNum.t at h
    obtain ⟨t, ht, h⟩ := Option.bind_eq_some_iff.mp h
    have A2 := Aside0.mk ht
    clear ht
    by_cases ce : t.toList = a0.toList
    · rw [if_pos ce] at h
      have ceb : (t.toList == a0.toList) = true := beq_iff_eq.mpr ce
      have cec : (t.toList != a0.toList) = false := bne_eq_false_iff_eq.mpr ce
      clear ce
      simp only [Option.some.injEq, Prod.mk.injEq] at h
      obtain ⟨rfl, rfl⟩ := h
      go_enter Tryd.func8, Tryd.ntmps8
      go_wp2_with (first | (go_at_call 23; refine (math_NaN.calls x _ A1.out).mono ?_; rintro e w1 ⟨rfl, ⟨m1, rfl⟩⟩) | (go_at_call 7; refine (HNT.out x t _ A2.out (by repeat (first | exact HB.out | apply pw_below_drewN | apply below_drew1))).mono ?_; rintro e w2 ⟨rfl, hb2⟩))
      go_ret2
      exact ⟨rfl, hb2⟩
    · rw [if_neg ce] at h
      have ceb : (t.toList == a0.toList) = false := beq_eq_false_iff_ne.mpr ce
      have cec : (t.toList != a0.toList) = true := bne_iff_ne.mpr ce
      clear ce
      simp only [Option.some.injEq, Prod.mk.injEq] at h
      obtain ⟨rfl, rfl⟩ := h
      go_enter Tryd.func8, Tryd.ntmps8
      go_wp2_with (first | (go_at_call 23; refine (math_NaN.calls x _ A1.out).mono ?_; rintro e w1 ⟨rfl, ⟨m1, rfl⟩⟩) | (go_at_call 7; refine (HNT.out x t _ A2.out (by repeat (first | exact HB.out | apply pw_below_drewN | apply below_drew1))).mono ?_; rintro e w2 ⟨rfl, hb2⟩))
      go_ret2
      exact ⟨rfl, hb2⟩
  rw [if_neg c1] at h
  have c1b : (a0.toList == ([110, 97, 110] : List UInt8)) = false := beq_eq_false_iff_ne.mpr c1
  have c1c : (a0.toList != ([110, 97, 110] : List UInt8)) = true := bne_iff_ne.mpr c1
  clear c1
  by_cases c2 : a0.toList = ([105, 110, 102] : List UInt8)
  · rw [if_pos c2] at h
    have c2b : (a0.toList == ([105, 110, 102] : List UInt8)) = true := beq_iff_eq.mpr c2
    have c2c : (a0.toList != ([105, 110, 102] : List UInt8)) = false := bne_eq_false_iff_eq.mpr c2
    clear c2
    obtain ⟨x, hx, h⟩ := Option.bind_eq_some_iff.mp h
    have A1 := Aside0.mk hx
    clear hx
    unfold impl_ReadNum.t at h
    obtain ⟨t, ht, h⟩ := Option.bind_eq_some_iff.mp h
    have A2 := Aside0.mk ht
    clear ht
    by_cases ce : t.toList = a0.toList
    · rw [if_pos ce] at h
      have ceb : (t.toList == a0.toList) = true := beq_iff_eq.mpr ce
      have cec : (t.toList != a0.toList) = false := bne_eq_false_iff_eq.mpr ce
      clear ce
      simp only [Option.some.injEq, Prod.mk.injEq] at h
      obtain ⟨rfl, rfl⟩ := h
      go_enter Tryd.func8, Tryd.ntmps8
      go_wp2_with (first | (go_at_call 24; refine (math_Inf.calls 1 x _ A1.out).mono ?_; rintro e w1 ⟨rfl, ⟨m1, rfl⟩⟩) | (go_at_call 7; refine (HNT.out x t _ A2.out (by repeat (first | exact HB.out | apply pw_below_drewN | apply below_drew1))).mono ?_; rintro e w2 ⟨rfl, hb2⟩))
      go_ret2
      exact ⟨rfl, hb2⟩
    · rw [if_neg ce] at h
      have ceb : (t.toList == a0.toList) = false := beq_eq_false_iff_ne.mpr ce
      have cec : (t.toList != a0.toList) = true := bne_iff_ne.mpr ce
      clear ce
      simp only [Option.some.injEq, Prod.mk.injEq] at h
      obtain ⟨rfl, rfl⟩ := h
      go_enter Tryd.func8, Tryd.ntmps8
      go_wp2_with (first | (go_at_call 24; refine (math_Inf.calls 1 x _ A1.out).mono ?_; rintro e w1 ⟨rfl, ⟨m1, rfl⟩⟩) | (go_at_call 7; refine (HNT.out x t _ A2.out (by repeat (first | exact HB.out | apply pw_below_drewN | apply below_drew1))).mono ?_; rintro e w2 ⟨rfl, hb2⟩))
      go_ret2
      exact ⟨rfl, hb2⟩
  rw [if_neg c2] at h
  have c2b : (a0.toList == ([105, 110, 102] : List UInt8)) = false := beq_eq_false_iff_ne.mpr c2
  have c2c : (a0.toList != ([105, 110, 102] : List UInt8)) = true := bne_iff_ne.mpr c2
  clear c2
  by_cases c3 : a0.toList = ([45, 105, 110, 102] : List UInt8)
  · rw [if_pos c3] at h
    have c3b : (a0.toList == ([45, 105, 110, 102] : List UInt8)) = true := beq_iff_eq.mpr c3
    have c3c : (a0.toList != ([45, 105, 110, 102] : List UInt8)) = false := bne_eq_false_iff_eq.mpr c3
    clear c3
    obtain ⟨x, hx, h⟩ := Option.bind_eq_some_iff.mp h
    have A1 := Aside0.mk hx
    clear hx
    unfold impl_ReadNum.t at h
    obtain ⟨t, ht, h⟩ := Option.bind_eq_some_iff.mp h
    have A2 := Aside0.mk ht
    clear ht
    by_cases ce : t.toList = a0.toList
    · rw [if_pos ce] at h
      have ceb : (t.toList == a0.toList) = true := beq_iff_eq.mpr ce
      have cec : (t.toList != a0.toList) = false := bne_eq_false_iff_eq.mpr ce
      clear ce
      simp only [Option.some.injEq, Prod.mk.injEq] at h
      obtain ⟨rfl, rfl⟩ := h
      go_enter Tryd.func8, Tryd.ntmps8
      go_wp2_with (first | (go_at_call 24; refine (math_Inf.calls (-1) x _ A1.out).mono ?_; rintro e w1 ⟨rfl, ⟨m1, rfl⟩⟩) | (go_at_call 7; refine (HNT.out x t _ A2.out (by repeat (first | exact HB.out | apply pw_below_drewN | apply below_drew1))).mono ?_; rintro e w2 ⟨rfl, hb2⟩))
      go_ret2
      exact ⟨rfl, hb2⟩
    · rw [if_neg ce] at h
      have ceb : (t.toList == a0.toList) = false := beq_eq_false_iff_ne.mpr ce
      have cec : (t.toList != a0.toList) = true := bne_iff_ne.mpr ce
      clear ce
      simp only [Option.some.injEq, Prod.mk.injEq] at h
      obtain ⟨rfl, rfl⟩ := h
      go_enter Tryd.func8, Tryd.ntmps8
      go_wp2_with (first | (go_at_call 24; refine (math_Inf.calls (-1) x _ A1.out).mono ?_; rintro e w1 ⟨rfl, ⟨m1, rfl⟩⟩) | (go_at_call 7; refine (HNT.out x t _ A2.out (by repeat (first | exact HB.out | apply pw_below_drewN | apply below_drew1))).mono ?_; rintro e w2 ⟨rfl, hb2⟩))
      go_ret2
      exact ⟨rfl, hb2⟩
  rw [if_neg c3] at h
  have c3b : (a0.toList == ([45, 105, 110, 102] : List UInt8)) = false := beq_eq_false_iff_ne.mpr c3
  have c3c : (a0.toList != ([45, 105, 110, 102] : List UInt8)) = true := bne_iff_ne.mpr c3
  clear c3
  by_cases c4 : a0.toList = ([45, 48] : List UInt8)
  · rw [if_pos c4] at h
    have c4b : (a0.toList == ([45, 48] : List UInt8)) = true := beq_iff_eq.mpr c4
    have c4c : (a0.toList != ([45, 48] : List UInt8)) = false := bne_eq_false_iff_eq.mpr c4
    clear c4
    obtain ⟨x, hx, h⟩ := Option.bind_eq_some_iff.mp h
    have A1 := Aside0.mk hx
    clear hx
    unfold impl_ReadNum.t at h
    obtain ⟨t, ht, h⟩ := Option.bind_eq_some_iff.mp h
    have A2 := Aside0.mk ht
    clear ht
    by_cases ce : t.toList = a0.toList
    · rw [if_pos ce] at h
      have ceb : (t.toList == a0.toList) = true := beq_iff_eq.mpr ce
      have cec : (t.toList != a0.toList) = false := bne_eq_false_iff_eq.mpr ce
      clear ce
      simp only [Option.some.injEq, Prod.mk.injEq] at h
      obtain ⟨rfl, rfl⟩ := h
      go_enter Tryd.func8, Tryd.ntmps8
      go_wp2_with (first | (go_at_call 25; refine (math_Copysign.calls 0 13830554455654793216 x _ A1.out).mono ?_; rintro e w1 ⟨rfl, ⟨m1, rfl⟩⟩) | (go_at_call 7; refine (HNT.out x t _ A2.out (by repeat (first | exact HB.out | apply pw_below_drewN | apply below_drew1))).mono ?_; rintro e w2 ⟨rfl, hb2⟩))
      go_ret2
      exact ⟨rfl, hb2⟩
    · rw [if_neg ce] at h
      have ceb : (t.toList == a0.toList) = false := beq_eq_false_iff_ne.mpr ce
      have cec : (t.toList != a0.toList) = true := bne_iff_ne.mpr ce
      clear ce
      simp only [Option.some.injEq, Prod.mk.injEq] at h
      obtain ⟨rfl, rfl⟩ := h
      go_enter Tryd.func8, Tryd.ntmps8
      go_wp2_with (first | (go_at_call 25; refine (math_Copysign.calls 0 13830554455654793216 x _ A1.out).mono ?_; rintro e w1 ⟨rfl, ⟨m1, rfl⟩⟩) | (go_at_call 7; refine (HNT.out x t _ A2.out (by repeat (first | exact HB.out | apply pw_below_drewN | apply below_drew1))).mono ?_; rintro e w2 ⟨rfl, hb2⟩))
      go_ret2
      exact ⟨rfl, hb2⟩
  rw [if_neg c4] at h
  have c4b : (a0.toList == ([45, 48] : List UInt8)) = false := beq_eq_false_iff_ne.mpr c4
  have c4c : (a0.toList != ([45, 48] : List UInt8)) = true := bne_iff_ne.mpr c4
  clear c4
  by_cases c5 : a0.toList = ([48] : List UInt8)
  · rw [if_pos c5] at h
    have c5b : (a0.toList == ([48] : List UInt8)) = true := beq_iff_eq.mpr c5
    have c5c : (a0.toList != ([48] : List UInt8)) = false := bne_eq_false_iff_eq.mpr c5
    clear c5
    obtain ⟨x, hx0⟩ : ∃ x : Nat, x = 0 := ⟨_, rfl⟩
    rw [← hx0] at h
    have A1 := Aside0.mk hx0
    clear hx0
    unfold impl_ReadNum.t at h
    obtain ⟨t, ht, h⟩ := Option.bind_eq_some_iff.mp h
    rw [A1.out] at ht h
    have A2 := Aside0.mk ht
    clear ht
    by_cases ce : t.toList = a0.toList
    · rw [if_pos ce] at h
      have ceb : (t.toList == a0.toList) = true := beq_iff_eq.mpr ce
      have cec : (t.toList != a0.toList) = false := bne_eq_false_iff_eq.mpr ce
      clear ce
      simp only [Option.some.injEq, Prod.mk.injEq] at h
      obtain ⟨rfl, rfl⟩ := h
      go_enter Tryd.func8, Tryd.ntmps8
      go_wp2_with (first | (go_at_call 7; refine (HNT.out 0 t _ A2.out (by repeat (first | exact HB.out | apply pw_below_drewN | apply below_drew1))).mono ?_; rintro e w2 ⟨rfl, hb2⟩))
      go_ret2
      exact ⟨rfl, hb2⟩
    · rw [if_neg ce] at h
      have ceb : (t.toList == a0.toList) = false := beq_eq_false_iff_ne.mpr ce
      have cec : (t.toList != a0.toList) = true := bne_iff_ne.mpr ce
      clear ce
      simp only [Option.some.injEq, Prod.mk.injEq] at h
      obtain ⟨rfl, rfl⟩ := h
      go_enter Tryd.func8, Tryd.ntmps8
      go_wp2_with (first | (go_at_call 7; refine (HNT.out 0 t _ A2.out (by repeat (first | exact HB.out | apply pw_below_drewN | apply below_drew1))).mono ?_; rintro e w2 ⟨rfl, hb2⟩))
      go_ret2
      exact ⟨rfl, hb2⟩
  rw [if_neg c5] at h
  have c5b : (a0.toList == ([48] : List UInt8)) = false := beq_eq_false_iff_ne.mpr c5
  have c5c : (a0.toList != ([48] : List UInt8)) = true := bne_iff_ne.mpr c5
  clear c5
  obtain ⟨⟨l, q, fnd⟩, hc, h⟩ := Option.bind_eq_some_iff.mp h
  obtain ⟨⟨x, ok⟩, hx, h⟩ := Option.bind_eq_some_iff.mp h
  simp only at hx h
  have hlq : l.size ≤ 40 ∧ q.size ≤ 40 := by
    have h0 := hc
    unfold strings_Cut.f at h0
    by_cases z : a0.size < 4294967281
    · rw [if_pos z] at h0
      simp only [Option.some.injEq, Prod.mk.injEq] at h0
      obtain ⟨rfl, rfl, _⟩ := h0
      have hz := HS.out
      have e1 : a0.data.toList.length = a0.size := Array.length_toList
      constructor
      · show (List.toArray _).size ≤ 40
        rw [List.size_toArray]; unfold Lib.cut; split
        · simp only [List.length_take]; omega
        · simp only; omega
      · show (List.toArray _).size ≤ 40
        rw [List.size_toArray]; unfold Lib.cut; split
        · simp only [List.length_drop]; omega
        · simp
    · rw [if_neg z] at h0; cases h0
  have A0 := Aside0.mk hc
  have A1 := Aside0.mk hx
  have HA1 := Aside0.mk (fun (W : World) (hb : Below w.heap.size w W) => (show Calls Tryd.prog 27 #[.string l] W _ from Go.Proofs.YthdpiceiemkjlaaDoor.MRead.atoi_calls impl_ReadNum.A.laid rfl rfl l (by have := hlq.1; omega) W (Go.Proofs.YthdpiceiemkjlaaDoor.MRead.tabs2_below HT.out hb)))
  have HA2 := Aside0.mk (fun (W : World) (hb : Below w.heap.size w W) => (show Calls Tryd.prog 27 #[.string q] W _ from Go.Proofs.YthdpiceiemkjlaaDoor.MRead.atoi_calls impl_ReadNum.A.laid rfl rfl q (by have := hlq.2; omega) W (Go.Proofs.YthdpiceiemkjlaaDoor.MRead.tabs2_below HT.out hb)))
  clear hc hx hlq
  generalize Go.Proofs.YthdpiceiemkjlaaDoor.MRead.atoiN l.data.toList = u at h A1 HA1
  generalize Go.Proofs.YthdpiceiemkjlaaDoor.MRead.atoiN q.data.toList = v at h A1 HA2
  obtain ⟨u1, u2⟩ := u
  obtain ⟨v1, v2⟩ := v
  simp only at h A1 HA1 HA2
  cases u2 with
  | false =>
    cases v2 with
    | false =>
      simp only [Bool.false_eq_true, if_false, if_true] at h
      simp only [Option.some.injEq, Prod.mk.injEq] at h
      obtain ⟨rfl, rfl⟩ := h
      go_enter Tryd.func8, Tryd.ntmps8
      go_wp2_with (first | (go_at_call 26; refine (strings_Cut.calls (hT := HT.out) a0 (⟨#[112]⟩ : ByteArray) l q fnd _ A0.out).mono ?_; rintro e w1 ⟨rfl, ⟨m1, rfl⟩⟩; have hbC := Aside0.mk (pw_below_drewN HB.out m1)) | (go_at_call 27; (with_reducible refine (HA1.out _ hbC.out).mono ?_); simp only [if_true, Bool.false_eq_true, if_false]; rintro e wA1 ⟨ev1, rfl, hb1, te1, Ne1, rfl⟩; have hbA1 := Aside0.mk (below_step hbC.out hb1); clear hb1) | (go_at_call 27; (with_reducible refine (HA2.out _ hbA1.out).mono ?_); simp only [if_true, Bool.false_eq_true, if_false]; rintro e wA2 ⟨ev2, rfl, hb2, te2, Ne2, rfl⟩; have hbA2 := Aside0.mk (below_step hbA1.out hb2); clear hb2) | (go_at_call 28; refine (impl_NumOf.calls k u1 v1 x _ _ A1.out).mono ?_; rintro e w5 ⟨rfl, ⟨m5, rfl⟩⟩))
      go_ret2
      exact ⟨rfl, pw_below_drewN hbA2.out _⟩
    | true =>
      simp only [Bool.false_eq_true, if_false, if_true] at h
      simp only [Option.some.injEq, Prod.mk.injEq] at h
      obtain ⟨rfl, rfl⟩ := h
      go_enter Tryd.func8, Tryd.ntmps8
      go_wp2_with (first | (go_at_call 26; refine (strings_Cut.calls (hT := HT.out) a0 (⟨#[112]⟩ : ByteArray) l q fnd _ A0.out).mono ?_; rintro e w1 ⟨rfl, ⟨m1, rfl⟩⟩; have hbC := Aside0.mk (pw_below_drewN HB.out m1)) | (go_at_call 27; (with_reducible refine (HA1.out _ hbC.out).mono ?_); simp only [if_true, Bool.false_eq_true, if_false]; rintro e wA1 ⟨ev1, rfl, hb1, te1, Ne1, rfl⟩; have hbA1 := Aside0.mk (below_step hbC.out hb1); clear hb1) | (go_at_call 27; (with_reducible refine (HA2.out _ hbA1.out).mono ?_); simp only [if_true, Bool.false_eq_true, if_false]; rintro e wA2 ⟨ev2, rfl, hb2, rfl⟩; have hbA2 := Aside0.mk (below_step hbA1.out hb2); clear hb2) | (go_at_call 28; refine (impl_NumOf.calls k u1 v1 x _ _ A1.out).mono ?_; rintro e w5 ⟨rfl, ⟨m5, rfl⟩⟩))
      go_ret2
      exact ⟨rfl, pw_below_drewN hbA2.out _⟩
  | true =>
    cases v2 with
    | false =>
      simp only [Bool.false_eq_true, if_false, if_true] at h
      simp only [Option.some.injEq, Prod.mk.injEq] at h
      obtain ⟨rfl, rfl⟩ := h
      go_enter Tryd.func8, Tryd.ntmps8
      go_wp2_with (first | (go_at_call 26; refine (strings_Cut.calls (hT := HT.out) a0 (⟨#[112]⟩ : ByteArray) l q fnd _ A0.out).mono ?_; rintro e w1 ⟨rfl, ⟨m1, rfl⟩⟩; have hbC := Aside0.mk (pw_below_drewN HB.out m1)) | (go_at_call 27; (with_reducible refine (HA1.out _ hbC.out).mono ?_); simp only [if_true, Bool.false_eq_true, if_false]; rintro e wA1 ⟨ev1, rfl, hb1, rfl⟩; have hbA1 := Aside0.mk (below_step hbC.out hb1); clear hb1) | (go_at_call 27; (with_reducible refine (HA2.out _ hbA1.out).mono ?_); simp only [if_true, Bool.false_eq_true, if_false]; rintro e wA2 ⟨ev2, rfl, hb2, te2, Ne2, rfl⟩; have hbA2 := Aside0.mk (below_step hbA1.out hb2); clear hb2) | (go_at_call 28; refine (impl_NumOf.calls k u1 v1 x _ _ A1.out).mono ?_; rintro e w5 ⟨rfl, ⟨m5, rfl⟩⟩))
      go_ret2
      exact ⟨rfl, pw_below_drewN hbA2.out _⟩
    | true =>
      simp only [Bool.false_eq_true, if_false, if_true] at h
      cases ok with
      | false =>
        simp only [Bool.false_eq_true, if_false, Option.some.injEq, Prod.mk.injEq] at h
        obtain ⟨rfl, rfl⟩ := h
        go_enter Tryd.func8, Tryd.ntmps8
        go_wp2_with (first | (go_at_call 26; refine (strings_Cut.calls (hT := HT.out) a0 (⟨#[112]⟩ : ByteArray) l q fnd _ A0.out).mono ?_; rintro e w1 ⟨rfl, ⟨m1, rfl⟩⟩; have hbC := Aside0.mk (pw_below_drewN HB.out m1)) | (go_at_call 27; (with_reducible refine (HA1.out _ hbC.out).mono ?_); simp only [if_true, Bool.false_eq_true, if_false]; rintro e wA1 ⟨ev1, rfl, hb1, rfl⟩; have hbA1 := Aside0.mk (below_step hbC.out hb1); clear hb1) | (go_at_call 27; (with_reducible refine (HA2.out _ hbA1.out).mono ?_); simp only [if_true, Bool.false_eq_true, if_false]; rintro e wA2 ⟨ev2, rfl, hb2, rfl⟩; have hbA2 := Aside0.mk (below_step hbA1.out hb2); clear hb2) | (go_at_call 28; refine (impl_NumOf.calls k u1 v1 x _ _ A1.out).mono ?_; rintro e w5 ⟨rfl, ⟨m5, rfl⟩⟩))
        go_ret2
        exact ⟨rfl, pw_below_drewN hbA2.out _⟩
      | true =>
        simp only [if_true] at h
        unfold impl_ReadNum.t at h
        obtain ⟨t, ht, h⟩ := Option.bind_eq_some_iff.mp h
        have A2 := Aside0.mk ht
        clear ht
        by_cases ce : t.toList = a0.toList
        · rw [if_pos ce] at h
          have ceb : (t.toList == a0.toList) = true := beq_iff_eq.mpr ce
          have cec : (t.toList != a0.toList) = false := bne_eq_false_iff_eq.mpr ce
          clear ce
          simp only [Option.some.injEq, Prod.mk.injEq] at h
          obtain ⟨rfl, rfl⟩ := h
          go_enter Tryd.func8, Tryd.ntmps8
          go_wp2_with (first | (go_at_call 26; refine (strings_Cut.calls (hT := HT.out) a0 (⟨#[112]⟩ : ByteArray) l q fnd _ A0.out).mono ?_; rintro e w1 ⟨rfl, ⟨m1, rfl⟩⟩; have hbC := Aside0.mk (pw_below_drewN HB.out m1)) | (go_at_call 27; (with_reducible refine (HA1.out _ hbC.out).mono ?_); simp only [if_true, Bool.false_eq_true, if_false]; rintro e wA1 ⟨ev1, rfl, hb1, rfl⟩; have hbA1 := Aside0.mk (below_step hbC.out hb1); clear hb1) | (go_at_call 27; (with_reducible refine (HA2.out _ hbA1.out).mono ?_); simp only [if_true, Bool.false_eq_true, if_false]; rintro e wA2 ⟨ev2, rfl, hb2, rfl⟩; have hbA2 := Aside0.mk (below_step hbA1.out hb2); clear hb2) | (go_at_call 28; refine (impl_NumOf.calls k u1 v1 x _ _ A1.out).mono ?_; rintro e w5 ⟨rfl, ⟨m5, rfl⟩⟩) | (go_at_call 7; refine (HNT.out x t _ A2.out (by repeat (first | exact hbA2.out | apply pw_below_drewN | apply below_drew1))).mono ?_; rintro e w2 ⟨rfl, hb2⟩))
          go_ret2
          exact ⟨rfl, hb2⟩
        · rw [if_neg ce] at h
          have ceb : (t.toList == a0.toList) = false := beq_eq_false_iff_ne.mpr ce
          have cec : (t.toList != a0.toList) = true := bne_iff_ne.mpr ce
          clear ce
          simp only [Option.some.injEq, Prod.mk.injEq] at h
          obtain ⟨rfl, rfl⟩ := h
          go_enter Tryd.func8, Tryd.ntmps8
          go_wp2_with (first | (go_at_call 26; refine (strings_Cut.calls (hT := HT.out) a0 (⟨#[112]⟩ : ByteArray) l q fnd _ A0.out).mono ?_; rintro e w1 ⟨rfl, ⟨m1, rfl⟩⟩; have hbC := Aside0.mk (pw_below_drewN HB.out m1)) | (go_at_call 27; (with_reducible refine (HA1.out _ hbC.out).mono ?_); simp only [if_true, Bool.false_eq_true, if_false]; rintro e wA1 ⟨ev1, rfl, hb1, rfl⟩; have hbA1 := Aside0.mk (below_step hbC.out hb1); clear hb1) | (go_at_call 27; (with_reducible refine (HA2.out _ hbA1.out).mono ?_); simp only [if_true, Bool.false_eq_true, if_false]; rintro e wA2 ⟨ev2, rfl, hb2, rfl⟩; have hbA2 := Aside0.mk (below_step hbA1.out hb2); clear hb2) | (go_at_call 28; refine (impl_NumOf.calls k u1 v1 x _ _ A1.out).mono ?_; rintro e w5 ⟨rfl, ⟨m5, rfl⟩⟩) | (go_at_call 7; refine (HNT.out x t _ A2.out (by repeat (first | exact hbA2.out | apply pw_below_drewN | apply below_drew1))).mono ?_; rintro e w2 ⟨rfl, hb2⟩))
          go_ret2
          exact ⟨rfl, hb2⟩

end Go.Proofs.YthdpiceiemkjlaaDoor.GFnNumText

-- Printed by wip/tools/print2.py out of the translation: walks and plain functions; Lean checks them.
import Derived.Test.YtpfbiopcfbokbaaDoorGReadNumx0
import Derived.Test.YtpfbiopcfbokbaaDoorGReadNumx3
import Derived.Test.YtpfbiopcfbokbaaDoorGReadNumx5
namespace Go.Proofs.YtpfbiopcfbokbaaDoor.GReadNum
open Go.RowKit Go.Proofs.YtpfbiopcfbokbaaDoorW.PrintWords Go.Proofs.YtpfbiopcfbokbaaDoorW.PrintLast Go.Proofs.YtpfbiopcfbokbaaDoorW.PrintMore
attribute [local go_sem] max2_int min2_int max_two min_two max_three min_three max_four min_four   -- for this text's walks alone
set_option linter.unusedVariables false
set_option linter.unusedSimpArgs false

/-! ### laws_FnExactReadNum: function 6 (by hand: the reference draws its NaN) -/
set_option maxHeartbeats 4000000 in
theorem laws_FnExactReadNum.spec_nan (a0 : ByteArray) (w : World) (h : a0.toList = ([110, 97, 110] : List UInt8)) :
    Calls Tryd.prog 19 #[.string a0] w fun e w' => ∃ o, feq o o = false ∧ e = .returned (.tuple #[.float .f64 o, .bool true]) ∧ Drawn0 w w' := by
  have hd : fdivOk 0 0 = false := by decide +kernel
  have c2b0 : (a0.toList == ([110, 97, 110] : List UInt8)) = true := beq_iff_eq.mpr h
  have c2b1 : (a0.toList != ([110, 97, 110] : List UInt8)) = false := bne_eq_false_iff_eq.mpr h
  clear h
  go_enter Tryd.func19, Tryd.ntmps19
  go_wp2
  go_ret2
  exact ⟨_, feq_nanOf _ _, rfl, by repeat (first | exact Drawn0.refl _ | apply Drawn0.step)⟩
theorem laws_FnExactReadNum.same_nan (k g o : Nat) (hg : feq g g = false) (ho : feq o o = false) : laws_sameFloat.f (k + 1) g o = some true := by
  simp [laws_sameFloat.f, laws_sameFloat.j0, hg, ho]
def laws_FnExactReadNum.f (k : Nat) (a0 : ByteArray) : Option Bool := if (a0.size : Int) > 1048576 then (some true) else (if a0.toList = ([110, 97, 110] : List UInt8) then ((impl_ReadNum.f k a0).bind fun b => (if feq b.1 b.1 = true then (none) else (if b.2 = true then (some true) else (none)))) else ((spec_ReadNum.f k a0).bind fun bw => ((impl_ReadNum.f k a0).bind fun bg => ((laws_sameFloat.f k bg.1 bw.1).bind fun t => (if t = true then (some (bg.2 == bw.2)) else (some false))))))
set_option maxHeartbeats 4000000 in
set_option maxRecDepth 100000 in
theorem laws_FnExactReadNum.calls (k : Nat) (a0 : ByteArray) (r : Bool) (w : World) (hT : Go.Proofs.YtpfbiopcfbokbaaDoor.MRead.Tabs2 w) (h : laws_FnExactReadNum.f k a0 = some r) :
    Calls Tryd.prog 6 #[.string a0] w fun e w' => e = .returned (.bool r) ∧ Below w.heap.size w w' := by
  have HB := Aside0.mk (Below.refl w.heap.size w)
  have HT := Aside0.mk hT
  clear hT
  unfold laws_FnExactReadNum.f at h
  by_cases c0 : (a0.size : Int) > 1048576
  · rw [if_pos c0] at h
    have c0b : decide ((a0.size : Int) > 1048576) = true := decide_eq_true c0
    have c0c : decide ((1048576 : Int) < (a0.size : Int)) = true := decide_eq_true c0
    clear c0
    obtain rfl := Option.some.inj h
    go_enter Tryd.func6, Tryd.ntmps6
    go_wp2
    go_ret
    exact ⟨rfl, HB.out⟩
  rw [if_neg c0] at h
  have c0b : decide ((a0.size : Int) > 1048576) = false := decide_eq_false c0
  have c0c : decide ((1048576 : Int) < (a0.size : Int)) = false := decide_eq_false c0
  clear c0
  by_cases c1 : a0.toList = ([110, 97, 110] : List UInt8)
  · rw [if_pos c1] at h
    have HN := Aside0.mk c1
    clear c1
    obtain ⟨⟨g, b⟩, hg, h⟩ := Option.bind_eq_some_iff.mp h
    have A1 := Aside0.mk hg
    clear hg
    simp only at h
    cases hf : feq g g with
    | true => rw [hf, if_pos rfl] at h; cases h
    | false =>
      rw [hf, if_neg (by simp)] at h
      cases b with
      | false => rw [if_neg (by simp)] at h; cases h
      | true =>
        rw [if_pos rfl] at h
        obtain rfl := Option.some.inj h
        have HF := Aside0.mk hf
        clear hf
        go_enter Tryd.func6, Tryd.ntmps6
        go_wp2_with (first | (go_at_call 19; refine (laws_FnExactReadNum.spec_nan a0 _ HN.out).mono ?_; rintro e w1 ⟨o, ho, rfl, ⟨m1, rfl⟩⟩; have HO := Aside0.mk ho; clear ho; have hb1 := Aside0.mk (pw_below_drewN HB.out m1)) | (go_at_call 20; refine (impl_ReadNum.calls (hT := Go.Proofs.YtpfbiopcfbokbaaDoor.MRead.tabs2_below HT.out hb1.out) k a0 g true _ A1.out).mono ?_; rintro e w2 ⟨rfl, hb2⟩; have hb3 := Aside0.mk (below_step hb1.out hb2); clear hb2) | (go_at_call 21; refine (laws_sameFloat.calls 1 g o true _ (laws_FnExactReadNum.same_nan 0 g o HF.out HO.out)).mono ?_; rintro e w3 ⟨rfl, ⟨m3, rfl⟩⟩))
        go_ret
        exact ⟨rfl, pw_below_drewN hb3.out _⟩
  · rw [if_neg c1] at h
    clear c1
    obtain ⟨⟨o, bo⟩, ho, h⟩ := Option.bind_eq_some_iff.mp h
    obtain ⟨⟨g, b⟩, hg, h⟩ := Option.bind_eq_some_iff.mp h
    obtain ⟨t, ht, h⟩ := Option.bind_eq_some_iff.mp h
    simp only at ht h
    have A0 := Aside0.mk ho
    have A1 := Aside0.mk hg
    have A2 := Aside0.mk ht
    clear ho hg ht
    cases t with
    | false =>
      rw [if_neg (by simp)] at h
      obtain rfl := Option.some.inj h
      go_enter Tryd.func6, Tryd.ntmps6
      go_wp2_with (first | (go_at_call 19; refine (spec_ReadNum.calls k a0 o bo _ A0.out).mono ?_; rintro e w1 ⟨rfl, ⟨m1, rfl⟩⟩; have hb1 := Aside0.mk (pw_below_drewN HB.out m1)) | (go_at_call 20; refine (impl_ReadNum.calls (hT := Go.Proofs.YtpfbiopcfbokbaaDoor.MRead.tabs2_below HT.out hb1.out) k a0 g b _ A1.out).mono ?_; rintro e w2 ⟨rfl, hb2⟩; have hb3 := Aside0.mk (below_step hb1.out hb2); clear hb2) | (go_at_call 21; refine (laws_sameFloat.calls k g o false _ A2.out).mono ?_; rintro e w3 ⟨rfl, ⟨m3, rfl⟩⟩))
      go_ret
      exact ⟨rfl, pw_below_drewN hb3.out _⟩
    | true =>
      rw [if_pos rfl] at h
      obtain rfl := Option.some.inj h
      cases b <;> cases bo
      all_goals
        go_enter Tryd.func6, Tryd.ntmps6
        go_wp2_with (first | (go_at_call 19; refine (spec_ReadNum.calls k a0 o _ _ A0.out).mono ?_; rintro e w1 ⟨rfl, ⟨m1, rfl⟩⟩; have hb1 := Aside0.mk (pw_below_drewN HB.out m1)) | (go_at_call 20; refine (impl_ReadNum.calls (hT := Go.Proofs.YtpfbiopcfbokbaaDoor.MRead.tabs2_below HT.out hb1.out) k a0 g _ _ A1.out).mono ?_; rintro e w2 ⟨rfl, hb2⟩; have hb3 := Aside0.mk (below_step hb1.out hb2); clear hb2) | (go_at_call 21; refine (laws_sameFloat.calls k g o true _ A2.out).mono ?_; rintro e w3 ⟨rfl, ⟨m3, rfl⟩⟩))
        go_ret
        exact ⟨rfl, pw_below_drewN hb3.out _⟩

end Go.Proofs.YtpfbiopcfbokbaaDoor.GReadNum

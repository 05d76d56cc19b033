/- FnNumText: whatever number is drawn, its text is read back; whatever text is drawn, both read it alike. -/
import Derived.Test.YthdpiceiemkjlaaDoorGFnNumTextx8
import Derived.Test.YthdpiceiemkjlaaDoorMBase
import Derived.KernelRfl
import Derived.Test.YthdpiceiemkjlaaDoorPureTextFacts
import Derived.Test.YthdpiceiemkjlaaDoorPureDrawsText
import Derived.Test.YthdpiceiemkjlaaDoorPureDrawsText2
import Derived.Test.YthdpiceiemkjlaaDoorMReal
import Derived.Test.YthdpiceiemkjlaaDoorMNum
set_option linter.unusedVariables false
set_option linter.unusedSimpArgs false
namespace Go.Proofs.YthdpiceiemkjlaaDoor.Pure
open Go.RowKit Go.Proofs.YthdpiceiemkjlaaDoor.GFnNumText Go.Proofs.YthdpiceiemkjlaaDoorW.PrintWords Go.Proofs.YthdpiceiemkjlaaDoorW.PrintLast Go.Proofs.YthdpiceiemkjlaaDoorW.PrintMore Go.Proofs.YthdpiceiemkjlaaDoor.MBase
open Go.Proofs.YthdpiceiemkjlaaDoor Go.Proofs.YthdpiceiemkjlaaDoor.MNum Go.Proofs.YthdpiceiemkjlaaDoor.MIeee Go.Proofs.YthdpiceiemkjlaaDoor.MReal
/-- Two numbers are one: both no number, or the same bits. -/
def same (x y : Nat) : Bool := if isNan x = true then isNan y else decide (isNan y = false ∧ x = y)
theorem same_refl (x : Nat) : same x x = true := by
  unfold same
  cases isNan x <;> simp
theorem same00 : laws_sameNum.f 0 0 = some (same 0 0) := by kernel_rfl
theorem same01 : laws_sameNum.f 0 9223372036854775808 = some (same 0 9223372036854775808) := by kernel_rfl
theorem same10 : laws_sameNum.f 9223372036854775808 0 = some (same 9223372036854775808 0) := by kernel_rfl
theorem same11 : laws_sameNum.f 9223372036854775808 9223372036854775808 = some (same 9223372036854775808 9223372036854775808) := by kernel_rfl
theorem law_same {x y : Nat} (hx : x < 18446744073709551616) (hy : y < 18446744073709551616) : laws_sameNum.f x y = some (same x y) := by
  by_cases hz : rg x = 0 ∧ rg y = 0
  · rcases zero_cases hx hz.1 with rfl | rfl <;> rcases zero_cases hy hz.2 with rfl | rfl
    · exact same00
    · exact same01
    · exact same10
    · exact same11
  unfold laws_sameNum.f same
  rw [feq_self, feq_self]
  cases hn : isNan x with
  | true => simp
  | false =>
    cases hm : isNan y with
    | true => simp
    | false =>
      simp only [Bool.not_false, if_true, Bool.false_eq_true, if_false, true_and]
      rw [feq_eq hn hm, feq_eq hn nan_zero, key_zero]
      simp only [decide_eq_true_eq]
      by_cases hk : key x = key y
      · rw [if_pos hk]
        by_cases h0 : key x = 0
        · exact absurd ⟨key_rg_zero.mp h0, key_rg_zero.mp (hk ▸ h0)⟩ hz
        · rw [if_neg h0, decide_eq_true (key_inj hx hy (fun z => h0 (key_rg_zero.mpr z)) hk)]
      · rw [if_neg hk, decide_eq_false]
        rintro rfl
        exact hk rfl
theorem bs_ex (s : ByteArray) : ∃ l : List UInt8, s = bs l := ⟨s.data.toList, by apply ByteArray.ext; simp [bs]⟩
theorem bs_inj {a b : List UInt8} (h : bs a = bs b) : a = b := by rw [← tl_bs a, h, tl_bs]
theorem t_true {k : Nat} {a0 : ByteArray} {x y : Nat} (h : impl_ReadNum.t k a0 x = some (y, true)) : ∃ k, impl_NumText.f k y = some a0 := by
  unfold impl_ReadNum.t at h
  obtain ⟨t, ht, h⟩ := Option.bind_eq_some_iff.mp h
  by_cases c : t.toList = a0.toList
  · rw [if_pos c] at h
    simp only [Option.some.injEq, Prod.mk.injEq, and_true] at h
    subst h
    obtain ⟨l1, rfl⟩ := bs_ex t
    obtain ⟨l2, rfl⟩ := bs_ex a0
    rw [tl_bs, tl_bs] at c
    subst c
    exact ⟨k, ht⟩
  · rw [if_neg c] at h; simp at h
/-- What is read as a number is that number's text. -/
theorem read_true {k : Nat} {a0 : ByteArray} {y : Nat} (h : impl_ReadNum.f k a0 = some (y, true)) : ∃ k, impl_NumText.f k y = some a0 := by
  unfold impl_ReadNum.f at h
  by_cases c0 : (a0.size : Int) > 40
  · rw [if_pos c0] at h; simp at h
  rw [if_neg c0] at h
  by_cases c1 : a0.toList = ([110, 97, 110] : List UInt8)
  · rw [if_pos c1] at h
    obtain ⟨x, _, h⟩ := Option.bind_eq_some_iff.mp h
    exact t_true h
  rw [if_neg c1] at h
  by_cases c2 : a0.toList = ([105, 110, 102] : List UInt8)
  · rw [if_pos c2] at h
    obtain ⟨x, _, h⟩ := Option.bind_eq_some_iff.mp h
    exact t_true h
  rw [if_neg c2] at h
  by_cases c3 : a0.toList = ([45, 105, 110, 102] : List UInt8)
  · rw [if_pos c3] at h
    obtain ⟨x, _, h⟩ := Option.bind_eq_some_iff.mp h
    exact t_true h
  rw [if_neg c3] at h
  by_cases c4 : a0.toList = ([45, 48] : List UInt8)
  · rw [if_pos c4] at h
    obtain ⟨x, _, h⟩ := Option.bind_eq_some_iff.mp h
    exact t_true h
  rw [if_neg c4] at h
  by_cases c5 : a0.toList = ([48] : List UInt8)
  · rw [if_pos c5] at h
    exact t_true h
  rw [if_neg c5] at h
  obtain ⟨c, _, h⟩ := Option.bind_eq_some_iff.mp h
  obtain ⟨b, _, h⟩ := Option.bind_eq_some_iff.mp h
  by_cases c6 : (Go.Proofs.YthdpiceiemkjlaaDoor.MRead.atoiN c.1.data.toList).2 = true
  · rw [if_pos c6] at h
    by_cases c7 : (Go.Proofs.YthdpiceiemkjlaaDoor.MRead.atoiN c.2.1.data.toList).2 = true
    · rw [if_pos c7] at h
      by_cases c8 : b.2 = true
      · rw [if_pos c8] at h
        exact t_true h
      · rw [if_neg c8] at h; simp at h
    · rw [if_neg c7] at h; simp at h
  · rw [if_neg c6] at h; simp at h
theorem num_back {x u q : Nat} {s : Bool} (hst : St x s u q) (hu : u % 2 = 1) (hu1 : u < 9007199254740992) (hq : q < T98) : Ev (fun k => impl_NumOf.f k (sgn s u) ((q : Int) - E74)) (x, true) := by
  have hE := E74_eq
  have hT := T98_eq
  have hn : -1200 ≤ (q : Int) - E74 ∧ (q : Int) - E74 ≤ 1200 := by omega
  obtain ⟨y, hy, hE2⟩ := (impl_end s u hu hu1 ((q : Int) - E74) hn).1 q (by omega) hst.top
  have := hy.unique hst
  subst this
  simp only [impl_NumOf.f, in_dec, Option.bind_some, decide_eq_true_eq]
  have h1 : ¬ Int.tmod (sgn s u) 2 = 0 := by rw [sgn_tmod]; omega
  have h2 : -9007199254740991 ≤ sgn s u ∧ sgn s u ≤ 9007199254740991 := by unfold sgn; split <;> omega
  refine Ev.ite_neg h1 (Ev.ite_pos h2 ?_)
  have e : (!decide (-1200 ≤ (q : Int) - E74 ∧ (q : Int) - E74 ≤ 1200)) = false := by simp; omega
  rw [e]
  exact hE2
theorem itoa_small {n : Int} (h : -10000000000000000 < n ∧ n < 10000000000000000) : (Lib.itoa n).length ≤ 17 := by
  have hd := dec_len_pow 16 n.natAbs (by decide) (by omega)
  have hd2 := dec_len_pow 16 n.toNat (by decide) (by omega)
  unfold Lib.itoa
  split <;> simp <;> omega
/-- A number's text is read back as that number. -/
theorem readback {x : Nat} (hx : x < 18446744073709551616) : ∃ l : List UInt8, ∃ y, l.length ≤ 1000 ∧ y < 18446744073709551616 ∧ Ev (fun k => spec_NumText.f k x) (bs l) ∧ Ev (fun k => impl_NumText.f k x) (bs l) ∧ Ev (fun k => impl_ReadNum.f k (bs l)) (y, true) ∧ same y x = true := by
  obtain ⟨r, hr, hs, hi⟩ := numtext_same hx
  have lit : ∀ (t : List UInt8), (∀ k, impl_NumText.f k x = some (bs t)) → r = t := fun t h => bs_inj (Ev.unique hi (Ev.congr h (Ev.now _)))
  cases hn : isNan x with
  | true =>
    have hk : kindN x = 0 := by unfold kindN; rw [hn, if_pos rfl]
    have e := lit [110, 97, 110] (fun k => nt_kind hx k (by rw [if_pos hk]; rfl))
    refine ⟨r, 9221120237041090561, by omega, by omega, hs, hi, ?_, ?_⟩
    · simp only [impl_ReadNum.f, tl_bs, bs_size]
      refine Ev.ite_neg (by rw [e]; decide) (Ev.ite_pos e (Ev.bind (Ev.const (show math_NaN.f = some 9221120237041090561 from by kernel_rfl)) ?_))
      exact text_lit (fun k => nt_kind (by omega) k (by kernel_rfl)) r e
    · unfold same
      rw [show isNan 9221120237041090561 = true from by decide, if_pos rfl, hn]
  | false =>
    rcases st_cases hn hx with hI | h0 | ⟨u, q, hu, hu1, hq, hst⟩
    · have hw := split_word hx
      rw [hI, show INF = 9218868437227405312 from rfl] at hw
      cases hsg : sg x with
      | false =>
        rw [hsg] at hw
        have hw' : x = 9218868437227405312 := by simpa using hw
        subst hw'
        have e := lit [105, 110, 102] (fun k => nt_kind hx k (by kernel_rfl))
        refine ⟨r, 9218868437227405312, by omega, hx, hs, hi, ?_, same_refl _⟩
        simp only [impl_ReadNum.f, tl_bs, bs_size]
        refine Ev.ite_neg (by rw [e]; decide) (Ev.ite_neg (by rw [e]; decide) (Ev.ite_pos e ?_))
        exact Ev.bind (Ev.const (show math_Inf.f 1 = some 9218868437227405312 from by kernel_rfl)) (text_lit (fun k => nt_kind (by omega) k (by kernel_rfl)) r e)
      | true =>
        rw [hsg] at hw
        have hw' : x = 18442240474082181120 := by simpa using hw
        subst hw'
        have e := lit [45, 105, 110, 102] (fun k => nt_kind hx k (by kernel_rfl))
        refine ⟨r, 18442240474082181120, by omega, hx, hs, hi, ?_, same_refl _⟩
        simp only [impl_ReadNum.f, tl_bs, bs_size]
        refine Ev.ite_neg (by rw [e]; decide) (Ev.ite_neg (by rw [e]; decide) (Ev.ite_neg (by rw [e]; decide) (Ev.ite_pos e ?_)))
        exact Ev.bind (Ev.const (show math_Inf.f (-1) = some 18442240474082181120 from by kernel_rfl)) (text_lit (fun k => nt_kind (by omega) k (by kernel_rfl)) r e)
    · rcases zero_cases hx h0 with rfl | rfl
      · have e := lit [48] (fun k => nt_kind hx k (by kernel_rfl))
        refine ⟨r, 0, by omega, hx, hs, hi, ?_, same_refl _⟩
        simp only [impl_ReadNum.f, tl_bs, bs_size]
        refine Ev.ite_neg (by rw [e]; decide) (Ev.ite_neg (by rw [e]; decide) (Ev.ite_neg (by rw [e]; decide) (Ev.ite_neg (by rw [e]; decide) (Ev.ite_neg (by rw [e]; decide) (Ev.ite_pos e ?_)))))
        exact text_lit (fun k => nt_kind (by omega) k (by kernel_rfl)) r e
      · have e := lit [45, 48] (fun k => nt_kind hx k (by kernel_rfl))
        refine ⟨r, 9223372036854775808, by omega, hx, hs, hi, ?_, same_refl _⟩
        simp only [impl_ReadNum.f, tl_bs, bs_size]
        refine Ev.ite_neg (by rw [e]; decide) (Ev.ite_neg (by rw [e]; decide) (Ev.ite_neg (by rw [e]; decide) (Ev.ite_neg (by rw [e]; decide) (Ev.ite_pos e ?_))))
        exact Ev.bind (Ev.const (show math_Copysign.f 0 13830554455654793216 = some 9223372036854775808 from by kernel_rfl)) (text_lit (fun k => nt_kind (by omega) k (by kernel_rfl)) r e)
    · have hE := E74_eq
      have hT := T98_eq
      have ht := text_st hst hu hu1 hq
      have hm : -10000000000000000 < sgn (sg x) u ∧ sgn (sg x) u < 10000000000000000 := by unfold sgn; split <;> omega
      have hx2 : -10000000000000000 < (q : Int) - E74 ∧ (q : Int) - E74 < 10000000000000000 := by omega
      have e : r = Lib.itoa (sgn (sg x) u) ++ 112 :: Lib.itoa ((q : Int) - E74) := by
        have := bs_inj (Ev.unique hi ht)
        rw [this, List.append_assoc, List.singleton_append]
      have s1 := itoa_small hm
      have s2 := itoa_small hx2
      have hlen : r.length ≤ 40 := by rw [e]; simp; omega
      have hp : (112 : UInt8) ∈ r := by rw [e]; simp
      have hN := num_back hst hu hu1 hq
      obtain ⟨y, b, _, hsN, hiN⟩ := num_same (sgn (sg x) u) ((q : Int) - E74)
      have hyb := Ev.unique hiN hN
      rw [hyb] at hsN
      have hS : Ev (fun k => spec_ReadNum.f k (bs r)) (x, true) := by
        simp only [spec_ReadNum.f, tl_bs, bs_size]
        refine Ev.ite_neg (fun h => by rw [h] at hp; revert hp; decide) (Ev.ite_neg (fun h => by rw [h] at hp; revert hp; decide) (Ev.ite_neg (fun h => by rw [h] at hp; revert hp; decide) (Ev.ite_neg (fun h => by rw [h] at hp; revert hp; decide) (Ev.ite_neg (fun h => by rw [h] at hp; revert hp; decide) ?_))))
        rw [e]
        refine spec_hit (Lib.itoa (sgn (sg x) u)) (Lib.itoa ((q : Int) - E74)) (by rw [← e]; exact hlen) (no_p _) ?_ _ 0 (Nat.zero_add _)
        rw [sgd_itoa hm, sgd_itoa hx2]
        exact Ev.ite_pos rfl (Ev.ite_pos rfl (Ev.bind hsN (Ev.now _)))
      obtain ⟨x', b', _, hS', hI'⟩ := readnum_same r (by omega) (fun h => by rw [h] at hp; revert hp; decide)
      have hu2 := Ev.unique hS' hS
      rw [hu2] at hI'
      exact ⟨r, x, by omega, hx, hs, hi, hI', same_refl _⟩
set_option maxHeartbeats 4000000 in
theorem spec_nan_any (a0 : ByteArray) (w : World) (h : a0.toList = ([110, 97, 110] : List UInt8)) :
    Calls Tryd.prog 12 #[.string a0] w fun e w' => ∃ o, (o < 18446744073709551616 ∧ feq o o = false) ∧ e = .returned (.tuple #[.float .f64 o, .bool true]) ∧ Drawn0 w w' := by
  have hd : fdivOk 0 0 = false := by decide +kernel
  have c2b0 : (a0.toList == ([110, 97, 110] : List UInt8)) = true := beq_iff_eq.mpr h
  have c2b1 : (a0.toList != ([110, 97, 110] : List UInt8)) = false := bne_eq_false_iff_eq.mpr h
  clear h
  go_enter Tryd.func12, Tryd.ntmps12
  go_wp2
  go_ret2
  exact ⟨_, ⟨nanOf_lt _, feq_nanOf _ _⟩, rfl, by repeat (first | exact Drawn0.refl _ | apply Drawn0.step)⟩
/-- Both read a text alike. -/
theorem read_both (l : List UInt8) (hl : l.length ≤ 1000) : ∃ (y : Nat) (b : Bool), y < 18446744073709551616 ∧ (∃ k, impl_ReadNum.f k (bs l) = some (y, b)) ∧ (b = true → ∃ k, impl_NumText.f k y = some (bs l)) ∧
    ∀ w : World, Calls Tryd.prog 12 #[.string (bs l)] w fun e w' => ∃ o, (o < 18446744073709551616 ∧ same y o = true) ∧ e = .returned (.tuple #[.float .f64 o, .bool b]) ∧ Drawn0 w w' := by
  by_cases hn : l = [110, 97, 110]
  · have hx : Ev (fun k => impl_ReadNum.f k (bs l)) (9221120237041090561, true) := by
      simp only [impl_ReadNum.f, tl_bs, bs_size]
      refine Ev.ite_neg (by rw [hn]; decide) (Ev.ite_pos hn (Ev.bind (Ev.const (show math_NaN.f = some 9221120237041090561 from by kernel_rfl)) ?_))
      exact text_lit (fun k => nt_kind (by omega) k (by kernel_rfl)) l hn
    obtain ⟨k, hk⟩ := hx.rounds
    refine ⟨_, true, by omega, ⟨k, hk⟩, fun _ => read_true hk, fun w => ?_⟩
    refine (spec_nan_any (bs l) w (by rw [tl_bs]; exact hn)).mono ?_
    rintro e w' ⟨o, ho, he, hw⟩
    refine ⟨o, ⟨ho.1, ?_⟩, he, hw⟩
    have h2 := ho.2
    rw [feq_self] at h2
    have h3 : isNan o = true := by simpa using h2
    unfold same
    rw [show isNan 9221120237041090561 = true from by decide, if_pos rfl, h3]
  · obtain ⟨x, b, hx, hs, hi⟩ := readnum_same l (by omega) hn
    obtain ⟨k, hk⟩ := hi.rounds
    obtain ⟨k2, hk2⟩ := hs.rounds
    refine ⟨x, b, hx, ⟨k, hk⟩, fun hb => by subst hb; exact read_true hk, fun w => ?_⟩
    refine (spec_ReadNum.calls k2 (bs l) x b w hk2).mono ?_
    rintro e w' ⟨he, hw⟩
    exact ⟨x, ⟨hx, same_refl x⟩, he, hw⟩

end Go.Proofs.YthdpiceiemkjlaaDoor.Pure

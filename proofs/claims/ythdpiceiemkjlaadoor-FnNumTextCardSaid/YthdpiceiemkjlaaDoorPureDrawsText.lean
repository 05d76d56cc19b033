/- What the draws of numbers' texts answer: some text. -/
import Derived.Test.YthdpiceiemkjlaaDoorGFnNumTextx8
import Derived.Test.YthdpiceiemkjlaaDoorMBase
import Derived.KernelRfl
import Derived.Test.YthdpiceiemkjlaaDoorPureTextFacts
import Derived.Test.YthdpiceiemkjlaaDoorMReal
import Derived.Test.YthdpiceiemkjlaaDoorMNum
import Derived.Laws.Bits64b
set_option linter.unusedVariables false
set_option linter.unusedSimpArgs false
namespace Go.Proofs.YthdpiceiemkjlaaDoor.Pure
open Go.RowKit Go.Proofs.YthdpiceiemkjlaaDoor.GFnNumText Go.Proofs.YthdpiceiemkjlaaDoorW.PrintWords Go.Proofs.YthdpiceiemkjlaaDoorW.PrintLast Go.Proofs.YthdpiceiemkjlaaDoorW.PrintMore Go.Proofs.YthdpiceiemkjlaaDoor.MBase
open Go.Proofs.YthdpiceiemkjlaaDoor Go.Proofs.YthdpiceiemkjlaaDoor.MNum Go.Proofs.YthdpiceiemkjlaaDoor.MIeee Go.Proofs.YthdpiceiemkjlaaDoor.MReal
/-! ### what the draws of a cursor answer: some value within bounds -/
def okBy (s : List Int) : Prop := s.length ≤ 140737488351232 ∧ ∀ x ∈ s, 0 ≤ x ∧ x ≤ 255
theorem and255 (x : Int) (h0 : 0 ≤ x) (h1 : x < 18446744073709551616) : 0 ≤ Go.bits .and .u64 x 255 ∧ Go.bits .and .u64 x 255 ≤ 255 := by
  obtain ⟨n, rfl⟩ := Int.eq_ofNat_of_zero_le h0
  have h := bits_and_u64_nat n 255 (by omega) (by omega)
  rw [show ((255 : Nat) : Int) = 255 from rfl] at h
  rw [h]
  have : n &&& 255 ≤ 255 := Nat.and_le_right
  omega
theorem wrap_low (x : Int) : 0 ≤ IntKind.u64.wrap x / 1099511627776 ∧ IntKind.u64.wrap x / 1099511627776 < 18446744073709551616 := by
  rw [IntKind.wrap_u64]; omega
theorem byte_at {s : List Int} (hs : okBy s) {i : Int} (h0 : 0 ≤ i) (h1 : i < s.length) : 0 ≤ rd s i ∧ rd s i ≤ 255 := by
  have hi : i.toNat < s.length := by omega
  have e : rd s i = s[i.toNat] := by simp [rd, hi]
  rw [e]; exact hs.2 _ (List.getElem_mem hi)
theorem next_some {s : List Int} (hs : okBy s) {a d : Int} (h0 : 0 ≤ a) (h1 : a ≤ 4000000000000000000) : ∃ b d', spec_l1Cur_next.f s a d = some (b, a + 1, d') ∧ 0 ≤ b ∧ b ≤ 255 := by
  have hw : wrap64 (a + 1) = a + 1 := wrap_id (by omega) (by omega)
  unfold spec_l1Cur_next.f
  rw [hw]
  by_cases c1 : a < (s.length : Int)
  · rw [if_pos c1, if_pos h0]
    have hb := byte_at hs h0 c1
    have hr : wrap64 (rd s a) = rd s a := wrap_id (by omega) (by omega)
    rw [hr]
    by_cases c2 : a + 1 ≤ (s.length : Int)
    · rw [if_pos c2]; exact ⟨_, _, rfl, hb.1, hb.2⟩
    · omega
  · rw [if_neg c1, if_neg (by omega)]
    have hl := wrap_low (IntKind.u64.wrap (IntKind.u64.wrap (d * 6364136223846793005)) + 1442695040888963407)
    have hb := and255 _ hl.1 hl.2
    refine ⟨_, _, rfl, ?_, ?_⟩ <;> rw [wrap_id (by omega) (by omega)]
    · exact hb.1
    · exact hb.2
theorem tmod_in {x n : Int} (h0 : 0 ≤ x) (hn : 1 ≤ n) : 0 ≤ Int.tmod x n ∧ Int.tmod x n < n := by
  rw [Int.tmod_eq_emod_of_nonneg h0]
  exact ⟨Int.emod_nonneg _ (by omega), Int.emod_lt_of_pos _ (by omega)⟩
theorem pick_some {s : List Int} (hs : okBy s) {a d n : Int} (h0 : 0 ≤ a) (h1 : a ≤ 3000000000000000000) : ∃ r a' d', spec_l1Cur_pick.f s a d n = some (r, a', d') ∧ 0 ≤ r ∧ (1 ≤ n → r < n) ∧ a ≤ a' ∧ a' ≤ a + 2 := by
  unfold spec_l1Cur_pick.f
  by_cases c1 : n ≤ 1
  · rw [if_pos c1]; exact ⟨0, a, d, rfl, by omega, by omega, by omega, by omega⟩
  · rw [if_neg c1]
    obtain ⟨b, d1, e1, hb0, hb1⟩ := next_some hs (d := d) h0 (by omega)
    rw [e1]
    simp only [Option.bind_some]
    by_cases c2 : n > 200
    · rw [if_pos c2]
      obtain ⟨b2, d2, e2, hc0, hc1⟩ := next_some hs (a := a + 1) (d := d1) (by omega) (by omega)
      rw [e2]
      simp only [Option.bind_some]
      rw [if_neg (by omega), wrap_id (n := b * 256) (by omega) (by omega), wrap_id (by omega) (by omega)]
      have ht := tmod_in (x := b * 256 + b2) (n := n) (by omega) (by omega)
      exact ⟨_, _, _, rfl, ht.1, fun _ => ht.2, by omega, by omega⟩
    · rw [if_neg c2, if_neg (by omega)]
      have ht := tmod_in (x := b) (n := n) hb0 (by omega)
      exact ⟨_, _, _, rfl, ht.1, fun _ => ht.2, by omega, by omega⟩
theorem among_some {s : List Int} (hs : okBy s) {a d : Int} (h0 : 0 ≤ a) (h1 : a ≤ 3000000000000000000) (l : List Int) (hl : 0 < l.length) : ∃ r a' d', spec_l1Cur_among.f s a d l = some (r, a', d') ∧ r ∈ l ∧ a ≤ a' ∧ a' ≤ a + 2 := by
  obtain ⟨r, a', d', e, r0, r1, ha, hb⟩ := pick_some hs (d := d) (n := (l.length : Int)) h0 h1
  unfold spec_l1Cur_among.f
  rw [e]
  simp only [Option.bind_some]
  have hr := r1 (by omega)
  rw [if_pos r0, if_pos hr]
  have hi : r.toNat < l.length := by omega
  have e2 : rd l r = l[r.toNat] := by simp [rd, hi]
  exact ⟨_, _, _, rfl, by rw [e2]; exact List.getElem_mem hi, ha, hb⟩
theorem one_some {s : List Int} (hs : okBy s) {a d n : Int} (h0 : 0 ≤ a) (h1 : a ≤ 3000000000000000000) : ∃ b a' d', spec_l1Cur_one.f s a d n = some (b, a', d') ∧ a ≤ a' ∧ a' ≤ a + 2 := by
  obtain ⟨r, a', d', e, r0, r1, ha, hb⟩ := pick_some hs (d := d) (n := n) h0 h1
  unfold spec_l1Cur_one.f
  rw [e]
  exact ⟨_, _, _, rfl, ha, hb⟩
/-- A cursor: its block, its bytes, and how far it is. -/
def Cur (w0 W : World) (g : Nat) (s : List Int) (m : Int) : Prop := ∃ a d, IsS59 w0 W g s a d ∧ 0 ≤ a ∧ a ≤ m
theorem Cur.more {w0 W : World} {g : Nat} {s : List Int} {m m' : Int} (h : Cur w0 W g s m) (hm : m ≤ m') : Cur w0 W g s m' := by
  obtain ⟨a, d, hI, h0, h1⟩ := h
  exact ⟨a, d, hI, h0, by omega⟩
theorem Cur.below {w0 W W1 : World} {g : Nat} {s : List Int} {m : Int} (h : Cur w0 W g s m) (hb : Below W.heap.size W W1) : Cur w0 W1 g s m := by
  obtain ⟨a, d, hI, h0, h1⟩ := h
  exact ⟨a, d, hI.below hb, h0, h1⟩
theorem Cur.alloc {w0 W : World} {g : Nat} {s : List Int} {m : Int} (h : Cur w0 W g s m) (o : Obj) : Cur w0 (W.alloc o) g s m := h.below (below_alloc (Below.refl _ _) o)
theorem Cur.drewN {w0 W : World} {g : Nat} {s : List Int} {m : Int} (h : Cur w0 W g s m) (k : Nat) : Cur w0 (W.drewN k) g s m := h
theorem Cur.drew {w0 W : World} {g : Nat} {s : List Int} {m : Int} (h : Cur w0 W g s m) : Cur w0 W.drew g s m := h
theorem Cur.new (w0 W : World) (A0 : Option Addr) (c0 : Nat) (s : List Int) (hB : Below w0.heap.size w0 W) (hr0 : Kd.C (Kd.int .u8) w0 A0 s.length s) : Cur w0 (W.alloc (.cells #[.slice A0 s.length c0, .int .i64 0, .int .u64 0] 59)) W.heap.size s 0 :=
  ⟨0, 0, IsS59.new w0 W A0 c0 s 0 0 hB hr0, by omega, by omega⟩
theorem pick_any {w0 w : World} {g : Nat} {s : List Int} {m : Int} (n : Int) (hs : okBy s) (hI : Cur w0 w g s m) (hm : m ≤ 3000000000000000000) (hB : Below w0.heap.size w0 w) :
    Calls Tryd.prog 63 #[.pointer (some ⟨g, 0, none⟩), .int .i64 n] w fun e w' => ∃ r, (0 ≤ r ∧ (1 ≤ n → r < n)) ∧ e = .returned (.int .i64 r) ∧ Cur w0 w' g s (m + 2) ∧ Below w0.heap.size w0 w' ∧ KeepBut w w' g none := by
  obtain ⟨a, d, hI, h0, h1⟩ := hI
  obtain ⟨r, a', d', e, r0, r1, ha, hb⟩ := pick_some hs (d := d) (n := n) h0 (by omega)
  refine (spec_l1Cur_pick.calls g s a d n r a' d' w0 w hI hB e).mono ?_
  rintro e w' ⟨he, hi, hb', hk⟩
  exact ⟨r, ⟨r0, r1⟩, he, ⟨a', d', hi, by omega, by omega⟩, hb', hk⟩
theorem one_any {w0 w : World} {g : Nat} {s : List Int} {m : Int} (n : Int) (hs : okBy s) (hI : Cur w0 w g s m) (hm : m ≤ 3000000000000000000) (hB : Below w0.heap.size w0 w) :
    Calls Tryd.prog 34 #[.pointer (some ⟨g, 0, none⟩), .int .i64 n] w fun e w' => ∃ b, e = .returned (.bool b) ∧ Cur w0 w' g s (m + 2) ∧ Below w0.heap.size w0 w' ∧ KeepBut w w' g none := by
  obtain ⟨a, d, hI, h0, h1⟩ := hI
  obtain ⟨r, a', d', e, ha, hb⟩ := one_some hs (d := d) (n := n) h0 (by omega)
  refine (spec_l1Cur_one.calls g s a d n r a' d' w0 w hI hB e).mono ?_
  rintro e w' ⟨he, hi, hb', hk⟩
  exact ⟨r, he, ⟨a', d', hi, by omega, by omega⟩, hb', hk⟩
theorem among_any {w0 w : World} {g : Nat} {s : List Int} {m : Int} {A1 : Option Addr} {c1 : Nat} (l : List Int) (hl : 0 < l.length) (hs : okBy s) (hI : Cur w0 w g s m) (hm : m ≤ 3000000000000000000) (hB : Below w0.heap.size w0 w)
    (hr1 : Kd.C (Kd.int .i64) w A1 l.length l) (hc1 : l.length ≤ c1) (hf1 : ∀ ad, A1 = some ad → 0 < l.length → ad.block ≠ g) :
    Calls Tryd.prog 66 #[.pointer (some ⟨g, 0, none⟩), .slice A1 l.length c1] w fun e w' => ∃ r, r ∈ l ∧ e = .returned (.int .i64 r) ∧ Cur w0 w' g s (m + 2) ∧ Below w0.heap.size w0 w' ∧ KeepBut w w' g none := by
  obtain ⟨a, d, hI, h0, h1⟩ := hI
  obtain ⟨r, a', d', e, r0, ha, hb⟩ := among_some hs (d := d) h0 (by omega) l hl
  refine (spec_l1Cur_among.calls g s a d A1 c1 l r a' d' w0 w hI hB hr1 hc1 hf1 e).mono ?_
  rintro e w' ⟨he, hi, hb', hk⟩
  exact ⟨r, r0, he, ⟨a', d', hi, by omega, by omega⟩, hb', hk⟩
theorem nanOf_lt (t : Nat) : nanOf t < 18446744073709551616 := by unfold nanOf; omega
theorem Cur.far {w0 W : World} {g : Nat} {s : List Int} {m : Int} {base n c1 : Nat} {A1 : Option Addr} {ok : Nat → Prop} {xs : List Int} (h : Cur w0 W g s m) (ho : Kd.R (Kd.int .i64) 3 W base ok (.slice A1 n c1) xs) : ∀ ad, A1 = some ad → 0 < n → ad.block ≠ g := by
  obtain ⟨a, d, hI, _⟩ := h
  exact far_slice (IsS59.own_ne hI ho (by decide))
/-! ### a drawn number is some number -/
theorem fneg_lt {x : Nat} (h : x < 18446744073709551616) : fneg x < 18446744073709551616 := by
  show x ^^^ 2 ^ 63 < 2 ^ 64
  exact Nat.xor_lt_two_pow (by omega) (by omega)
def oneOk (n : Nat) : Bool := faddOk 4607182418800017408 (fofi (n : Int)) && (!(isNan (fadd 4607182418800017408 (fofi (n : Int)))) && decide (fadd 4607182418800017408 (fofi (n : Int)) < 18446744073709551616))
theorem one_all : (List.range 99).all oneOk = true := by kernel_rfl
theorem one_at (r : Int) (h0 : 0 ≤ r) (h1 : r < 99) : faddOk 4607182418800017408 (fofi r) = true ∧ isNan (fadd 4607182418800017408 (fofi r)) = false ∧ fadd 4607182418800017408 (fofi r) < 18446744073709551616 := by
  obtain ⟨n, rfl⟩ := Int.eq_ofNat_of_zero_le h0
  have h := List.all_eq_true.mp one_all n (by simp; omega)
  simp only [oneOk, Bool.and_eq_true, Bool.not_eq_true', decide_eq_true_eq] at h
  exact h
theorem inf_ok : fdivOk 4607182418800017408 0 = true ∧ fdiv 4607182418800017408 0 < 18446744073709551616 := by constructor <;> decide +kernel
theorem minf_ok : fdivOk 13830554455654793216 0 = true ∧ fdiv 13830554455654793216 0 < 18446744073709551616 := by constructor <;> decide +kernel
theorem num_some {s : List Int} (hs : okBy s) {a d t a1 d1 : Int} (e : spec_l1Cur_pick.f s a d 12 = some (t, a1, d1)) (ht : t ≠ 0) (h0 : 0 ≤ a1) (h1 : a1 ≤ 2000000000000000000) :
    ∃ k x a' d', spec_l1Cur_num.f k s a d = some (x, a', d') ∧ x < 18446744073709551616 ∧ a1 ≤ a' ∧ a' ≤ a1 + 4 := by
  have hE : ∃ x a' d', Ev (fun k => spec_l1Cur_num.f k s a d) (x, a', d') ∧ x < 18446744073709551616 ∧ a1 ≤ a' ∧ a' ≤ a1 + 4 := by
    simp only [spec_l1Cur_num.f, e, Option.bind_some]
    by_cases c1 : t = 1
    · subst c1
      exact ⟨_, a1, d1, Ev.ite_neg (by decide) (Ev.ite_pos rfl (Ev.ite_pos inf_ok.1 (Ev.now _))), inf_ok.2, by omega, by omega⟩
    by_cases c2 : t = 2
    · subst c2
      exact ⟨_, a1, d1, Ev.ite_neg (by decide) (Ev.ite_neg (by decide) (Ev.ite_pos rfl (Ev.ite_pos minf_ok.1 (Ev.now _)))), minf_ok.2, by omega, by omega⟩
    by_cases c3 : t = 3
    · subst c3
      exact ⟨_, a1, d1, Ev.ite_neg (by decide) (Ev.ite_neg (by decide) (Ev.ite_neg (by decide) (Ev.ite_pos rfl (Ev.bind (Ev.const rfl) (Ev.now _))))), fneg_lt (by decide), by omega, by omega⟩
    by_cases c4 : t = 4
    · subst c4
      obtain ⟨r, a2, d2, e2, r0, r1, ha, hb⟩ := pick_some hs (a := a1) (d := d1) (n := 9) h0 (by omega)
      have hr := r1 (by omega)
      have hone := one_at r r0 (by omega)
      obtain ⟨v, a3, d3, e3, hv, ha3, hb3⟩ := among_some hs (a := a2) (d := d2) (by omega) (by omega) [(-1074), (-1070), (-1022), 1019, 1020, (-3), 52] (by decide)
      have hv2 : -2000 ≤ v ∧ v ≤ 2000 := by
        simp only [List.mem_cons, List.not_mem_nil, or_false] at hv
        rcases hv with h | h | h | h | h | h | h <;> omega
      obtain ⟨y, hy, _, hlt⟩ := scaled_any _ v hv2 hone.2.1 hone.2.2
      exact ⟨y, a3, d3, Ev.ite_neg (by decide) (Ev.ite_neg (by decide) (Ev.ite_neg (by decide) (Ev.ite_neg (by decide) (Ev.ite_pos rfl (Ev.bind (Ev.const e2) (Ev.ite_pos hone.1 (Ev.bind (Ev.const e3) (Ev.bind hy (Ev.now _))))))))), hlt, by omega, by omega⟩
    by_cases c5 : t = 5
    · subst c5
      obtain ⟨r, a2, d2, e2, r0, r1, ha, hb⟩ := pick_some hs (a := a1) (d := d1) (n := 99) h0 (by omega)
      have hr := r1 (by omega)
      have hone := one_at r r0 (by omega)
      obtain ⟨v, a3, d3, e3, v0, v1, ha3, hb3⟩ := pick_some hs (a := a2) (d := d2) (n := 9) (by omega) (by omega)
      have hv := v1 (by omega)
      have hw : wrap64 (v - 4) = v - 4 := wrap_id (by omega) (by omega)
      obtain ⟨y, hy, _, hlt⟩ := scaled_any _ (wrap64 (v - 4)) (by omega) hone.2.1 hone.2.2
      exact ⟨_, a3, d3, Ev.ite_neg (by decide) (Ev.ite_neg (by decide) (Ev.ite_neg (by decide) (Ev.ite_neg (by decide) (Ev.ite_neg (by decide) (Ev.ite_pos rfl (Ev.bind (Ev.const e2) (Ev.ite_pos hone.1 (Ev.bind (Ev.const e3) (Ev.bind hy (Ev.now _)))))))))), fneg_lt hlt, by omega, by omega⟩
    obtain ⟨r, a2, d2, e2, r0, r1, ha, hb⟩ := pick_some hs (a := a1) (d := d1) (n := 5) h0 (by omega)
    exact ⟨_, a2, d2, Ev.ite_neg ht (Ev.ite_neg c1 (Ev.ite_neg c2 (Ev.ite_neg c3 (Ev.ite_neg c4 (Ev.ite_neg c5 (Ev.bind (Ev.const e2) (Ev.now _))))))), (fofi_nan _).2, by omega, by omega⟩
  obtain ⟨x, a', d', hE, h⟩ := hE
  obtain ⟨k, hk⟩ := hE.rounds
  exact ⟨k, x, a', d', hk, h⟩
set_option maxHeartbeats 4000000 in
set_option maxRecDepth 100000 in
theorem num_nan {w0 w : World} {g : Nat} {s : List Int} {a d a1 d1 : Int} (hI : IsS59 w0 w g s a d) (hB : Below w0.heap.size w0 w) (e : spec_l1Cur_pick.f s a d 12 = some (0, a1, d1)) :
    Calls Tryd.prog 33 #[.pointer (some ⟨g, 0, none⟩)] w fun e w' => ∃ x, x < 18446744073709551616 ∧ e = .returned (.float .f64 x) ∧ IsS59 w0 w' g s a1 d1 ∧ Below w0.heap.size w0 w' ∧ KeepBut w w' g none := by
  have hd : fdivOk 0 0 = false := by decide +kernel
  have A2 := Aside0.mk e
  have HI0 := Aside0.mk hI
  have HB := Aside0.mk hB
  clear e hI hB
  go_enter Tryd.func33, Tryd.ntmps33
  go_wp2_with (first | (go_at_call 63; (with_reducible refine (spec_l1Cur_pick.calls g s a d 12 0 a1 d1 w0 _ ?side1 ?side2 A2.out).mono ?_); (case side1 => exact HI0.out); (case side2 => exact HB.out); rintro e w5 ⟨rfl, hi, hb, hk⟩; have n0_ := Aside0.mk hi; have n1_ := Aside0.mk hb; have n2_ := Aside0.mk hk; clear HI0 HB hi hb hk; have HI0 := n0_; have HB := n1_; have HK := n2_; clear n0_ n1_ n2_))
  go_ret
  exact ⟨_, nanOf_lt _, rfl, by repeat (first | exact HI0.out | apply IsS59.drewN | apply IsS59.drew), by repeat (first | exact HB.out | apply pw_below_drewN | apply below_drew1), by repeat (first | exact HK.out | apply keep_drewN | apply keep_drew)⟩
theorem num_any {w0 w : World} {g : Nat} {s : List Int} {m : Int} (hs : okBy s) (hI : Cur w0 w g s m) (hm : m ≤ 1000000000000000000) (hB : Below w0.heap.size w0 w) :
    Calls Tryd.prog 33 #[.pointer (some ⟨g, 0, none⟩)] w fun e w' => ∃ x, x < 18446744073709551616 ∧ e = .returned (.float .f64 x) ∧ Cur w0 w' g s (m + 6) ∧ Below w0.heap.size w0 w' ∧ KeepBut w w' g none := by
  obtain ⟨a, d, hI, h0, h1⟩ := hI
  obtain ⟨t, a1, d1, e, r0, r1, ha, hb⟩ := pick_some hs (d := d) (n := 12) h0 (by omega)
  by_cases ht : t = 0
  · subst ht
    refine (num_nan hI hB e).mono ?_
    rintro e w' ⟨x, hx, he, hi, hb', hk⟩
    exact ⟨x, hx, he, ⟨a1, d1, hi, by omega, by omega⟩, hb', hk⟩
  · obtain ⟨k, x, a', d', hk, hx, ha', hb'⟩ := num_some hs e ht (by omega) (by omega)
    refine (spec_l1Cur_num.calls k g s a d x a' d' w0 w hI hB hk).mono ?_
    rintro e w' ⟨he, hi, hb2, hk2⟩
    exact ⟨x, hx, he, ⟨a', d', hi, by omega, by omega⟩, hb2, hk2⟩
/-! ### the functions that draw numbers -/
set_option maxHeartbeats 4000000 in
set_option maxRecDepth 100000 in
theorem drawKindOf_any {w : World} {A0 : Option Addr} {c0 : Nat} {s : List Int} (hs : okBy s) (hr0 : Kd.C (Kd.int .u8) w A0 s.length s) :
    Calls Tryd.prog 18 #[.slice A0 s.length c0] w fun e w' => ∃ x, x < 18446744073709551616 ∧ e = .returned (.float .f64 x) ∧ Below w.heap.size w w' := by
  have HS := Aside0.mk hs
  have HR := Aside0.mk hr0
  clear hs hr0
  go_enter Tryd.func18, Tryd.ntmps18
  go_wp2_with (first | (go_at_call 33; (with_reducible refine (num_any (w0 := w) (m := 0) HS.out (Cur.new w _ A0 c0 s (Below.refl _ _) HR.out) (by omega) (below_alloc (Below.refl _ _) _)).mono ?_); rintro e w1 ⟨x, hx, rfl, hi, hb, hk⟩; have HX := Aside0.mk hx; have HB := Aside0.mk hb; clear hx hi hb hk))
  go_ret
  exact ⟨_, HX.out, rfl, by repeat (first | exact HB.out | apply pw_below_drewN | apply below_drew1)⟩
/-! ### a text that is spoilt, and one of some texts -/
theorem cutS_size (s : ByteArray) (i j : Nat) : (cutS s i j).size = min j s.size - i := by unfold cutS; exact ByteArray.size_extract
theorem oneByte_size (b : Int) : (strOfNums [b]).size = 1 := rfl
theorem spoilt_l0 {s : List Int} (hs : okBy s) {w2 : ByteArray} (hw0 : 0 < w2.size) (hw1 : w2.size ≤ 1000) : ∀ (n : Nat) (x : ByteArray) (a d : Int), x.size + n ≤ 5000 → 0 ≤ a → a + 6 * n ≤ 1000000000000000000 →
    ∃ t a' d', Ev (fun k => spec_l1Cur_spoilt.l0 k x w2 (n : Int) s a d) (t, a', d') ∧ t.size ≤ x.size + n ∧ a ≤ a' ∧ a' ≤ a + 6 * n
  | 0, x, a, d, hx, h0, h1 => by
    refine ⟨x, a, d, ?_, by omega, by omega, by omega⟩
    refine Ev.step (f := fun k => spec_l1Cur_spoilt.j1 k x w2 ((0 : Nat) : Int) false s a d) (fun k => by simp only [spec_l1Cur_spoilt.l0]; rw [if_neg (by omega)]) ?_
    exact Ev.step (f := fun _ => some (x, a, d)) (fun k => by simp only [spec_l1Cur_spoilt.j1]; rw [if_neg (by simp)]) (Ev.now _)
  | n + 1, x, a, d, hx, h0, h1 => by
    by_cases hp : 0 < x.size
    · obtain ⟨r1, a1, d1, e1, p1, q1, m1, n1⟩ := pick_some hs (a := a) (d := d) (n := (x.size : Int)) h0 (by omega)
      obtain ⟨r2, a2, d2, e2, p2, q2, m2, n2⟩ := pick_some hs (a := a1) (d := d1) (n := (w2.size : Int)) (by omega) (by omega)
      obtain ⟨r3, a3, d3, e3, p3, q3, m3, n3⟩ := pick_some hs (a := a2) (d := d2) (n := 3) (by omega) (by omega)
      have hr1 := q1 (by omega)
      have hr2 := q2 (by omega)
      have hw : wrap64 (((n + 1 : Nat) : Int) - 1) = (n : Int) := by rw [wrap_id] <;> omega
      have hw1' : wrap64 (r1 + 1) = r1 + 1 := wrap_id (by omega) (by omega)
      have st : ∀ {f : Nat → Option (ByteArray × Int × Int)} {R}, (∀ k, spec_l1Cur_spoilt.j1 (k + 1) x w2 ((n + 1 : Nat) : Int) true s a d = f k) → Ev f R → Ev (fun k => spec_l1Cur_spoilt.l0 k x w2 ((n + 1 : Nat) : Int) s a d) R := fun hf h =>
        Ev.step (f := fun k => spec_l1Cur_spoilt.j1 k x w2 ((n + 1 : Nat) : Int) true s a d) (fun k => by simp only [spec_l1Cur_spoilt.l0]; rw [if_pos (by omega), decide_eq_true (by omega)]) (Ev.step hf h)
      by_cases c0 : r3 = 0
      · have z : (cat (cat (cutS x 0 r1.toNat) (strOfNums [bt w2 r2])) (cutS x r1.toNat x.size)).size = x.size + 1 := by rw [cat_size, cat_size, cutS_size, cutS_size, oneByte_size]; omega
        obtain ⟨t, a', d', hE, ht, ha, hb⟩ := spoilt_l0 hs hw0 hw1 n (cat (cat (cutS x 0 r1.toNat) (strOfNums [bt w2 r2])) (cutS x r1.toNat x.size)) a3 d3 (by omega) (by omega) (by omega)
        refine ⟨t, a', d', st (fun k => ?_) hE, by omega, by omega, by omega⟩
        simp only [spec_l1Cur_spoilt.j1, e1, e2, e3, Option.bind_some, hw]
        rw [if_pos trivial, if_pos p2, if_pos hr2, if_pos c0, if_pos p1, if_pos (by omega), if_pos (catOk_of (by rw [cutS_size, oneByte_size]; omega)), if_pos (catOk_of (by rw [cat_size, cutS_size, cutS_size, oneByte_size]; omega))]
      · by_cases c1 : r3 = 1
        · have z : (cat (cat (cutS x 0 r1.toNat) (strOfNums [bt w2 r2])) (cutS x (r1 + 1).toNat x.size)).size = x.size := by rw [cat_size, cat_size, cutS_size, cutS_size, oneByte_size]; omega
          obtain ⟨t, a', d', hE, ht, ha, hb⟩ := spoilt_l0 hs hw0 hw1 n (cat (cat (cutS x 0 r1.toNat) (strOfNums [bt w2 r2])) (cutS x (r1 + 1).toNat x.size)) a3 d3 (by omega) (by omega) (by omega)
          refine ⟨t, a', d', st (fun k => ?_) hE, by omega, by omega, by omega⟩
          simp only [spec_l1Cur_spoilt.j1, e1, e2, e3, Option.bind_some, hw, hw1']
          rw [if_pos trivial, if_pos p2, if_pos hr2, if_neg c0, if_pos c1, if_pos p1, if_pos (by omega), if_pos (catOk_of (by rw [cutS_size, oneByte_size]; omega)), if_pos (by omega), if_pos (by omega), if_pos (catOk_of (by rw [cat_size, cutS_size, cutS_size, oneByte_size]; omega))]
        · have z : (cat (cutS x 0 r1.toNat) (cutS x (r1 + 1).toNat x.size)).size ≤ x.size := by rw [cat_size, cutS_size, cutS_size]; omega
          obtain ⟨t, a', d', hE, ht, ha, hb⟩ := spoilt_l0 hs hw0 hw1 n (cat (cutS x 0 r1.toNat) (cutS x (r1 + 1).toNat x.size)) a3 d3 (by omega) (by omega) (by omega)
          refine ⟨t, a', d', st (fun k => ?_) hE, by omega, by omega, by omega⟩
          simp only [spec_l1Cur_spoilt.j1, e1, e2, e3, Option.bind_some, hw, hw1']
          rw [if_pos trivial, if_pos p2, if_pos hr2, if_neg c0, if_neg c1, if_pos p1, if_pos (by omega), if_pos (by omega), if_pos (by omega), if_pos (catOk_of (by rw [cutS_size, cutS_size]; omega))]
    · refine ⟨x, a, d, ?_, by omega, by omega, by omega⟩
      refine Ev.step (f := fun k => spec_l1Cur_spoilt.j1 k x w2 ((n + 1 : Nat) : Int) false s a d) (fun k => by simp only [spec_l1Cur_spoilt.l0]; rw [if_pos (by omega), decide_eq_false (by omega)]) ?_
      exact Ev.step (f := fun _ => some (x, a, d)) (fun k => by simp only [spec_l1Cur_spoilt.j1]; rw [if_neg (by simp)]) (Ev.now _)
theorem spoilt_any {w0 w : World} {g : Nat} {s : List Int} {m : Int} (x w2 : ByteArray) (hx : x.size ≤ 4000) (hw0 : 0 < w2.size) (hw1 : w2.size ≤ 1000) (hs : okBy s) (hI : Cur w0 w g s m) (hm : m ≤ 1000000000000) (hB : Below w0.heap.size w0 w) :
    Calls Tryd.prog 35 #[.pointer (some ⟨g, 0, none⟩), .string x, .string w2] w fun e w' => ∃ t, t.size ≤ x.size + 2 ∧ e = .returned (.string t) ∧ Cur w0 w' g s (m + 14) ∧ Below w0.heap.size w0 w' ∧ KeepBut w w' g none := by
  obtain ⟨a, d, hI, h0, h1⟩ := hI
  obtain ⟨r, a1, d1, e, r0, r1, ha, hb⟩ := pick_some hs (d := d) (n := 2) h0 (by omega)
  have hr := r1 (by omega)
  obtain ⟨n, hn⟩ : ∃ n : Nat, 1 + r = (n : Int) := ⟨(1 + r).toNat, by omega⟩
  obtain ⟨t, a', d', hE, ht, ha', hb'⟩ := spoilt_l0 hs hw0 hw1 n x a1 d1 (by omega) (by omega) (by omega)
  have hE2 : Ev (fun k => spec_l1Cur_spoilt.f k s a d x w2) (t, a', d') := by
    simp only [spec_l1Cur_spoilt.f, e, Option.bind_some]
    rw [hn, wrap_id (by omega) (by omega)]
    exact hE
  obtain ⟨k, hk⟩ := hE2.rounds
  refine (spec_l1Cur_spoilt.calls k g s a d x w2 t a' d' w0 w hI hB hk).mono ?_
  rintro e w' ⟨he, hi, hb2, hk2⟩
  exact ⟨t, by omega, he, ⟨a', d', hi, by omega, by omega⟩, hb2, hk2⟩
theorem of_any {w0 w : World} {g : Nat} {s : List Int} {m : Int} {A1 : Option Addr} {c1 : Nat} (l : List ByteArray) (hl : 0 < l.length) (hs : okBy s) (hI : Cur w0 w g s m) (hm : m ≤ 3000000000000000000) (hB : Below w0.heap.size w0 w)
    (hr1 : Kd.C Kd.string w A1 l.length l) (hc1 : l.length ≤ c1) (hf1 : ∀ ad, A1 = some ad → 0 < l.length → ad.block ≠ g) :
    Calls Tryd.prog 36 #[.pointer (some ⟨g, 0, none⟩), .slice A1 l.length c1] w fun e w' => ∃ r, r ∈ l ∧ e = .returned (.string r) ∧ Cur w0 w' g s (m + 2) ∧ Below w0.heap.size w0 w' ∧ KeepBut w w' g none := by
  obtain ⟨a, d, hI, h0, h1⟩ := hI
  obtain ⟨r, a', d', e, r0, r1, ha, hb⟩ := pick_some hs (d := d) (n := (l.length : Int)) h0 (by omega)
  have hr := r1 (by omega)
  have hi : r.toNat < l.length := by omega
  have e2 : rdOf ByteArray.empty l r = l[r.toNat] := by simp [rdOf, hi]
  have hf : spec_l1Cur_of.f s a d l = some (l[r.toNat], a', d') := by
    unfold spec_l1Cur_of.f
    rw [e]
    simp only [Option.bind_some]
    rw [if_pos r0, if_pos hr, e2]
  refine (spec_l1Cur_of.calls g s a d A1 c1 l _ a' d' w0 w hI hB hr1 hc1 hf1 hf).mono ?_
  rintro e w' ⟨he, hi, hb', hk⟩
  exact ⟨_, List.getElem_mem _, he, ⟨a', d', hi, by omega, by omega⟩, hb', hk⟩
theorem Cur.farT {w0 W : World} {g : Nat} {s : List Int} {m : Int} {base n c1 : Nat} {A1 : Option Addr} {ok : Nat → Prop} {xs : List ByteArray} (h : Cur w0 W g s m) (ho : Kd.R Kd.string 9 W base ok (.slice A1 n c1) xs) : ∀ ad, A1 = some ad → 0 < n → ad.block ≠ g := by
  obtain ⟨a, d, hI, _⟩ := h
  exact far_slice (IsS59.own_ne hI ho (by decide))

end Go.Proofs.YthdpiceiemkjlaaDoor.Pure

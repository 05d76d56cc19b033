/- What the draws of histories answer: some history. -/
import Derived.Test.YthdpiceiemkjlaaGFnOneOrderx18
import Derived.Test.YthdpiceiemkjlaaMBase
import Derived.KernelRfl
import Derived.Test.YthdpiceiemkjlaaMReal
import Derived.Test.YthdpiceiemkjlaaMNum
import Derived.Test.YthdpiceiemkjlaaGFnOneOrderx2
import Derived.Test.YthdpiceiemkjlaaGFnOneOrderx14
import Derived.Test.YthdpiceiemkjlaaGFnOneOrderx15
import Derived.Test.YthdpiceiemkjlaaGFnOneOrderx1
import Derived.Test.YthdpiceiemkjlaaPureOneFacts
import Derived.Laws.Bits64b
set_option linter.unusedVariables false
set_option linter.unusedSimpArgs false
namespace Go.Proofs.Ythdpiceiemkjlaa.Pure
open Go.RowKit Go.Proofs.Ythdpiceiemkjlaa.GFnOneOrder Go.Proofs.YthdpiceiemkjlaaW.PrintWords Go.Proofs.YthdpiceiemkjlaaW.PrintLast Go.Proofs.YthdpiceiemkjlaaW.PrintMore Go.Proofs.Ythdpiceiemkjlaa.MBase
open Go.Proofs.Ythdpiceiemkjlaa Go.Proofs.Ythdpiceiemkjlaa.MNum Go.Proofs.Ythdpiceiemkjlaa.MIeee Go.Proofs.Ythdpiceiemkjlaa.MReal
theorem up_any : ∀ (n x : Nat), n ≤ 2000 → isNan x = false → x < 18446744073709551616 → ∃ y, Ev (fun k => spec_l1Scaled.l0 k x (n : Int)) y ∧ isNan y = false ∧ y < 18446744073709551616
 | 0, x, hn, h1, h2 => by
  refine ⟨x, Ev.step (f := fun k => spec_l1Scaled.l1 k x ((0 : Nat) : Int)) (fun k => ?_) (Ev.step (f := fun _ => some x) (fun k => ?_) (Ev.now _)), h1, h2⟩
  ·simp only [spec_l1Scaled.l0]; rw [if_neg (by omega)]
  ·simp only [spec_l1Scaled.l1]; rw [if_neg (by omega)]
 | n + 1, x, hn, h1, h2 => by
  have hm := mul_pow_ok pow_two h1
  obtain ⟨y, hy, g1, g2⟩ := up_any n _ (by omega) hm.2.1 hm.2.2
  refine ⟨y, Ev.step (fun k => ?_) hy, g1, g2⟩
  simp only [spec_l1Scaled.l0]
  rw [if_pos (by omega), if_pos hm.1, show wrap64 (((n + 1 : Nat) : Int) - 1) = (n : Int) from by rw [wrap_id] <;> omega]
theorem down_any : ∀ (n x : Nat), n ≤ 2000 → isNan x = false → x < 18446744073709551616 → ∃ y, Ev (fun k => spec_l1Scaled.l1 k x (-(n : Int))) y ∧ isNan y = false ∧ y < 18446744073709551616
 | 0, x, hn, h1, h2 => by
  refine ⟨x, Ev.step (f := fun _ => some x) (fun k => ?_) (Ev.now _), h1, h2⟩
  simp only [spec_l1Scaled.l1]; rw [if_neg (by omega)]
 | n + 1, x, hn, h1, h2 => by
  have hm := half_ok h1
  obtain ⟨y, hy, g1, g2⟩ := down_any n _ (by omega) hm.2.1 hm.2.2
  refine ⟨y, Ev.step (fun k => ?_) hy, g1, g2⟩
  simp only [spec_l1Scaled.l1]
  rw [if_pos (by omega), if_pos hm.1, show wrap64 (-((n + 1 : Nat) : Int) + 1) = -(n : Int) from by rw [wrap_id] <;> omega]
theorem scaled_any (x : Nat) (n : Int) (hn : -2000 ≤ n ∧ n ≤ 2000) (h1 : isNan x = false) (h2 : x < 18446744073709551616) : ∃ y, Ev (fun k => spec_l1Scaled.f k x n) y ∧ isNan y = false ∧ y < 18446744073709551616 := by
 by_cases h : 0 ≤ n
 ·obtain ⟨m, rfl⟩ : ∃ m : Nat, n = (m : Int) := ⟨n.toNat, by omega⟩
  exact up_any m x (by omega) h1 h2
 ·obtain ⟨m, rfl⟩ : ∃ m : Nat, n = -(m : Int) := ⟨(-n).toNat, by omega⟩
  obtain ⟨y, hy, g⟩ := down_any m x (by omega) h1 h2
  refine ⟨y, Ev.step (fun k => ?_) hy, g⟩
  simp only [spec_l1Scaled.f, spec_l1Scaled.l0]; rw [if_neg (by omega)]
/-! ### what the draws of a cursor answer: some value within bounds -/
def okBy (s : List Int) : Prop := s.length ≤ 140737488351232 ∧ ∀ x ∈ s, 0 ≤ x ∧ x ≤ 255
theorem and255 (x : Int) (h0 : 0 ≤ x) (h1 : x < 18446744073709551616) : 0 ≤ Go.bits .and .u64 x 255 ∧ Go.bits .and .u64 x 255 ≤ 255 := by
 obtain ⟨n, rfl⟩ := Int.eq_ofNat_of_zero_le h0
 have h := bits_and_u64_nat n 255 (by omega) (by omega)
 rw [show ((255 : Nat) : Int) = 255 from rfl] at h
 rw [h]
 have : n &&& 255 ≤ 255 := Nat.and_le_right
 omega
theorem wrap_low (x : Int) : 0 ≤ IntKind.u64.wrap x / 1099511627776 ∧ IntKind.u64.wrap x / 1099511627776 < 18446744073709551616 := by
 rw [IntKind.wrap_u64]; omega
theorem byte_at {s : List Int} (hs : okBy s) {i : Int} (h0 : 0 ≤ i) (h1 : i < s.length) : 0 ≤ rd s i ∧ rd s i ≤ 255 := by
 have hi : i.toNat < s.length := by omega
 have e : rd s i = s[i.toNat] := by simp [rd, hi]
 rw [e]; exact hs.2 _ (List.getElem_mem hi)
theorem next_some {s : List Int} (hs : okBy s) {a d : Int} (h0 : 0 ≤ a) (h1 : a ≤ 4000000000000000000) : ∃ b d', spec_l1Cur_next.f s a d = some (b, a + 1, d') ∧ 0 ≤ b ∧ b ≤ 255 := by
 have hw : wrap64 (a + 1) = a + 1 := wrap_id (by omega) (by omega)
 unfold spec_l1Cur_next.f
 rw [hw]
 by_cases c1 : a < (s.length : Int)
 ·rw [if_pos c1, if_pos h0]
  have hb := byte_at hs h0 c1
  have hr : wrap64 (rd s a) = rd s a := wrap_id (by omega) (by omega)
  rw [hr]
  by_cases c2 : a + 1 ≤ (s.length : Int)
  ·rw [if_pos c2]; exact ⟨_, _, rfl, hb.1, hb.2⟩
  ·omega
 ·rw [if_neg c1, if_neg (by omega)]
  have hl := wrap_low (IntKind.u64.wrap (IntKind.u64.wrap (d * 6364136223846793005)) + 1442695040888963407)
  have hb := and255 _ hl.1 hl.2
  refine ⟨_, _, rfl, ?_, ?_⟩ <;> rw [wrap_id (by omega) (by omega)]
  ·exact hb.1
  ·exact hb.2
theorem tmod_in {x n : Int} (h0 : 0 ≤ x) (hn : 1 ≤ n) : 0 ≤ Int.tmod x n ∧ Int.tmod x n < n := by
 rw [Int.tmod_eq_emod_of_nonneg h0]
 exact ⟨Int.emod_nonneg _ (by omega), Int.emod_lt_of_pos _ (by omega)⟩
theorem pick_some {s : List Int} (hs : okBy s) {a d n : Int} (h0 : 0 ≤ a) (h1 : a ≤ 3000000000000000000) : ∃ r a' d', spec_l1Cur_pick.f s a d n = some (r, a', d') ∧ 0 ≤ r ∧ (1 ≤ n → r < n) ∧ a ≤ a' ∧ a' ≤ a + 2 := by
 unfold spec_l1Cur_pick.f
 by_cases c1 : n ≤ 1
 ·rw [if_pos c1]; exact ⟨0, a, d, rfl, by omega, by omega, by omega, by omega⟩
 ·rw [if_neg c1]
  obtain ⟨b, d1, e1, hb0, hb1⟩ := next_some hs (d := d) h0 (by omega)
  rw [e1]
  simp only [Option.bind_some]
  by_cases c2 : n > 200
  ·rw [if_pos c2]
   obtain ⟨b2, d2, e2, hc0, hc1⟩ := next_some hs (a := a + 1) (d := d1) (by omega) (by omega)
   rw [e2]
   simp only [Option.bind_some]
   rw [if_neg (by omega), wrap_id (n := b * 256) (by omega) (by omega), wrap_id (by omega) (by omega)]
   have ht := tmod_in (x := b * 256 + b2) (n := n) (by omega) (by omega)
   exact ⟨_, _, _, rfl, ht.1, fun _ => ht.2, by omega, by omega⟩
  ·rw [if_neg c2, if_neg (by omega)]
   have ht := tmod_in (x := b) (n := n) hb0 (by omega)
   exact ⟨_, _, _, rfl, ht.1, fun _ => ht.2, by omega, by omega⟩
theorem among_some {s : List Int} (hs : okBy s) {a d : Int} (h0 : 0 ≤ a) (h1 : a ≤ 3000000000000000000) (l : List Int) (hl : 0 < l.length) : ∃ r a' d', spec_l1Cur_among.f s a d l = some (r, a', d') ∧ r ∈ l ∧ a ≤ a' ∧ a' ≤ a + 2 := by
 obtain ⟨r, a', d', e, r0, r1, ha, hb⟩ := pick_some hs (d := d) (n := (l.length : Int)) h0 h1
 unfold spec_l1Cur_among.f
 rw [e]
 simp only [Option.bind_some]
 have hr := r1 (by omega)
 rw [if_pos r0, if_pos hr]
 have hi : r.toNat < l.length := by omega
 have e2 : rd l r = l[r.toNat] := by simp [rd, hi]
 exact ⟨_, _, _, rfl, by rw [e2]; exact List.getElem_mem hi, ha, hb⟩
theorem one_some {s : List Int} (hs : okBy s) {a d n : Int} (h0 : 0 ≤ a) (h1 : a ≤ 3000000000000000000) : ∃ b a' d', spec_l1Cur_one.f s a d n = some (b, a', d') ∧ a ≤ a' ∧ a' ≤ a + 2 := by
 obtain ⟨r, a', d', e, r0, r1, ha, hb⟩ := pick_some hs (d := d) (n := n) h0 h1
 unfold spec_l1Cur_one.f
 rw [e]
 exact ⟨_, _, _, rfl, ha, hb⟩
/-- A cursor: its block, its bytes, and how far it is. -/
def Cur (w0 W : World) (g : Nat) (s : List Int) (m : Int) : Prop := ∃ a d, IsS94 w0 W g s a d ∧ 0 ≤ a ∧ a ≤ m
theorem Cur.more {w0 W : World} {g : Nat} {s : List Int} {m m' : Int} (h : Cur w0 W g s m) (hm : m ≤ m') : Cur w0 W g s m' := by
 obtain ⟨a, d, hI, h0, h1⟩ := h
 exact ⟨a, d, hI, h0, by omega⟩
theorem Cur.below {w0 W W1 : World} {g : Nat} {s : List Int} {m : Int} (h : Cur w0 W g s m) (hb : Below W.heap.size W W1) : Cur w0 W1 g s m := by
 obtain ⟨a, d, hI, h0, h1⟩ := h
 exact ⟨a, d, hI.below hb, h0, h1⟩
theorem Cur.alloc {w0 W : World} {g : Nat} {s : List Int} {m : Int} (h : Cur w0 W g s m) (o : Obj) : Cur w0 (W.alloc o) g s m := h.below (below_alloc (Below.refl _ _) o)
theorem Cur.drewN {w0 W : World} {g : Nat} {s : List Int} {m : Int} (h : Cur w0 W g s m) (k : Nat) : Cur w0 (W.drewN k) g s m := h
theorem Cur.drew {w0 W : World} {g : Nat} {s : List Int} {m : Int} (h : Cur w0 W g s m) : Cur w0 W.drew g s m := h
theorem Cur.new (w0 W : World) (A0 : Option Addr) (c0 : Nat) (s : List Int) (hB : Below w0.heap.size w0 W) (hr0 : Kd.C (Kd.int .u8) w0 A0 s.length s) : Cur w0 (W.alloc (.cells #[.slice A0 s.length c0, .int .i64 0, .int .u64 0] 94)) W.heap.size s 0 :=
 ⟨0, 0, IsS94.new w0 W A0 c0 s 0 0 hB hr0, by omega, by omega⟩
theorem pick_any {w0 w : World} {g : Nat} {s : List Int} {m : Int} (n : Int) (hs : okBy s) (hI : Cur w0 w g s m) (hm : m ≤ 3000000000000000000) (hB : Below w0.heap.size w0 w) :
  Calls Try.prog 81 #[.pointer (some ⟨g, 0, none⟩), .int .i64 n] w fun e w' => ∃ r, (0 ≤ r ∧ (1 ≤ n → r < n)) ∧ e = .returned (.int .i64 r) ∧ Cur w0 w' g s (m + 2) ∧ Below w0.heap.size w0 w' ∧ KeepBut w w' g none := by
 obtain ⟨a, d, hI, h0, h1⟩ := hI
 obtain ⟨r, a', d', e, r0, r1, ha, hb⟩ := pick_some hs (d := d) (n := n) h0 (by omega)
 refine (spec_l1Cur_pick.calls g s a d n r a' d' w0 w hI hB e).mono ?_
 rintro e w' ⟨he, hi, hb', hk⟩
 exact ⟨r, ⟨r0, r1⟩, he, ⟨a', d', hi, by omega, by omega⟩, hb', hk⟩
theorem one_any {w0 w : World} {g : Nat} {s : List Int} {m : Int} (n : Int) (hs : okBy s) (hI : Cur w0 w g s m) (hm : m ≤ 3000000000000000000) (hB : Below w0.heap.size w0 w) :
  Calls Try.prog 110 #[.pointer (some ⟨g, 0, none⟩), .int .i64 n] w fun e w' => ∃ b, e = .returned (.bool b) ∧ Cur w0 w' g s (m + 2) ∧ Below w0.heap.size w0 w' ∧ KeepBut w w' g none := by
 obtain ⟨a, d, hI, h0, h1⟩ := hI
 obtain ⟨r, a', d', e, ha, hb⟩ := one_some hs (d := d) (n := n) h0 (by omega)
 refine (spec_l1Cur_one.calls g s a d n r a' d' w0 w hI hB e).mono ?_
 rintro e w' ⟨he, hi, hb', hk⟩
 exact ⟨r, he, ⟨a', d', hi, by omega, by omega⟩, hb', hk⟩
theorem nanOf_lt (t : Nat) : nanOf t < 18446744073709551616 := by unfold nanOf; omega
theorem Cur.far {w0 W : World} {g : Nat} {s : List Int} {m : Int} {base n c1 : Nat} {A1 : Option Addr} {ok : Nat → Prop} {xs : List Int} (h : Cur w0 W g s m) (ho : Kd.R (Kd.int .i64) 3 W base ok (.slice A1 n c1) xs) : ∀ ad, A1 = some ad → 0 < n → ad.block ≠ g := by
 obtain ⟨a, d, hI, _⟩ := h
 exact far_slice (IsS94.own_ne hI ho (by decide))
/-! ### a drawn number is some number -/
theorem fneg_lt {x : Nat} (h : x < 18446744073709551616) : fneg x < 18446744073709551616 := by
 show x ^^^ 2 ^ 63 < 2 ^ 64
 exact Nat.xor_lt_two_pow (by omega) (by omega)
def oneOk (n : Nat) : Bool := faddOk 4607182418800017408 (fofi (n : Int)) && (!(isNan (fadd 4607182418800017408 (fofi (n : Int)))) && decide (fadd 4607182418800017408 (fofi (n : Int)) < 18446744073709551616))
theorem one_all : (List.range 99).all oneOk = true := by kernel_rfl
theorem one_at (r : Int) (h0 : 0 ≤ r) (h1 : r < 99) : faddOk 4607182418800017408 (fofi r) = true ∧ isNan (fadd 4607182418800017408 (fofi r)) = false ∧ fadd 4607182418800017408 (fofi r) < 18446744073709551616 := by
 obtain ⟨n, rfl⟩ := Int.eq_ofNat_of_zero_le h0
 have h := List.all_eq_true.mp one_all n (by simp; omega)
 simp only [oneOk, Bool.and_eq_true, Bool.not_eq_true', decide_eq_true_eq] at h
 exact h
theorem inf_ok : fdivOk 4607182418800017408 0 = true ∧ fdiv 4607182418800017408 0 < 18446744073709551616 := by constructor <;> decide +kernel
theorem minf_ok : fdivOk 13830554455654793216 0 = true ∧ fdiv 13830554455654793216 0 < 18446744073709551616 := by constructor <;> decide +kernel
theorem num_some {s : List Int} (hs : okBy s) {a d t a1 d1 : Int} (e : spec_l1Cur_pick.f s a d 12 = some (t, a1, d1)) (ht : t ≠ 0) (h0 : 0 ≤ a1) (h1 : a1 ≤ 2000000000000000000) :
  ∃ k x a' d', spec_l1Cur_num.f k s a d = some (x, a', d') ∧ x < 18446744073709551616 ∧ a1 ≤ a' ∧ a' ≤ a1 + 4 := by
 have hE : ∃ x a' d', Ev (fun k => spec_l1Cur_num.f k s a d) (x, a', d') ∧ x < 18446744073709551616 ∧ a1 ≤ a' ∧ a' ≤ a1 + 4 := by
  simp only [spec_l1Cur_num.f, e, Option.bind_some]
  by_cases c1 : t = 1
  ·subst c1
   exact ⟨_, a1, d1, Ev.ite_neg (by decide) (Ev.ite_pos rfl (Ev.ite_pos inf_ok.1 (Ev.now _))), inf_ok.2, by omega, by omega⟩
  by_cases c2 : t = 2
  ·subst c2
   exact ⟨_, a1, d1, Ev.ite_neg (by decide) (Ev.ite_neg (by decide) (Ev.ite_pos rfl (Ev.ite_pos minf_ok.1 (Ev.now _)))), minf_ok.2, by omega, by omega⟩
  by_cases c3 : t = 3
  ·subst c3
   exact ⟨_, a1, d1, Ev.ite_neg (by decide) (Ev.ite_neg (by decide) (Ev.ite_neg (by decide) (Ev.ite_pos rfl (Ev.bind (Ev.const rfl) (Ev.now _))))), fneg_lt (by decide), by omega, by omega⟩
  by_cases c4 : t = 4
  ·subst c4
   obtain ⟨r, a2, d2, e2, r0, r1, ha, hb⟩ := pick_some hs (a := a1) (d := d1) (n := 9) h0 (by omega)
   have hr := r1 (by omega)
   have hone := one_at r r0 (by omega)
   obtain ⟨v, a3, d3, e3, hv, ha3, hb3⟩ := among_some hs (a := a2) (d := d2) (by omega) (by omega) [(-1074), (-1070), (-1022), 1019, 1020, (-3), 52] (by decide)
   have hv2 : -2000 ≤ v ∧ v ≤ 2000 := by
    simp only [List.mem_cons, List.not_mem_nil, or_false] at hv
    rcases hv with h | h | h | h | h | h | h <;> omega
   obtain ⟨y, hy, _, hlt⟩ := scaled_any _ v hv2 hone.2.1 hone.2.2
   exact ⟨y, a3, d3, Ev.ite_neg (by decide) (Ev.ite_neg (by decide) (Ev.ite_neg (by decide) (Ev.ite_neg (by decide) (Ev.ite_pos rfl (Ev.bind (Ev.const e2) (Ev.ite_pos hone.1 (Ev.bind (Ev.const e3) (Ev.bind hy (Ev.now _))))))))), hlt, by omega, by omega⟩
  by_cases c5 : t = 5
  ·subst c5
   obtain ⟨r, a2, d2, e2, r0, r1, ha, hb⟩ := pick_some hs (a := a1) (d := d1) (n := 99) h0 (by omega)
   have hr := r1 (by omega)
   have hone := one_at r r0 (by omega)
   obtain ⟨v, a3, d3, e3, v0, v1, ha3, hb3⟩ := pick_some hs (a := a2) (d := d2) (n := 9) (by omega) (by omega)
   have hv := v1 (by omega)
   have hw : wrap64 (v - 4) = v - 4 := wrap_id (by omega) (by omega)
   obtain ⟨y, hy, _, hlt⟩ := scaled_any _ (wrap64 (v - 4)) (by omega) hone.2.1 hone.2.2
   exact ⟨_, a3, d3, Ev.ite_neg (by decide) (Ev.ite_neg (by decide) (Ev.ite_neg (by decide) (Ev.ite_neg (by decide) (Ev.ite_neg (by decide) (Ev.ite_pos rfl (Ev.bind (Ev.const e2) (Ev.ite_pos hone.1 (Ev.bind (Ev.const e3) (Ev.bind hy (Ev.now _)))))))))), fneg_lt hlt, by omega, by omega⟩
  obtain ⟨r, a2, d2, e2, r0, r1, ha, hb⟩ := pick_some hs (a := a1) (d := d1) (n := 5) h0 (by omega)
  exact ⟨_, a2, d2, Ev.ite_neg ht (Ev.ite_neg c1 (Ev.ite_neg c2 (Ev.ite_neg c3 (Ev.ite_neg c4 (Ev.ite_neg c5 (Ev.bind (Ev.const e2) (Ev.now _))))))), (fofi_nan _).2, by omega, by omega⟩
 obtain ⟨x, a', d', hE, h⟩ := hE
 obtain ⟨k, hk⟩ := hE.rounds
 exact ⟨k, x, a', d', hk, h⟩
set_option maxHeartbeats 4000000 in
set_option maxRecDepth 100000 in
theorem num_nan {w0 w : World} {g : Nat} {s : List Int} {a d a1 d1 : Int} (hI : IsS94 w0 w g s a d) (hB : Below w0.heap.size w0 w) (e : spec_l1Cur_pick.f s a d 12 = some (0, a1, d1)) :
  Calls Try.prog 101 #[.pointer (some ⟨g, 0, none⟩)] w fun e w' => ∃ x, x < 18446744073709551616 ∧ e = .returned (.float .f64 x) ∧ IsS94 w0 w' g s a1 d1 ∧ Below w0.heap.size w0 w' ∧ KeepBut w w' g none := by
 have hd : fdivOk 0 0 = false := by decide +kernel
 have A2 := a_ e
 have HI0 := a_ hI
 have HB := a_ hB
 clear e hI hB
 go_enter Try.func101, Try.ntmps101
 go_wp2_with (first | (go_at_call 81; (with_reducible refine (spec_l1Cur_pick.calls g s a d 12 0 a1 d1 w0 _ ?side1 ?side2 A2.out).mono ?_); (case side1 => exact HI0.out); (case side2 => exact HB.out); rintro e w5 ⟨rfl, hi, hb, hk⟩; have n0_ := a_ hi; have n1_ := a_ hb; have n2_ := a_ hk; clear HI0 HB hi hb hk; have HI0 := n0_; have HB := n1_; have HK := n2_; clear n0_ n1_ n2_))
 go_ret
 exact ⟨_, nanOf_lt _, rfl, by repeat (first | exact HI0.out | apply IsS94.drewN | apply IsS94.drew), by repeat (first | exact HB.out | apply pw_below_drewN | apply below_drew1), by repeat (first | exact HK.out | apply keep_drewN | apply keep_drew)⟩
theorem num_any {w0 w : World} {g : Nat} {s : List Int} {m : Int} (hs : okBy s) (hI : Cur w0 w g s m) (hm : m ≤ 1000000000000000000) (hB : Below w0.heap.size w0 w) :
  Calls Try.prog 101 #[.pointer (some ⟨g, 0, none⟩)] w fun e w' => ∃ x, x < 18446744073709551616 ∧ e = .returned (.float .f64 x) ∧ Cur w0 w' g s (m + 6) ∧ Below w0.heap.size w0 w' ∧ KeepBut w w' g none := by
 obtain ⟨a, d, hI, h0, h1⟩ := hI
 obtain ⟨t, a1, d1, e, r0, r1, ha, hb⟩ := pick_some hs (d := d) (n := 12) h0 (by omega)
 by_cases ht : t = 0
 ·subst ht
  refine (num_nan hI hB e).mono ?_
  rintro e w' ⟨x, hx, he, hi, hb', hk⟩
  exact ⟨x, hx, he, ⟨a1, d1, hi, by omega, by omega⟩, hb', hk⟩
 ·obtain ⟨k, x, a', d', hk, hx, ha', hb'⟩ := num_some hs e ht (by omega) (by omega)
  refine (spec_l1Cur_num.calls k g s a d x a' d' w0 w hI hB hk).mono ?_
  rintro e w' ⟨he, hi, hb2, hk2⟩
  exact ⟨x, hx, he, ⟨a', d', hi, by omega, by omega⟩, hb2, hk2⟩
theorem ci_ {P : Prop} (h : P := by repeat (first | (with_reducible first | exact HI.out | apply Cur.alloc | apply Cur.drewN | apply Cur.drew) | exact HI.out)) : P := h
theorem ck_ {P : Prop} (h : P := by repeat (first | (with_reducible first | exact HK.out | apply keep_drewN | apply keep_drew | apply keep_alloc) | exact HK.out)) : P := h
theorem cb_ {P : Prop} (h : P := by repeat (first | (with_reducible first | exact (HB.out) | apply below_alloc | apply pw_below_drewN | apply below_drew1) | exact HB.out)) : P := h
theorem Cur.keepR {w0 W W1 : World} {g : Nat} {s : List Int} {m : Int} {α : Type} {d : Kd α} {e base : Nat} {ok : Nat → Prop} {v : Value} {xs : List α} (h : Cur w0 W g s m) (ho : Kd.R d e W base ok v xs) (ht : ∀ q, q ∈ e :: d.E → q ≠ 94) (hk : KeepBut W W1 g none) : Kd.R d e W1 base ok v xs := by
 obtain ⟨a, d', hI, _⟩ := h
 exact Kd.R_mono (Kd.R_keep (IsS94.apart hI ho ht) hk (fun _ h => h.2)) (fun _ h => h.1)
theorem Cur.grown {w0 W W1 : World} {g : Nat} {s : List Int} {m : Int} {α : Type} {d : Kd α} {e base go : Nat} {ok : Nat → Prop} {n c : Nat} {xs : List α} (h : Cur w0 W g s m) (hg : W.grownBy W1 (some go)) (ho : Kd.R d e W base ok (.slice (some ⟨go, 0, none⟩) n c) xs) (ht : e ≠ 94) : Cur w0 W1 g s m := by
 obtain ⟨a, d', hI, h0, h1⟩ := h
 exact ⟨a, d', IsS94.grown hI hg (IsS94.own_ne hI ho ht), h0, h1⟩
theorem Cur.letter {w0 W : World} {g : Nat} {s : List Int} {m : Int} (h : Cur w0 W g s m) : ∃ m', m' = m ∧ Cur w0 W g s m' := ⟨m, rfl, h⟩
theorem Cur.grownV {w0 W W1 : World} {g : Nat} {s : List Int} {m : Int} {α : Type} {d : Kd α} {e base : Nat} {ok : Nat → Prop} {v : Value} {xs : List α} (h : Cur w0 W g s m) (hg : W.grownBy W1 v.ownBlock) (ho : Kd.R d e W base ok v xs) (ht : e ≠ 94) : Cur w0 W1 g s m := by
 obtain ⟨a, d', hI, h0, h1⟩ := h
 exact ⟨a, d', IsS94.grown hI hg (IsS94.own_ne hI ho ht), h0, h1⟩
theorem kind_any {w0 w : World} {g : Nat} {s : List Int} {m : Int} (hs : okBy s) (hI : Cur w0 w g s m) (hm : m ≤ 3000000000000000000) (hB : Below w0.heap.size w0 w) :
  Calls Try.prog 76 #[.pointer (some ⟨g, 0, none⟩)] w fun e w' => ∃ r, e = .returned (.int .i64 r) ∧ Cur w0 w' g s (m + 2) ∧ Below w0.heap.size w0 w' ∧ KeepBut w w' g none := by
 obtain ⟨a, d, hI, h0, h1⟩ := hI
 obtain ⟨r, a', d', e, r0, ha, hb⟩ := among_some hs (d := d) h0 (by omega) [1, 1, 1, 2, 2, 2, 0, 3] (by decide)
 refine (spec_l1Cur_kind.calls g s a d r a' d' w0 w hI hB (by unfold spec_l1Cur_kind.f; simp only [e, Option.bind_some])).mono ?_
 rintro e w' ⟨he, hi, hb', hk⟩
 exact ⟨r, he, ⟨a', d', hi, by omega, by omega⟩, hb', hk⟩
/-- The calls' values are floats. -/
def flC (h : List S77) : Prop := ∀ c ∈ h, c.f4 < 18446744073709551616
theorem flC_set {h : List S77} {i : Nat} {c : S77} (hf : flC h) (hc : c.f4 < 18446744073709551616) : flC (h.set i c) := fun a ha => by
 rcases List.mem_or_eq_of_mem_set ha with q | rfl
 ·exact hf a q
 ·exact hc
theorem most_any (a b : Int) (w : World) : Calls Try.prog 111 #[.int .i64 a, .int .i64 b] w fun e w' => ∃ r, e = .returned (.int .i64 r) ∧ Below w.heap.size w w' := by
 obtain ⟨r, hr⟩ : ∃ r, spec_l1Most.f a b = some r := by
  unfold spec_l1Most.f
  split <;> exact ⟨_, rfl⟩
 refine (spec_l1Most.calls a b r w hr).mono ?_
 rintro e w' ⟨he, nd, rfl⟩
 exact ⟨r, he, pw_below_drewN (Below.refl _ _) nd⟩
theorem good_is (A : Option Addr) (c : Nat) (h : List S77) (b : Bool) (w : World) (hb : goodH h = b) (hr : Kd.C k77 w A h.length h) (hc : h.length ≤ c) (hl : h.length ≤ 9) : Calls Try.prog 59 #[.slice A h.length c] w fun e w' => e = .returned (.bool b) ∧ Below w.heap.size w w' := by
 obtain ⟨k, hk⟩ := (spec_good h (by omega)).rounds
 exact spec_l16Good.calls k A c h _ w hr hc (by rw [← hb]; exact hk)
theorem play_kind (kind : Int) (hk : ¬ kind = 1) : ∀ (k : Nat) (h : List S77) (a b : List Nat) (c : Nat) (xs : List Int) (n i : Int), spec_l16Play.l0 k kind h a b c xs n i = spec_l16Play.l0 k 2 h a b c xs n i
 | 0, _, _, _, _, _, _, _ => by simp only [spec_l16Play.l0]
 | k + 1, h, a, b, c, xs, n, i => by
  have ih := fun a b c i => play_kind kind hk k h a b c xs n i
  have h2 : ¬ ((2 : Int) = 1) := by decide
  simp only [spec_l16Play.l0, ih, if_neg hk, if_neg h2]
theorem told_fl (kind : Int) : ∀ (cs : List S77) (L : List Nat) (n : Nat), OkL kind n L → flC cs → flL (told kind L cs)
 | [], L, n, _, _ => fun a ha => by simp [told] at ha
 | c :: r, L, n, hL, hf => fun a ha => by
  have hc := hf c List.mem_cons_self
  rcases List.mem_cons.1 ha with rfl | ha
  ·exact hL.v c hc
  ·exact told_fl kind r _ (n + 1) (hL.step c hc) (fun x hx => hf x (List.mem_cons_of_mem _ hx)) a ha
theorem play_any (kind : Int) (A5 : Option Addr) (c5 : Nat) (h : List S77) (A13 : Option Addr) (c13 n : Nat) (xs : List Int) (w : World) (hr1 : Kd.C k77 w A5 h.length h) (hc1 : h.length ≤ c5) (hr2 : Kd.C (Kd.int .i64) w A13 xs.length xs) (hc2 : n ≤ c13) (hl : h.length ≤ 9) (hf : flC h) (hn : xs.length = n) (hx : xs.length = h.length ∧ ∀ x ∈ xs, 0 ≤ x ∧ x < (h.length : Int)) :
  Calls Try.prog 61 #[.int .i64 kind, .slice A5 h.length c5, .slice A13 n c13] w fun e w' => ∃ (v : Value) (T : List Nat), e = .returned v ∧ Kd.R Kd.float 55 w' w.heap.size (fun _ => True) v T ∧ T.length = h.length ∧ flL T ∧ Below w.heap.size w w' := by
 subst hn
 obtain ⟨kd, hkd, hE⟩ : ∃ kd : Int, (kd = 1 ∨ kd = 2) ∧ Ev (fun k => spec_l16Play.f k kind h xs) (told kd (L0 kd) (xs.map (rd_T77 h))) := by
  by_cases c : kind = 1
  ·exact ⟨1, .inl rfl, by rw [c]; exact splay_ev 1 (.inl rfl) h xs hx.2 (by omega)⟩
  ·refine ⟨2, .inr rfl, Ev.congr (fun k => ?_) (splay_ev 2 (.inr rfl) h xs hx.2 (by omega))⟩
   simp only [spec_l16Play.f, play_kind kind c]
 obtain ⟨k, hk⟩ := hE.rounds
 refine (spec_l16Play.calls k kind A5 c5 h A13 c13 xs _ w hr1 hc1 hr2 hc2 hk).mono ?_
 rintro e w' ⟨v, r, he, hq, hR, hb⟩
 have hT := told_fl kd (xs.map (rd_T77 h)) (L0 kd) 0 (L0_ok kd) (fun c hc => by
  obtain ⟨x, hx1, rfl⟩ := List.mem_map.1 hc
  exact hf _ (rdC_mem h x (hx.2 x hx1).1 (hx.2 x hx1).2))
 have hlen : r.length = h.length := by rw [hq.1, told_len, List.length_map, hx.1]
 refine ⟨v, r, he, hR, hlen, fun a ha => ?_, hb⟩
 obtain ⟨i, hi, rfl⟩ := List.getElem_of_mem ha
 have h1 := hq.2 i
 have e1 : r.getD i 0 = r[i] := by simp [hi]
 rw [e1] at h1
 rcases h1 with h2 | ⟨_, _, h3⟩
 ·rw [h2]
  have hi2 : i < (told kd (L0 kd) (xs.map (rd_T77 h))).length := by rw [← hq.1]; exact hi
  have e2 : (told kd (L0 kd) (xs.map (rd_T77 h))).getD i 0 = (told kd (L0 kd) (xs.map (rd_T77 h)))[i] := by simp [hi2]
  rw [e2]
  exact hT _ (List.getElem_mem hi2)
 ·exact h3
set_option maxHeartbeats 1000000 in
set_option maxRecDepth 100000 in
theorem hist_any {w0 w : World} {g : Nat} {s : List Int} {m : Int} (kind : Int) (hs : okBy s) (hI : Cur w0 w g s m) (hm : m ≤ 1000000) (hB : Below w0.heap.size w0 w) :
  Calls Try.prog 77 #[.pointer (some ⟨g, 0, none⟩), .int .i64 kind] w fun e w' => ∃ (v : Value) (h : List S77), e = .returned v ∧ Kd.R k77 77 w' w.heap.size (fun _ => True) v h ∧ h.length ≤ 9 ∧ flC h ∧ (∃ mm, mm ≤ m + 200 ∧ Cur w0 w' g s mm) ∧ Below w0.heap.size w0 w' ∧ KeepBut w w' g none := by
 have hu77 := Try.underlying77
 have HS := a_ hs
 have HM0 := a_ hm
 have HK := a_ (KeepBut.refl w g none)
 have HL := a_ hB.size
 have HB := a_ hB
 obtain ⟨mm_, hm_, hI⟩ := Cur.letter hI
 have HI := a_ hI
 have HM : Aside0 (mm_ ≤ m) := ⟨by omega⟩
 clear hs hI hB hm hm_
 go_enter Try.func77, Try.ntmps77
 go_upto_if 21 with (first | ((with_reducible refine gate_dst (N := 17) rfl ?_); refine Kd.R_make (Kd.int .i64) _ 3 rfl (N := 17) rfl 23 _ _ rfl 10 rfl rfl Try.underlying23 (.int .i64 0) 8 info3 rfl (by decide) (by omega) 0 (ok := fun _ => True) (okp := fun _ => True) rfl (fun _ hk => hk) trivial (by omega) (by omega) (Below.refl _ _) (Nat.le_refl _) ?_; intro v7 w7 ho hb hg_ hnew_; clear hg_ hnew_; have n0_ := a_ (Kd.R_lower ho (keep_size (w := w) (g := g) (row := none) ck_)); have n1_ := a_ (Cur.below ci_ hb); have n2_ := a_ (KeepBut.trans ck_ (KeepBut.of_below hb g none) (.inl rfl)); have n3_ := a_ (below_step cb_ hb); clear HI HK HB; have HO7 := n0_; have HI := n1_; have HK := n2_; have HB := n3_; clear n0_ n1_ n2_ n3_; clear hb; clear ho) | (go_at_call 81; (with_reducible refine (pick_any (w0 := w0) 6 HS.out ci_ (by have := HM0.out; have := HM.out; omega) cb_).mono ?_); rintro e w1 ⟨many, hr_, rfl, hi, hb, hk⟩; have HRmany := a_ hr_; clear hr_; obtain ⟨mm_, hm_, hi⟩ := Cur.letter hi; have n0_ := a_ (Cur.keepR ci_ (r_ HO7.out) (by decide) hk); have n1_ := a_ (KeepBut.trans ck_ hk (.inl rfl)); have n2_ := a_ (hb); have n3_ := a_ (hi); have n4_ := a_ ((by have := HM.out; omega : mm_ ≤ m + 2)); clear HO7 HK HB HI HM; have HO7 := n0_; have HK := n1_; have HB := n2_; have HI := n3_; have HM := n4_; clear n0_ n1_ n2_ n3_ n4_; clear hi hb hk hm_) | (go_at_call 110; (with_reducible refine (one_any (w0 := w0) 20 HS.out ci_ (by have := HM0.out; have := HM.out; omega) cb_).mono ?_); rintro e w1 ⟨b1, rfl, hi, hb, hk⟩; obtain ⟨mm_, hm_, hi⟩ := Cur.letter hi; have n0_ := a_ (Cur.keepR ci_ (r_ HO7.out) (by decide) hk); have n1_ := a_ (KeepBut.trans ck_ hk (.inl rfl)); have n2_ := a_ (hb); have n3_ := a_ (hi); have n4_ := a_ ((by have := HM.out; omega : mm_ ≤ m + 4)); clear HO7 HK HB HI HM; have HO7 := n0_; have HK := n1_; have HB := n2_; have HI := n3_; have HM := n4_; clear n0_ n1_ n2_ n3_ n4_; clear hi hb hk hm_))
 (try simp only [Act.put, List.setIfInBounds_toArray, List.set_cons_zero, List.set_cons_succ])
 go_cut [8] (fun v8 wc => ∃ (many mm : Int), v8 = .int .i64 many ∧ Aside0 (many ≤ 9) ∧ Aside0 (mm ≤ m + 6) ∧ Aside0 (Kd.R (Kd.int .i64) 3 wc w.heap.size (fun _ => True) v7 (List.replicate 10 0)) ∧ Aside0 (Cur w0 wc g s mm) ∧ Aside0 (KeepBut w wc g none) ∧ Aside0 (Below w0.heap.size w0 wc))
 case first =>
  cases b1 with
  | true =>
   go_wp2_with (first | (go_at_call 81; (with_reducible refine (pick_any (w0 := w0) 2 HS.out ci_ (by have := HM0.out; have := HM.out; omega) cb_).mono ?_); rintro e w1 ⟨q, hr_, rfl, hi, hb, hk⟩; have HRq := a_ hr_; clear hr_; obtain ⟨mm_, hm_, hi⟩ := Cur.letter hi; have n0_ := a_ (Cur.keepR ci_ (r_ HO7.out) (by decide) hk); have n1_ := a_ (KeepBut.trans ck_ hk (.inl rfl)); have n2_ := a_ (hb); have n3_ := a_ (hi); have n4_ := a_ ((by have := HM.out; omega : mm_ ≤ m + 6)); clear HO7 HK HB HI HM; have HO7 := n0_; have HK := n1_; have HB := n2_; have HI := n3_; have HM := n4_; clear n0_ n1_ n2_ n3_ n4_; clear hi hb hk hm_))
   go_meet
   case rel => exact ⟨_, mm_, (by first | rfl | (simp; done) | (simp [*]; done)), ⟨by have := HRq.out; rw [wrap_id] <;> omega⟩, HM, ⟨by exact r_ HO7.out⟩, ⟨ci_⟩, ⟨ck_⟩, ⟨cb_⟩⟩
  | false =>
   go_wp2
   go_meet
   case rel => exact ⟨_, mm_, (by first | rfl | (simp; done) | (simp [*]; done)), ⟨by have := HRmany.out; omega⟩, ⟨by have := HM.out; omega⟩, ⟨by exact r_ HO7.out⟩, ⟨ci_⟩, ⟨ck_⟩, ⟨cb_⟩⟩
 case rest =>
  clear HI HB HK HM HO7 HRmany
  obtain ⟨many, mm, rfl, HRmany, HM, HO7, HI, HK, HB⟩ := hcut
  obtain ⟨go7, co7, eo7, gb7, gl7, cl7⟩ := Kd.R_form HO7.out (by simp)
  subst eo7; have GB7 := a_ gb7; clear gb7 gl7 cl7
  go_wp2
  go_loopg [5, 6, 9] 10 (fun kq v5 v6 v9 w' => ∃ (h : List S77) (at_ x : Int) (last : List Int) (mm : Int), v6 = .int .i64 at_ ∧ v9 = .int .i64 x ∧ Aside0 (0 ≤ x ∧ x ≤ 9 ∧ x + kq = 10 ∧ (h.length : Int) = x) ∧ Aside0 (flC h) ∧ Aside0 (last.length = 10) ∧ Aside0 (mm ≤ m + 6 + 10 * x) ∧ Aside0 (Kd.R k77 77 w' w.heap.size (fun _ => True) v5 h) ∧ Aside0 (Kd.R (Kd.int .i64) 3 w' w.heap.size (fun _ => True) (.slice (some ⟨go7, 0, none⟩) 10 co7) last) ∧ Aside0 (Cur w0 w' g s mm) ∧ Aside0 (KeepBut w w' g none) ∧ Aside0 (Below w0.heap.size w0 w'))
  case atStart => exact ⟨[], 0, 0, List.replicate 10 0, mm, (by first | rfl | (simp; done) | (simp [*]; done)), (by first | rfl | (simp; done) | (simp [*]; done)), ⟨by simp⟩, ⟨fun c hc => by simp at hc⟩, ⟨by simp⟩, ⟨by have := HM.out; omega⟩, ⟨Kd.R_nil _ _ _ _ _⟩, ⟨by exact r_ HO7.out⟩, ⟨ci_⟩, ⟨ck_⟩, ⟨cb_⟩⟩
  case round =>
   clear HI HB HK HM HO7
   obtain ⟨h, at_, x, last, mm, rfl, rfl, HX, HF, HLA, HM, HO5, HO7, HI, HK, HB⟩ := hrel
   by_cases c1 : x < many
   ·have c1b : decide (x < many) = true := decide_eq_true c1
    have HLEN : Aside0 (h.length ≤ 9 ∧ 0 ≤ x ∧ x ≤ 8) := ⟨by have := HX.out; have := HRmany.out; omega⟩
    clear c1
    go_upto_if 37 with (first | (go_at_call 81; (with_reducible refine (pick_any (w0 := w0) 3 HS.out ci_ (by have := HM0.out; have := HM.out; have := HLEN.out; omega) cb_).mono ?_); rintro e w10 ⟨who, hr_, rfl, hi, hb, hk⟩; have HRwho := a_ hr_; clear hr_; obtain ⟨mm_, hm_, hi⟩ := Cur.letter hi; have n0_ := a_ (Cur.keepR ci_ (r_ HO5.out) (by decide) hk); have n1_ := a_ (Cur.keepR ci_ (r_ HO7.out) (by decide) hk); have n2_ := a_ (KeepBut.trans ck_ hk (.inl rfl)); have n3_ := a_ (hb); have n4_ := a_ (hi); have n5_ := a_ ((by have := HM.out; omega : mm_ ≤ m + 8 + 10 * x)); clear HO5 HO7 HK HB HI HM; have HO5 := n0_; have HO7 := n1_; have HK := n2_; have HB := n3_; have HI := n4_; have HM := n5_; clear n0_ n1_ n2_ n3_ n4_ n5_; clear hi hb hk hm_; obtain ⟨hx7, hf7⟩ := Kd.R_celln 0 HO7.out who (HRwho.out.1) (by have := HRwho.out; omega); have p7 := eq_true HRwho.out.1; have q7 := eq_true (show who < 10 from by have := HRwho.out; omega); have p7b := decide_eq_true HRwho.out.1; have q7b := decide_eq_true (show who < 10 from by have := HRwho.out; omega)) | (go_at_call 110; (with_reducible refine (one_any (w0 := w0) 2 HS.out ci_ (by have := HM0.out; have := HM.out; have := HLEN.out; omega) cb_).mono ?_); rintro e w11 ⟨b2, rfl, hi, hb, hk⟩; obtain ⟨mm_, hm_, hi⟩ := Cur.letter hi; have n0_ := a_ (Cur.keepR ci_ (r_ HO5.out) (by decide) hk); have n1_ := a_ (Cur.keepR ci_ (r_ HO7.out) (by decide) hk); have n2_ := a_ (KeepBut.trans ck_ hk (.inl rfl)); have n3_ := a_ (hb); have n4_ := a_ (hi); have n5_ := a_ ((by have := HM.out; omega : mm_ ≤ m + 10 + 10 * x)); clear HO5 HO7 HK HB HI HM; have HO5 := n0_; have HO7 := n1_; have HK := n2_; have HB := n3_; have HI := n4_; have HM := n5_; clear n0_ n1_ n2_ n3_ n4_ n5_; clear hi hb hk hm_))
    (try simp only [Act.put, List.setIfInBounds_toArray, List.set_cons_zero, List.set_cons_succ])
    go_cut [11] (fun v11 wc => ∃ (bg mm : Int), v11 = .int .i64 bg ∧ Aside0 (mm ≤ m + 10 + 10 * x) ∧ Aside0 (Kd.R k77 77 wc w.heap.size (fun _ => True) u5 h) ∧ Aside0 (Kd.R (Kd.int .i64) 3 wc w.heap.size (fun _ => True) (.slice (some ⟨go7, 0, none⟩) 10 co7) last) ∧ Aside0 (Cur w0 wc g s mm) ∧ Aside0 (KeepBut w wc g none) ∧ Aside0 (Below w0.heap.size w0 wc))
    case first =>
     cases b2 with
     | true =>
      go_wp2_with (first | (go_at_call 111; (with_reducible refine (most_any _ _ _).mono ?_); rintro e w12 ⟨bg0, rfl, hb⟩; have n0_ := a_ (Kd.R_below (r_ HO5.out) hb); have n1_ := a_ (Kd.R_below (r_ HO7.out) hb); have n2_ := a_ (Cur.below ci_ hb); have n3_ := a_ (KeepBut.trans ck_ (KeepBut.of_below hb g none) (.inl rfl)); have n4_ := a_ (below_step cb_ hb); clear HO5 HO7 HI HK HB; have HO5 := n0_; have HO7 := n1_; have HI := n2_; have HK := n3_; have HB := n4_; clear n0_ n1_ n2_ n3_ n4_; clear hb))
      go_meet
      case rel => exact ⟨_, mm_, (by first | rfl | (simp; done) | (simp [*]; done)), HM, ⟨by exact r_ HO5.out⟩, ⟨by exact r_ HO7.out⟩, ⟨ci_⟩, ⟨ck_⟩, ⟨cb_⟩⟩
     | false =>
      go_wp2
      go_meet
      case rel => exact ⟨_, mm_, (by first | rfl | (simp; done) | (simp [*]; done)), HM, ⟨by exact r_ HO5.out⟩, ⟨by exact r_ HO7.out⟩, ⟨ci_⟩, ⟨ck_⟩, ⟨cb_⟩⟩
    case rest =>
     clear HI HB HK HM HO5 HO7 hx7 hf7
     obtain ⟨bg, mm, rfl, HM, HO5, HO7, HI, HK, HB⟩ := hcut
     have HW9 : Aside0 (wrap64 (x + 1) = x + 1) := ⟨by have := HLEN.out; rw [wrap_id] <;> omega⟩
     go_upto_region 15 with (first | (go_at_call 81; (with_reducible refine (pick_any (w0 := w0) 3 HS.out ci_ (by have := HM0.out; have := HM.out; have := HLEN.out; omega) cb_).mono ?_); rintro e w14 ⟨q3, hr_, rfl, hi, hb, hk⟩; have HRq3 := a_ hr_; clear hr_; obtain ⟨mm_, hm_, hi⟩ := Cur.letter hi; have n0_ := a_ (Cur.keepR ci_ (r_ HO5.out) (by decide) hk); have n1_ := a_ (Cur.keepR ci_ (r_ HO7.out) (by decide) hk); have n2_ := a_ (KeepBut.trans ck_ hk (.inl rfl)); have n3_ := a_ (hb); have n4_ := a_ (hi); have n5_ := a_ ((by have := HM.out; omega : mm_ ≤ m + 12 + 10 * x)); clear HO5 HO7 HK HB HI HM; have HO5 := n0_; have HO7 := n1_; have HK := n2_; have HB := n3_; have HI := n4_; have HM := n5_; clear n0_ n1_ n2_ n3_ n4_ n5_; clear hi hb hk hm_) | (go_at_call 111; (with_reducible refine (most_any _ _ _).mono ?_); rintro e w15 ⟨en, rfl, hb⟩; have n0_ := a_ (Kd.R_below (r_ HO5.out) hb); have n1_ := a_ (Kd.R_below (r_ HO7.out) hb); have n2_ := a_ (Cur.below ci_ hb); have n3_ := a_ (KeepBut.trans ck_ (KeepBut.of_below hb g none) (.inl rfl)); have n4_ := a_ (below_step cb_ hb); clear HO5 HO7 HI HK HB; have HO5 := n0_; have HO7 := n1_; have HI := n2_; have HK := n3_; have HB := n4_; clear n0_ n1_ n2_ n3_ n4_; clear hb; obtain ⟨hx8, hf8⟩ := Kd.R_celln 0 HO7.out who (HRwho.out.1) (by have := HRwho.out; omega); have HP := Kd.R_putg HO7.out who (wrap64 (en + 1))))
     go_upto_region 17 with (first | ((with_reducible refine gate_store (t := 3) (p := 53) rfl ?_); refine store_event (t := 3) (p := 53) (v := ?vo_53) (w1 := (w15.setCell ⟨go7, (who : Int).toNat, none⟩ (.int .i64 (wrap64 (en + 1))))) ?hg ?ho ?hn ?hr ?_; (case ho => rfl); (case hg => rfl); (case hn => rfl); (case hr => first | (go_simp; done) | (go_simp; rfl)); intro w16 hw; have hg : w15.grownBy w16 (some go7) := (by rw [hw]; exact HP.2); have hp_ : Kd.R (Kd.int .i64) 3 w16 w.heap.size (fun _ => True) (.slice (some ⟨go7, 0, none⟩) 10 co7) (last.set (who : Int).toNat (wrap64 (en + 1))) := (by rw [hw]; exact HP.1); clear HP; have n0_ := a_ (Kd.R_over' (v := (.slice (some ⟨go7, 0, none⟩) 10 co7)) (r_ HO5.out) (Kd.R_typed HO7.out) (by decide) hg); have n1_ := a_ (hp_); have n2_ := a_ (Cur.grown ci_ hg HO7.out (by decide)); have n3_ := a_ (by rw [hw]; exact below_set HB.out (Nat.le_trans HL.out GB7.out) : Below w0.heap.size w0 w16); have n4_ := a_ (KeepBut.trans ck_ (KeepBut.of_grown hg g) (Kd.R_base2 HO7.out)); clear HO5 HO7 HI HB HK; have HO5 := n0_; have HO7 := n1_; have HI := n2_; have HB := n3_; have HK := n4_; clear n0_ n1_ n2_ n3_ n4_; clear hg hw hp_))
     go_wp2_with (first | (go_at_call 110; (with_reducible refine (one_any (w0 := w0) 2 HS.out ci_ (by have := HM0.out; have := HM.out; have := HLEN.out; omega) cb_).mono ?_); rintro e w17 ⟨b3, rfl, hi, hb, hk⟩; obtain ⟨mm_, hm_, hi⟩ := Cur.letter hi; have n0_ := a_ (Cur.keepR ci_ (r_ HO5.out) (by decide) hk); have n1_ := a_ (Cur.keepR ci_ (r_ HO7.out) (by decide) hk); have n2_ := a_ (KeepBut.trans ck_ hk (.inl rfl)); have n3_ := a_ (hb); have n4_ := a_ (hi); have n5_ := a_ ((by have := HM.out; omega : mm_ ≤ m + 14 + 10 * x)); clear HO5 HO7 HK HB HI HM; have HO5 := n0_; have HO7 := n1_; have HK := n2_; have HB := n3_; have HI := n4_; have HM := n5_; clear n0_ n1_ n2_ n3_ n4_ n5_; clear hi hb hk hm_) | (go_at_call 81; (with_reducible refine (pick_any (w0 := w0) 3 HS.out ci_ (by have := HM0.out; have := HM.out; have := HLEN.out; omega) cb_).mono ?_); rintro e w18 ⟨q5, hr_, rfl, hi, hb, hk⟩; have HRq5 := a_ hr_; clear hr_; obtain ⟨mm_, hm_, hi⟩ := Cur.letter hi; have n0_ := a_ (Cur.keepR ci_ (r_ HO5.out) (by decide) hk); have n1_ := a_ (Cur.keepR ci_ (r_ HO7.out) (by decide) hk); have n2_ := a_ (KeepBut.trans ck_ hk (.inl rfl)); have n3_ := a_ (hb); have n4_ := a_ (hi); have n5_ := a_ ((by have := HM.out; omega : mm_ ≤ m + 16 + 10 * x)); clear HO5 HO7 HK HB HI HM; have HO5 := n0_; have HO7 := n1_; have HK := n2_; have HB := n3_; have HI := n4_; have HM := n5_; clear n0_ n1_ n2_ n3_ n4_ n5_; clear hi hb hk hm_) | ((with_reducible refine gate_builtin (b := .append) (xs := #[.tmp 56, .tmp 66]) rfl ?_); at_builtin; go_loud (refine Kd.R_append k77 w.heap.size rfl (.tmp 56) (.tmp 66) 28 77 (.agg #[(.int .i64 0), (.int .i64 0), (.int .i64 0), (.bool false), (.float .f64 0)]) 40 rfl Try.underlying28 info77 rfl (by decide) (by omega) u5 h (⟨who, bg, en, b3, fofi q5⟩ : S77) [.int .i64 who, .int .i64 bg, .int .i64 en, .bool b3, .float .f64 (fofi q5)] (fun _ => True) (fun _ => False) rfl rfl ?aP (fun _ hk => hk.elim) ?aF ?aO (Below.refl _ _) ?aS ?aL ?_; (case aP => exact k77_mkM _ _ _ (⟨who, bg, en, b3, fofi q5⟩ : S77)); (case aF => exact (fun _ _ => trivial)); (case aO => exact (r_ HO5.out)); (case aS => exact (keep_size (w := w) (g := g) (row := none) ck_)); (case aL => have := HLEN.out; omega); intro v1 w20 ho hb hg hat; have n0_ := a_ (Kd.R_over' (r_ HO7.out) (Kd.R_typed (r_ HO5.out)) (by decide) hg); have n1_ := a_ (Cur.grownV ci_ hg (r_ HO5.out) (by decide)); have n2_ := a_ (below_weaken cb_ HL.out hb); have n3_ := a_ (KeepBut.trans ck_ (KeepBut.of_grown hg g) (Kd.R_base2 HO5.out)); have n4_ := a_ (ho); clear HO7 HI HB HK HO5; have HO7 := n0_; have HI := n1_; have HB := n2_; have HK := n3_; have HO5 := n4_; clear n0_ n1_ n2_ n3_ n4_; clear ho hb hg hat)))
     go_roundg (9 - x.toNat)
     case measure => have := HX.out; have := HLEN.out; omega
     case rel => exact ⟨h ++ [(⟨who, bg, en, b3, fofi q5⟩ : S77)], _, x + 1, last.set (who : Int).toNat (wrap64 (en + 1)), mm_, (by first | rfl | (simp; done) | (simp [*]; done)), (by first | rfl | rw [HW9.out]), ⟨by have := HX.out; have := HLEN.out; rw [List.length_append, List.length_singleton]; omega⟩, ⟨fun c hc => by
      rcases List.mem_append.1 hc with hq | hq
      ·exact HF.out c hq
      ·rw [List.mem_singleton.1 hq]
       exact (fofi_nan _).2⟩, ⟨by rw [List.length_set]; exact HLA.out⟩, ⟨by have := HM.out; omega⟩, ⟨by exact r_ HO5.out⟩, ⟨by exact r_ HO7.out⟩, ⟨ci_⟩, ⟨ck_⟩, ⟨cb_⟩⟩
   ·have c1b : decide (x < many) = false := decide_eq_false c1
    have HLEN : Aside0 (h.length ≤ 9 ∧ 0 ≤ x ∧ x ≤ 9) := ⟨by have := HX.out; have := HRmany.out; omega⟩
    clear c1
    have HMX : Aside0 (mm ≤ m + 96) := ⟨by have := HM.out; have := HLEN.out; omega⟩
    clear HM; have HM := HMX; clear HMX HO7
    obtain ⟨A5, c5, e5⟩ := Kd.R_slice HO5.out
    subst e5
    go_upto_region 18 with (fail)
    go_cut [74] (fun v74 wc => ∃ (bb : Bool) (mm : Int), v74 = .bool bb ∧ Aside0 (bb = true → goodH h = true) ∧ Aside0 (mm ≤ m + 98) ∧ Aside0 (Kd.R k77 77 wc w.heap.size (fun _ => True) (.slice A5 h.length c5) h) ∧ Aside0 (Cur w0 wc g s mm) ∧ Aside0 (KeepBut w wc g none) ∧ Aside0 (Below w0.heap.size w0 wc))
    case first =>
     cases hgd : goodH h with
     | true =>
      go_wp2_with (first | (go_at_call 59; (with_reducible refine (good_is A5 c5 h true _ hgd (by repeat (first | exact (Kd.R_reads' HO5.out).2.2 | (with_reducible refine Kd.C_alloc ?_ _) | (with_reducible refine Kd.C_drewN ?_ _) | (with_reducible refine Kd.C_drew ?_))) ((Kd.R_reads' HO5.out).2.1) HLEN.out.1).mono ?_); rintro e w21 ⟨rfl, hb⟩; have n0_ := a_ (Kd.R_below (r_ HO5.out) hb); have n1_ := a_ (Cur.below ci_ hb); have n2_ := a_ (KeepBut.trans ck_ (KeepBut.of_below hb g none) (.inl rfl)); have n3_ := a_ (below_step cb_ hb); clear HO5 HI HK HB; have HO5 := n0_; have HI := n1_; have HK := n2_; have HB := n3_; clear n0_ n1_ n2_ n3_; clear hb) | (go_at_call 110; (with_reducible refine (one_any (w0 := w0) 4 HS.out ci_ (by have := HM0.out; have := HM.out; omega) cb_).mono ?_); rintro e w22 ⟨b5, rfl, hi, hb, hk⟩; obtain ⟨mm_, hm_, hi⟩ := Cur.letter hi; have n0_ := a_ (Cur.keepR ci_ (r_ HO5.out) (by decide) hk); have n1_ := a_ (KeepBut.trans ck_ hk (.inl rfl)); have n2_ := a_ (hb); have n3_ := a_ (hi); have n4_ := a_ ((by have := HM.out; omega : mm_ ≤ m + 98)); clear HO5 HK HB HI HM; have HO5 := n0_; have HK := n1_; have HB := n2_; have HI := n3_; have HM := n4_; clear n0_ n1_ n2_ n3_ n4_; clear hi hb hk hm_))
      go_meet
      case rel => exact ⟨_, mm_, (by first | rfl | (simp; done) | (simp [*]; done)), ⟨fun _ => hgd⟩, HM, ⟨by exact r_ HO5.out⟩, ⟨ci_⟩, ⟨ck_⟩, ⟨cb_⟩⟩
     | false =>
      go_wp2_with (first | (go_at_call 59; (with_reducible refine (good_is A5 c5 h false _ hgd (by repeat (first | exact (Kd.R_reads' HO5.out).2.2 | (with_reducible refine Kd.C_alloc ?_ _) | (with_reducible refine Kd.C_drewN ?_ _) | (with_reducible refine Kd.C_drew ?_))) ((Kd.R_reads' HO5.out).2.1) HLEN.out.1).mono ?_); rintro e w21 ⟨rfl, hb⟩; have n0_ := a_ (Kd.R_below (r_ HO5.out) hb); have n1_ := a_ (Cur.below ci_ hb); have n2_ := a_ (KeepBut.trans ck_ (KeepBut.of_below hb g none) (.inl rfl)); have n3_ := a_ (below_step cb_ hb); clear HO5 HI HK HB; have HO5 := n0_; have HI := n1_; have HK := n2_; have HB := n3_; clear n0_ n1_ n2_ n3_; clear hb))
      go_meet
      case rel => exact ⟨false, mm, (by first | rfl | (simp; done) | (simp [*]; done)), ⟨fun q => by cases q⟩, ⟨by have := HM.out; omega⟩, ⟨by exact r_ HO5.out⟩, ⟨ci_⟩, ⟨ck_⟩, ⟨cb_⟩⟩
    case rest =>
     clear HI HB HK HM HO5
     obtain ⟨bb, mm, rfl, HBB, HM, HO5, HI, HK, HB⟩ := hcut
     go_upto_if 74 with (fail)
     go_cut [] (fun wc => ∃ (h2 : List S77), Aside0 (h2.length = h.length ∧ flC h2) ∧ Aside0 (Kd.R k77 77 wc w.heap.size (fun _ => True) (.slice A5 h.length c5) h2) ∧ Aside0 (Cur w0 wc g s mm) ∧ Aside0 (KeepBut w wc g none) ∧ Aside0 (Below w0.heap.size w0 wc))
     case first =>
      cases bb with
      | true =>
       have hgd := a_ (HBB.out rfl)
       go_wp2_with (first | ((with_reducible refine gate_dst (N := 77) rfl ?_); refine Kd.R_make (Kd.int .i64) _ 3 rfl (N := 77) rfl 23 _ _ rfl (h.length : Int) rfl rfl Try.underlying23 (.int .i64 0) 8 info3 rfl (by decide) (by omega) 0 (ok := fun _ => True) (okp := fun _ => True) rfl (fun _ hk => hk) trivial (by have := HLEN.out; omega) (by have := HLEN.out; omega) (Below.refl _ _) (Nat.le_refl _) ?_; intro v13 w23 ho hb hg_ hnew_; clear hg_ hnew_; have n0_ := a_ (Kd.R_below (r_ HO5.out) hb); have n1_ := a_ (Kd.R_lower ho (keep_size (w := w) (g := g) (row := none) ck_)); have n2_ := a_ (Cur.below ci_ hb); have n3_ := a_ (KeepBut.trans ck_ (KeepBut.of_below hb g none) (.inl rfl)); have n4_ := a_ (below_step cb_ hb); clear HO5 HI HK HB; have HO5 := n0_; have HO13 := n1_; have HI := n2_; have HK := n3_; have HB := n4_; clear n0_ n1_ n2_ n3_ n4_; clear hb; clear ho; obtain ⟨A13, c13, e13⟩ := Kd.R_slice HO13.out; rw [List.length_replicate, Int.toNat_natCast] at e13; subst e13; have n0_ := a_ (show Kd.R (Kd.int .i64) 3 w23 w.heap.size (fun _ => True) (.slice A13 h.length c13) (List.replicate h.length 0) from by have h1 := HO13.out; rwa [Int.toNat_natCast] at h1); clear HO13; have HO13 := n0_; clear n0_))
       go_loopg [80] (h.length + 1) (fun kq v80 w' => ∃ (xs : List Int) (i : Int), v80 = .int .i64 i ∧ Aside0 (0 ≤ i ∧ i + kq = h.length + 1 ∧ xs.length = h.length) ∧ Aside0 (∀ j : Nat, (j : Int) < i → xs.getD j 0 = (j : Int)) ∧ Aside0 (Kd.R k77 77 w' w.heap.size (fun _ => True) (.slice A5 h.length c5) h) ∧ Aside0 (Kd.R (Kd.int .i64) 3 w' w.heap.size (fun _ => True) (.slice A13 h.length c13) xs) ∧ Aside0 (Cur w0 w' g s mm) ∧ Aside0 (KeepBut w w' g none) ∧ Aside0 (Below w0.heap.size w0 w'))
       case atStart => exact ⟨List.replicate h.length 0, 0, (by first | rfl | (simp; done) | (simp [*]; done)), ⟨by simp⟩, ⟨fun j hj => by omega⟩, ⟨by exact r_ HO5.out⟩, ⟨by exact r_ HO13.out⟩, ⟨ci_⟩, ⟨ck_⟩, ⟨cb_⟩⟩
       case round =>
        clear HI HB HK HO5 HO13
        obtain ⟨xs, i, rfl, HX1, HX2, HO5, HO13, HI, HK, HB⟩ := hrel
        by_cases c2 : i < (h.length : Int)
        ·have c2b : decide (i < (h.length : Int)) = true := decide_eq_true c2
         have p_ : 0 ≤ i := HX1.out.1
         obtain ⟨go13, co13, eo13, gb13, gl13, cl13⟩ := Kd.R_form HO13.out (by have := HX1.out; omega)
         (first | cases eo13 | (injection eo13 with ea_ en_ ec_; (first | subst ea_ | (injection ea_ with ea_; subst ea_)); subst ec_; clear en_))
         have GB13 := a_ gb13; clear gb13 gl13
         obtain ⟨hx9, hf9⟩ := Kd.R_celln 0 HO13.out i p_ c2
         have HP := Kd.R_putg HO13.out i i
         have HW9 : Aside0 (wrap64 (i + 1) = i + 1) := ⟨by have := HX1.out; have := HLEN.out; rw [wrap_id] <;> omega⟩
         have p_t := eq_true p_
         have q_t := eq_true c2
         have p_b := decide_eq_true p_
         go_wp2_with (first | ((with_reducible refine gate_store (t := 3) (p := 86) rfl ?_); refine store_event (t := 3) (p := 86) (v := ?vo_86) (w1 := (wr.setCell ⟨go13, (i : Int).toNat, none⟩ (.int .i64 i))) ?hg ?ho ?hn ?hr ?_; (case ho => rfl); (case hg => rfl); (case hn => rfl); (case hr => first | (go_simp; done) | (go_simp; rfl)); intro w24 hw; have hg : wr.grownBy w24 (some go13) := (by rw [hw]; exact HP.2); have hp_ : Kd.R (Kd.int .i64) 3 w24 w.heap.size (fun _ => True) (.slice (some ⟨go13, 0, none⟩) h.length c13) (xs.set (i : Int).toNat i) := (by rw [hw]; exact HP.1); clear HP; have n0_ := a_ (Kd.R_over' (v := (.slice (some ⟨go13, 0, none⟩) h.length c13)) (r_ HO5.out) (Kd.R_typed HO13.out) (by decide) hg); have n1_ := a_ (hp_); have n2_ := a_ (Cur.grown ci_ hg HO13.out (by decide)); have n3_ := a_ (by rw [hw]; exact below_set HB.out (Nat.le_trans HL.out GB13.out) : Below w0.heap.size w0 w24); have n4_ := a_ (KeepBut.trans ck_ (KeepBut.of_grown hg g) (Kd.R_base2 HO13.out)); clear HO5 HO13 HI HB HK; have HO5 := n0_; have HO13 := n1_; have HI := n2_; have HB := n3_; have HK := n4_; clear n0_ n1_ n2_ n3_ n4_; clear hg hw hp_))
         go_roundg (h.length - i.toNat)
         case measure => have := HX1.out; omega
         case rel => exact ⟨xs.set (i : Int).toNat i, i + 1, (by first | rfl | rw [HW9.out]), ⟨by have := HX1.out; rw [List.length_set]; omega⟩, ⟨fun j hj => by
          have h1 := HX1.out
          by_cases e : j = i.toNat
          ·rw [List.getD_eq_getElem?_getD, e, List.getElem?_set_self (by omega), Option.getD_some]
           omega
          ·rw [List.getD_eq_getElem?_getD, List.getElem?_set_ne (by omega), ← List.getD_eq_getElem?_getD]
           exact HX2.out j (by omega)⟩, ⟨by exact r_ HO5.out⟩, ⟨by exact r_ HO13.out⟩, ⟨ci_⟩, ⟨ck_⟩, ⟨cb_⟩⟩
        ·have c2b : decide (i < (h.length : Int)) = false := decide_eq_false c2
         have HXS : Aside0 (xs.length = h.length ∧ ∀ x ∈ xs, 0 ≤ x ∧ x < (h.length : Int)) := ⟨by
          have h1 := HX1.out
          refine ⟨h1.2.2, fun x hx => ?_⟩
          obtain ⟨j, hj, rfl⟩ := List.getElem_of_mem hx
          have h2 := HX2.out j (by omega)
          have e : xs.getD j 0 = xs[j] := by simp [hj]
          rw [← e, h2]
          omega⟩
         go_wp2_with (first | (go_at_call 61; (with_reducible refine (play_any kind A5 c5 h A13 c13 h.length xs _ (by repeat (first | exact (Kd.R_reads' HO5.out).2.2 | (with_reducible refine Kd.C_alloc ?_ _) | (with_reducible refine Kd.C_drewN ?_ _) | (with_reducible refine Kd.C_drew ?_))) ((Kd.R_reads' HO5.out).2.1) (by repeat (first | exact (Kd.R_reads' HO13.out).2.2 | (with_reducible refine Kd.C_alloc ?_ _) | (with_reducible refine Kd.C_drewN ?_ _) | (with_reducible refine Kd.C_drew ?_))) ((Kd.R_reads' HO13.out).2.1) HLEN.out.1 HF.out HXS.out.1 HXS.out).mono ?_); rintro e w25 ⟨v91, T, rfl, ho, hT, hfT, hb⟩; have HT := a_ hT; have HFT := a_ hfT; have n0_ := a_ (Kd.R_below (r_ HO5.out) hb); have n1_ := a_ (Kd.R_lower ho (keep_size (w := w) (g := g) (row := none) ck_)); have n2_ := a_ (Cur.below ci_ hb); have n3_ := a_ (KeepBut.trans ck_ (KeepBut.of_below hb g none) (.inl rfl)); have n4_ := a_ (below_step cb_ hb); clear HO5 HI HK HB; have HO5 := n0_; have HO91 := n1_; have HI := n2_; have HK := n3_; have HB := n4_; clear n0_ n1_ n2_ n3_ n4_; clear hb; clear ho hT hfT; obtain ⟨A91, c91, e91⟩ := Kd.R_slice HO91.out; rw [HT.out] at e91; subst e91))
         go_loopg [93] (h.length + 1) (fun kq v93 w' => ∃ (h2 : List S77) (i : Int), v93 = .int .i64 i ∧ Aside0 (0 ≤ i ∧ i + kq = h.length + 1 ∧ h2.length = h.length) ∧ Aside0 (flC h2) ∧ Aside0 (Kd.R k77 77 w' w.heap.size (fun _ => True) (.slice A5 h.length c5) h2) ∧ Aside0 (Kd.R Kd.float 55 w' w.heap.size (fun _ => True) (.slice A91 h.length c91) T) ∧ Aside0 (Cur w0 w' g s mm) ∧ Aside0 (KeepBut w w' g none) ∧ Aside0 (Below w0.heap.size w0 w'))
         case atStart => exact ⟨h, 0, (by first | rfl | (simp; done) | (simp [*]; done)), ⟨by simp⟩, ⟨HF.out⟩, ⟨by exact r_ HO5.out⟩, ⟨by exact r_ HO91.out⟩, ⟨ci_⟩, ⟨ck_⟩, ⟨cb_⟩⟩
         case round =>
          clear HI HB HK HO5 HO91 HO13 HX1 HX2 HXS
          obtain ⟨h2, i, rfl, HX1, HF2, HO5, HO91, HI, HK, HB⟩ := hrel
          by_cases c3 : i < (h.length : Int)
          ·have c3b : decide (i < (h.length : Int)) = true := decide_eq_true c3
           have p_ : 0 ≤ i := HX1.out.1
           have q_ := c3
           obtain ⟨go91, co91, eo91, gb91, gl91, cl91⟩ := Kd.R_form HO91.out (by have := HX1.out; have := HT.out; omega)
           (first | cases eo91 | (injection eo91 with ea_ en_ ec_; (first | subst ea_ | (injection ea_ with ea_; subst ea_)); subst ec_; clear en_))
           clear gb91 gl91 cl91
           obtain ⟨hx91, hf91⟩ := Kd.R_celln 0 HO91.out i p_ c3
           have HXV : Aside0 (rdOf 0 T i < 18446744073709551616) := ⟨by
            have h1 : i.toNat < T.length := by have := HT.out; omega
            have e : rdOf 0 T i = T[i.toNat] := by simp [rdOf, h1]
            rw [e]
            exact HFT.out _ (List.getElem_mem h1)⟩
           obtain ⟨go28, co28, eo28, gb28, gl28, cl28, HG28⟩ := Kd.R_form HO5.out (by first | exact HPOS.out.1 | (have := HX1.out; omega))
           (first | cases eo28 | (injection eo28 with ea_ en_ ec_; (first | subst ea_ | (injection ea_ with ea_; subst ea_)); subst ec_; clear en_))
           have GB28 := a_ gb28; clear gb28 gl28 HG28
           have HX28 := a_ (show Kd.R k77 77 wr w.heap.size (fun _ => True) (.slice (some ⟨go28, 0, none⟩) h.length c5) h2 from (r_ HO5.out))
           obtain ⟨ce28, hcl28, hM28, hcc28, hfr28⟩ := Kd.R_elem HX28.out z77 i p_ q_
           obtain rfl := k77_openM hM28
           have HP28 := Kd.R_seg HX28.out i p_ q_ (seg := [.float .f64 (rdOf 0 T i)]) (j := 4) hcl28 hcc28 (show 5 ≤ 5 from by decide) (x' := (⟨(rd_T77 h2 i).f0, (rd_T77 h2 i).f1, (rd_T77 h2 i).f2, (rd_T77 h2 i).f3, (rdOf 0 T i)⟩ : S77)) (k77_mkM _ _ _ (⟨(rd_T77 h2 i).f0, (rd_T77 h2 i).f1, (rd_T77 h2 i).f2, (rd_T77 h2 i).f3, (rdOf 0 T i)⟩ : S77)) (fun _ hk => hk)
           have hx28 := hcc28 4 _ rfl
           (try simp only [show (k77).sz = 5 from rfl, Nat.mul_one, Nat.add_zero] at hx28)
           have hf28 := hfr28 4
           (try simp only [show (k77).sz = 5 from rfl, Nat.mul_one, Nat.add_zero] at hf28)
           clear hcl28 hcc28 hfr28; (try clear hM28)
           have HW9 : Aside0 (wrap64 (i + 1) = i + 1) := ⟨by have := HX1.out; have := HLEN.out; rw [wrap_id] <;> omega⟩
           have p_t := eq_true p_
           have q_t := eq_true q_
           have p_b := decide_eq_true p_
           go_wp2_with (first | ((with_reducible refine gate_store (t := 55) (p := 102) rfl ?_); refine store_event (t := 55) (p := 102) (v := ?vo_102) (w1 := (wr.setCell ⟨go28, (i : Int).toNat * 5 + 4, none⟩ (.float .f64 (rdOf 0 T i)))) ?hg ?ho ?hn ?hr ?_; (case ho => rfl); (case hg => rfl); (case hn => rfl); (case hr => first | (go_simp; done) | (go_simp; rfl)); intro w28 hw; have hg : wr.grownBy w28 (some go28) := (by rw [hw]; exact HP28.2); have hp_ : Kd.R k77 77 w28 w.heap.size (fun _ => True) (.slice (some ⟨go28, 0, none⟩) h.length c5) (h2.set (i : Int).toNat (⟨(rd_T77 h2 i).f0, (rd_T77 h2 i).f1, (rd_T77 h2 i).f2, (rd_T77 h2 i).f3, (rdOf 0 T i)⟩ : S77)) := (by rw [hw]; exact HP28.1); clear HP28; have n0_ := a_ (Kd.R_over' (v := (.slice (some ⟨go28, 0, none⟩) h.length c5)) (r_ HO91.out) (Kd.R_typed HO5.out) (by decide) hg); have n1_ := a_ (Cur.grown ci_ hg HO5.out (by decide)); have n2_ := a_ (by rw [hw]; exact below_set HB.out (Nat.le_trans HL.out GB28.out) : Below w0.heap.size w0 w28); have n3_ := a_ (KeepBut.trans ck_ (KeepBut.of_grown hg g) (Kd.R_base2 HO5.out)); have n4_ := a_ (hp_); clear HO91 HI HB HK HO5; have HO91 := n0_; have HI := n1_; have HB := n2_; have HK := n3_; have HO5 := n4_; clear n0_ n1_ n2_ n3_ n4_; clear hg hw hp_))
           go_roundg (h.length - i.toNat)
           case measure => have := HX1.out; omega
           case rel => exact ⟨h2.set (i : Int).toNat (⟨(rd_T77 h2 i).f0, (rd_T77 h2 i).f1, (rd_T77 h2 i).f2, (rd_T77 h2 i).f3, (rdOf 0 T i)⟩ : S77), i + 1, (by first | rfl | rw [HW9.out]), ⟨by have := HX1.out; rw [List.length_set]; omega⟩, ⟨flC_set HF2.out HXV.out⟩, ⟨by exact r_ HO5.out⟩, ⟨by exact r_ HO91.out⟩, ⟨ci_⟩, ⟨ck_⟩, ⟨cb_⟩⟩
          ·have c3b : decide (i < (h.length : Int)) = false := decide_eq_false c3
           go_wp2
           go_meet
           case rel => exact ⟨h2, ⟨HX1.out.2.2, HF2.out⟩, ⟨by exact r_ HO5.out⟩, ⟨ci_⟩, ⟨ck_⟩, ⟨cb_⟩⟩
      | false =>
       go_wp2
       go_meet
       case rel => exact ⟨h, ⟨rfl, HF.out⟩, ⟨by exact r_ HO5.out⟩, ⟨ci_⟩, ⟨ck_⟩, ⟨cb_⟩⟩
     case rest =>
      clear HI HB HK HO5
      obtain ⟨h2, HF2, HO5, HI, HK, HB⟩ := hcut
      go_upto_region 30 with (fail)
      go_cut [110] (fun v110 wc => ∃ (bb2 : Bool) (mm : Int), v110 = .bool bb2 ∧ Aside0 (bb2 = true → 0 < h2.length) ∧ Aside0 (mm ≤ m + 100) ∧ Aside0 (Kd.R k77 77 wc w.heap.size (fun _ => True) (.slice A5 h.length c5) h2) ∧ Aside0 (Cur w0 wc g s mm) ∧ Aside0 (KeepBut w wc g none) ∧ Aside0 (Below w0.heap.size w0 wc))
      case first =>
       by_cases c4 : (0 : Int) < (h.length : Int)
       ·have c4b : decide ((0 : Int) < (h.length : Int)) = true := decide_eq_true c4
        go_wp2_with (first | (go_at_call 110; (with_reducible refine (one_any (w0 := w0) 12 HS.out ci_ (by have := HM0.out; have := HM.out; have := HLEN.out; omega) cb_).mono ?_); rintro e w29 ⟨b6, rfl, hi, hb, hk⟩; obtain ⟨mm_, hm_, hi⟩ := Cur.letter hi; have n0_ := a_ (Cur.keepR ci_ (r_ HO5.out) (by decide) hk); have n1_ := a_ (KeepBut.trans ck_ hk (.inl rfl)); have n2_ := a_ (hb); have n3_ := a_ (hi); have n4_ := a_ ((by have := HM.out; omega : mm_ ≤ m + 100)); clear HO5 HK HB HI HM; have HO5 := n0_; have HK := n1_; have HB := n2_; have HI := n3_; have HM := n4_; clear n0_ n1_ n2_ n3_ n4_; clear hi hb hk hm_))
        go_meet
        case rel => exact ⟨_, mm_, (by first | rfl | (simp; done) | (simp [*]; done)), ⟨fun _ => by have := HF2.out.1; omega⟩, HM, ⟨by exact r_ HO5.out⟩, ⟨ci_⟩, ⟨ck_⟩, ⟨cb_⟩⟩
       ·have c4b : decide ((0 : Int) < (h.length : Int)) = false := decide_eq_false c4
        go_wp2_with (fail)
        go_meet
        case rel => exact ⟨false, mm, (by first | rfl | (simp; done) | (simp [*]; done)), ⟨fun q => by cases q⟩, ⟨by have := HM.out; omega⟩, ⟨by exact r_ HO5.out⟩, ⟨ci_⟩, ⟨ck_⟩, ⟨cb_⟩⟩
      case rest =>
       clear HI HB HK HM HO5
       obtain ⟨bb2, mm, rfl, HB2, HM, HO5, HI, HK, HB⟩ := hcut
       go_upto_if 110 with (fail)
       go_cut [] (fun wc => ∃ (h3 : List S77) (mm : Int), Aside0 (h3.length = h.length ∧ flC h3) ∧ Aside0 (mm ≤ m + 108) ∧ Aside0 (Kd.R k77 77 wc w.heap.size (fun _ => True) (.slice A5 h.length c5) h3) ∧ Aside0 (Cur w0 wc g s mm) ∧ Aside0 (KeepBut w wc g none) ∧ Aside0 (Below w0.heap.size w0 wc))
       case first =>
        cases bb2 with
        | true =>
         have HPOS : Aside0 (0 < h2.length ∧ h2.length = h.length ∧ h.length ≤ 9) := ⟨HB2.out rfl, HF2.out.1, HLEN.out.1⟩
         obtain ⟨go27, co27, eo27, gb27, gl27, cl27, HG27⟩ := Kd.R_form HO5.out (by first | exact HPOS.out.1 | (have := HX1.out; omega))
         (first | cases eo27 | (injection eo27 with ea_ en_ ec_; (first | subst ea_ | (injection ea_ with ea_; subst ea_)); subst ec_; clear en_))
         have GB27 := a_ gb27; clear gb27 gl27 HG27
         go_wp2_with (first | (go_at_call 81; (with_reducible refine (pick_any (w0 := w0) (h.length : Int) HS.out ci_ (by have := HM0.out; have := HM.out; have := HLEN.out; have := HPOS.out; omega) cb_).mono ?_); rintro e w26 ⟨pk, hr_, rfl, hi, hb, hk⟩; have HRpk := a_ hr_; clear hr_; obtain ⟨mm_, hm_, hi⟩ := Cur.letter hi; have n0_ := a_ (Cur.keepR ci_ (r_ HO5.out) (by decide) hk); have n1_ := a_ (KeepBut.trans ck_ hk (.inl rfl)); have n2_ := a_ (hb); have n3_ := a_ (hi); have n4_ := a_ ((by have := HM.out; omega : mm_ ≤ m + 102)); clear HO5 HK HB HI HM; have HO5 := n0_; have HK := n1_; have HB := n2_; have HI := n3_; have HM := n4_; clear n0_ n1_ n2_ n3_ n4_; clear hi hb hk hm_; have p_ : 0 ≤ pk := HRpk.out.1; have q_ : pk < (h.length : Int) := HRpk.out.2 (by have := HPOS.out; omega); have p_t := eq_true p_; have q_t := eq_true q_; have p_b := decide_eq_true p_; have q_b := decide_eq_true q_) | (go_at_call 101; (with_reducible refine (num_any (w0 := w0) HS.out ci_ (by have := HM0.out; have := HM.out; omega) cb_).mono ?_); rintro e w27 ⟨x27, hr_, rfl, hi, hb, hk⟩; have HXV27 := a_ hr_; clear hr_; obtain ⟨mm_, hm_, hi⟩ := Cur.letter hi; have n0_ := a_ (Cur.keepR ci_ (r_ HO5.out) (by decide) hk); have n1_ := a_ (KeepBut.trans ck_ hk (.inl rfl)); have n2_ := a_ (hb); have n3_ := a_ (hi); have n4_ := a_ ((by have := HM.out; omega : mm_ ≤ m + 108)); clear HO5 HK HB HI HM; have HO5 := n0_; have HK := n1_; have HB := n2_; have HI := n3_; have HM := n4_; clear n0_ n1_ n2_ n3_ n4_; clear hi hb hk hm_; have HX27 := a_ (show Kd.R k77 77 w27 w.heap.size (fun _ => True) (.slice (some ⟨go27, 0, none⟩) h.length c5) h2 from (r_ HO5.out)); obtain ⟨ce27, hcl27, hM27, hcc27, hfr27⟩ := Kd.R_elem HX27.out z77 pk p_ q_; obtain rfl := k77_openM hM27; have HP27 := Kd.R_seg HX27.out pk p_ q_ (seg := [.float .f64 x27]) (j := 4) hcl27 hcc27 (show 5 ≤ 5 from by decide) (x' := (⟨(rd_T77 h2 pk).f0, (rd_T77 h2 pk).f1, (rd_T77 h2 pk).f2, (rd_T77 h2 pk).f3, x27⟩ : S77)) (k77_mkM _ _ _ (⟨(rd_T77 h2 pk).f0, (rd_T77 h2 pk).f1, (rd_T77 h2 pk).f2, (rd_T77 h2 pk).f3, x27⟩ : S77)) (fun _ hk => hk); have hx27 := hcc27 4 _ rfl; (try simp only [show (k77).sz = 5 from rfl, Nat.mul_one, Nat.add_zero] at hx27); have hf27 := hfr27 4; (try simp only [show (k77).sz = 5 from rfl, Nat.mul_one, Nat.add_zero] at hf27); clear hcl27 hcc27 hfr27; (try clear hM27)) | ((with_reducible refine gate_store (t := 55) (p := 119) rfl ?_); refine store_event (t := 55) (p := 119) (v := ?vo_119) (w1 := (w27.setCell ⟨go27, (pk : Int).toNat * 5 + 4, none⟩ (.float .f64 x27))) ?hg ?ho ?hn ?hr ?_; (case ho => rfl); (case hg => rfl); (case hn => rfl); (case hr => first | (go_simp; done) | (go_simp; rfl)); intro w30 hw; have hg : w27.grownBy w30 (some go27) := (by rw [hw]; exact HP27.2); have hp_ : Kd.R k77 77 w30 w.heap.size (fun _ => True) (.slice (some ⟨go27, 0, none⟩) h.length c5) (h2.set (pk : Int).toNat (⟨(rd_T77 h2 pk).f0, (rd_T77 h2 pk).f1, (rd_T77 h2 pk).f2, (rd_T77 h2 pk).f3, x27⟩ : S77)) := (by rw [hw]; exact HP27.1); clear HP27; have n0_ := a_ (Cur.grown ci_ hg HO5.out (by decide)); have n1_ := a_ (by rw [hw]; exact below_set HB.out (Nat.le_trans HL.out GB27.out) : Below w0.heap.size w0 w30); have n2_ := a_ (KeepBut.trans ck_ (KeepBut.of_grown hg g) (Kd.R_base2 HO5.out)); have n3_ := a_ (hp_); clear HI HB HK HO5; have HI := n0_; have HB := n1_; have HK := n2_; have HO5 := n3_; clear n0_ n1_ n2_ n3_; clear hg hw hp_))
         go_meet
         case rel => exact ⟨h2.set (pk : Int).toNat (⟨(rd_T77 h2 pk).f0, (rd_T77 h2 pk).f1, (rd_T77 h2 pk).f2, (rd_T77 h2 pk).f3, x27⟩ : S77), mm_, ⟨by have := HPOS.out; rw [List.length_set]; omega, flC_set HF2.out.2 HXV27.out⟩, HM, ⟨by exact r_ HO5.out⟩, ⟨ci_⟩, ⟨ck_⟩, ⟨cb_⟩⟩
        | false =>
         go_wp2
         go_meet
         case rel => exact ⟨h2, mm, HF2, ⟨by have := HM.out; omega⟩, ⟨by exact r_ HO5.out⟩, ⟨ci_⟩, ⟨ck_⟩, ⟨cb_⟩⟩
       case rest =>
        clear HI HB HK HM HO5
        obtain ⟨h3, mm, HF3, HM, HO5, HI, HK, HB⟩ := hcut
        go_wp2
        go_ret
        exact ⟨_, rfl, h3, by exact r_ HO5.out, by have := HF3.out.1; have := HLEN.out.1; omega, HF3.out.2, ⟨mm, by have := HM.out; omega, ci_⟩, cb_, ck_⟩

end Go.Proofs.Ythdpiceiemkjlaa.Pure

-- Printed by wip/tools/print2.py out of the translation: walks and plain functions; Lean checks them.
import Derived.Test.YtpfbiopcfbokbaaGNewPairsx0
import Derived.Test.YtpfbiopcfbokbaaGNewPairsx2
import Derived.Test.YtpfbiopcfbokbaaGNewPairsx6
namespace Go.Proofs.Ytpfbiopcfbokbaa.GNewPairs
open Go.RowKit Go.Proofs.YtpfbiopcfbokbaaW.PrintWords Go.Proofs.YtpfbiopcfbokbaaW.PrintLast Go.Proofs.YtpfbiopcfbokbaaW.PrintMore
attribute [local go_sem] max2_int min2_int max_two min_two max_three min_three max_four min_four   -- for this text's walks alone
set_option linter.unusedVariables false
set_option linter.unusedSimpArgs false

/-! ### impl_NewPairs_1: the closure of impl_NewPairs (by hand) -/
set_option maxHeartbeats 8000000 in
set_option maxRecDepth 100000 in
theorem impl_NewPairs.one (k : Nat) (g : Nat) (A : Option Addr) (c : Nat) (l : List S105) (a0 a1 a2 : Int) (r : Bool) (w : World) (hcell : w.cell? ⟨g, 0, none⟩ = some (.slice A l.length c)) (hr : Kd.C k105 w A l.length l) (hc : l.length ≤ c) (h : impl_Pair_81.f k l a0 a1 a2 = some r) :
    Calls Try.prog 80 #[.agg #[.int .i64 a0, .int .i64 a1, .int .i64 a2], .pointer (some ⟨g, 0, none⟩)] w fun e w' => e = .returned (.bool r) ∧ Below w.heap.size w w' := by
  have hu105 := Try.underlying105
  have HR := Aside0.mk hr
  have HC := Aside0.mk hc
  have HH := Aside0.mk h
  clear hr hc h
  go_enter Try.func80, Try.ntmps80
  go_wp2_with (first
    | ((with_reducible refine gate_dst (N := 2) rfl ?_); refine box_event ?hg (N := 2) ?hd (cs := #[.int .i64 a0, .int .i64 a1, .int .i64 a2]) (t := 105) ?hr ?_; (case hd => rfl); (case hg => rfl); (case hr => first | (go_simp; done) | (go_simp; rfl)); intro gb hg w5 hbox hb; have HB := Aside0.mk hb; have hx0 : w5.cell? ⟨g, 0, none⟩ = some (.slice A l.length c) := (hb.cell (World.block_lt_of_cell? w _ hcell)).trans hcell; clear hcell; have XR := Aside0.mk (Kd.C_below HR.out hb); have hcz0 : w5.cell? ⟨gb, 0, none⟩ = some (.int .i64 a0) := (blk_cell hbox 0).trans rfl; have hcz1 : w5.cell? ⟨gb, 1, none⟩ = some (.int .i64 a1) := (blk_cell hbox 1).trans rfl; have hcz2 : w5.cell? ⟨gb, 2, none⟩ = some (.int .i64 a2) := (blk_cell hbox 2).trans rfl; have hfz0 := blk_frozen hbox 0; clear hb hbox hg HR)
    | ((with_reducible refine gate_callee (f := 81) rfl ?_); refine goesL_ (some 6) rfl rfl Try.func81 (by kernel_rfl) rfl #[.slice A l.length c, .agg #[.int .i64 a0, .int .i64 a1, .int .i64 a2]] rfl (by (try simp only [List.map_toArray, List.map_cons, List.map_nil]); first | done | rfl) ?_; (with_reducible refine (impl_Pair_81.calls k _ _ l a0 a1 a2 r _ XR.out HC.out HH.out).mono ?_); rintro e w6 ⟨rfl, hb⟩; refine ⟨_, rfl, ?_⟩; have HB2 := Aside0.mk (below_step HB.out hb); clear hb hx0 hcz0 hcz1 hcz2 hfz0 XR))
  go_ret
  exact ⟨rfl, HB2.out⟩
/-! ### slices.IndexFunc over the closure (by hand) -/
def impl_NewPairs.idx (k : Nat) (l : List S105) : List S105 → Nat → Option Int
  | [], _ => some (-1)
  | x :: r, i => (impl_Pair_81.f k l x.f0 x.f1 x.f2).bind fun b => if b = true then some (i : Int) else impl_NewPairs.idx k l r (i + 1)
set_option maxHeartbeats 8000000 in
set_option maxRecDepth 100000 in
theorem impl_NewPairs.index (k : Nat) (g : Nat) (A : Option Addr) (c : Nat) (l : List S105) (As : Option Addr) (cs : Nat) (xs : List S105) (r : Int) (w : World) (hcell : w.cell? ⟨g, 0, none⟩ = some (.slice A l.length c)) (hr : Kd.C k105 w A l.length l) (hc : l.length ≤ c)
    (hs : Kd.C k105 w As xs.length xs) (hl : xs.length ≤ 4611686018427387904) (h : impl_NewPairs.idx k l xs 0 = some r) :
    Calls Try.prog 124 #[.slice As xs.length cs, .func (.func 80) #[] #[.pointer (some ⟨g, 0, none⟩)]] w fun e w' => e = .returned (.int .i64 r) ∧ Below w.heap.size w w' := by
  have HR := Aside0.mk hr
  have HC := Aside0.mk hc
  have HS := Aside0.mk hs
  have HL := Aside0.mk hl
  have HX := Aside0.mk hcell
  have H' := Aside0.mk h
  have HB := Aside0.mk (Below.refl w.heap.size w)
  clear hr hc hs hl hcell h
  go_enter Try.func124, Try.ntmps124
  go_wp2
  go_loopg [8] xs.length (fun kq v8 w' => ∃ (x8_1 : Int), v8 = .int .i64 x8_1 ∧ Aside0 (impl_NewPairs.idx k l (xs.drop x8_1.toNat) x8_1.toNat = some r) ∧ Aside0 (0 ≤ x8_1 ∧ kq + x8_1.toNat = xs.length) ∧ Aside0 (Below w.heap.size w w'))
  case atStart => exact ⟨0, rfl, H', ⟨by omega⟩, HB⟩
  case round =>
    clear H' HB
    obtain ⟨x8_1, rfl, HA, HK1, HB⟩ := hrel
    have h50 := HK1.out.1
    by_cases c3 : x8_1 < (xs.length : Int)
    · have c3b0 : decide (x8_1 < (xs.length : Int)) = true := decide_eq_true c3
      obtain ⟨ad, e_, hx0, hx1, hx2⟩ := at_T105 HS.out x8_1 h50 c3
      cases e_
      replace hx0 := (HB.out.cell (World.block_lt_of_cell? w _ hx0)).trans hx0
      replace hx1 := (HB.out.cell (World.block_lt_of_cell? w _ hx1)).trans hx1
      replace hx2 := (HB.out.cell (World.block_lt_of_cell? w _ hx2)).trans hx2
      have e1 : xs.drop x8_1.toNat = rd_T105 xs x8_1 :: xs.drop (x8_1.toNat + 1) := by
        unfold rd_T105
        rw [List.drop_eq_getElem_cons (by omega), List.getD_eq_getElem?_getD, List.getElem?_eq_getElem (by omega), Option.getD_some]
      have H := HA.out
      rw [e1] at H
      unfold impl_NewPairs.idx at H
      obtain ⟨b, A60, H⟩ := Option.bind_eq_some_iff.mp H
      have A6 := Aside0.mk A60
      have H' := Aside0.mk H
      have HI := Aside0.mk c3
      clear A60 H HA e1
      have p5 := eq_true h50
      have q5 : (x8_1 < (xs.length : Int)) = True := eq_true c3
      have XX := Aside0.mk ((HB.out.cell (World.block_lt_of_cell? w _ HX.out)).trans HX.out)
      clear h50 c3
      cases b with
      | true =>
        go_wp2_with (first | (go_at_call 80; (with_reducible refine (impl_NewPairs.one k g A c l _ _ _ true _ XX.out (Kd.C_below HR.out HB.out) HC.out A6.out).mono ?_); rintro e w6_ ⟨rfl, hb⟩; have HB2 := Aside0.mk (below_step HB.out hb); clear hb hx0 hx1 hx2))
        have hr_ : (x8_1.toNat : Int) = r := Option.some.inj (by have h_ := H'.out; first | rwa [if_pos trivial] at h_ | rwa [if_pos rfl] at h_)
        have hx_ : x8_1 = r := by have := HK1.out.1; omega
        subst hx_
        go_ret
        exact ⟨rfl, HB2.out⟩
      | false =>
        go_wp2_with (first | (go_at_call 80; (with_reducible refine (impl_NewPairs.one k g A c l _ _ _ false _ XX.out (Kd.C_below HR.out HB.out) HC.out A6.out).mono ?_); rintro e w6_ ⟨rfl, hb⟩; have HB2 := Aside0.mk (below_step HB.out hb); clear hb hx0 hx1 hx2))
        have hw5 : wrap64 (x8_1 + 1) = x8_1 + 1 := by have := HI.out; have := HL.out; have := HK1.out; unfold wrap64; omega
        have ht5 : (x8_1 + 1).toNat = x8_1.toNat + 1 := by have := HK1.out; omega
        go_roundg (gk - 1)
        case measure => have := HI.out; have := HK1.out; omega
        case rel => exact ⟨x8_1 + 1, congrArg (Value.int .i64) hw5, ⟨by rw [ht5]; have h_ := H'.out; first | rwa [if_neg (by simp)] at h_ | simpa using h_⟩, ⟨by have := HI.out; have := HK1.out; omega⟩, HB2⟩
    · have c3b0 : decide (x8_1 < (xs.length : Int)) = false := decide_eq_false c3
      have H := HA.out
      rw [List.drop_eq_nil_of_le (by omega)] at H
      have hr_ : (-1 : Int) = r := Option.some.inj H
      clear c3 HA H h50
      subst hr_
      go_wp2
      go_ret
      exact ⟨rfl, HB.out⟩
/-! ### slices.DeleteFunc over the closure (by hand) -/
def impl_NewPairs.flt (k : Nat) (l : List S105) : List S105 → Option (List S105)
  | [] => some []
  | x :: r => (impl_Pair_81.f k l x.f0 x.f1 x.f2).bind fun b => (impl_NewPairs.flt k l r).bind fun t => some (if b = true then t else x :: t)
theorem impl_NewPairs.flt_idx (k : Nat) (l : List S105) : ∀ (xs r : List S105) (i : Nat), impl_NewPairs.flt k l xs = some r →
    (impl_NewPairs.idx k l xs i = some (-1) ∧ r = xs) ∨ (∃ j t, j < xs.length ∧ impl_NewPairs.idx k l xs i = some (((i + j : Nat) : Int)) ∧ impl_NewPairs.flt k l (xs.drop (j + 1)) = some t ∧ r = xs.take j ++ t)
  | [], r, i, h => by
    unfold impl_NewPairs.flt at h
    cases h
    exact .inl ⟨rfl, rfl⟩
  | x :: xs, r, i, h => by
    unfold impl_NewPairs.flt at h
    obtain ⟨b, hb, h⟩ := Option.bind_eq_some_iff.mp h
    obtain ⟨t, ht, h⟩ := Option.bind_eq_some_iff.mp h
    have h := Option.some.inj h
    unfold impl_NewPairs.idx
    rw [hb, Option.bind_some]
    cases b with
    | true =>
      have h' : t = r := h
      exact .inr ⟨0, t, by simp, by simp, by simpa using ht, by simp [h']⟩
    | false =>
      have h' : x :: t = r := h
      simp only [Bool.false_eq_true, if_false]
      rcases impl_NewPairs.flt_idx k l xs t (i + 1) ht with ⟨h1, h2⟩ | ⟨j, t2, h1, h2, h3, h4⟩
      · exact .inl ⟨h1, by rw [← h', h2]⟩
      · refine .inr ⟨j + 1, t2, by simp; omega, ?_, by simpa using h3, by rw [← h', h4]; simp⟩
        rw [h2]; congr 2; omega
theorem impl_NewPairs.cut {W : World} {base g n cap : Nat} {ok : Nat → Prop} {ys : List S105} (h : Kd.R k105 105 W base ok (.slice (some ⟨g, 0, none⟩) n cap) ys) (i : Nat) (hi : i ≤ n) (seg : List Value) (hs : i * 3 + seg.length ≤ cap * 3) :
    Kd.R k105 105 (W.setCells g (i * 3) seg) base ok (.slice (some ⟨g, 0, none⟩) i cap) (ys.take i) := by
  have hn := (Kd.R_reads' h).1
  obtain ⟨hok, inner, hown, hreps⟩ := h
  rcases hown.2 with ⟨hv, _⟩ | ⟨g', cap', cur, hv, hbg, hg, hnc, hc, hsz, ht⟩
  · cases hv
  injection hv with ha _ hcc
  injection ha with ha
  injection ha with hgg
  subst hgg; subst hcc
  obtain ⟨cur', h3, h4, h5⟩ := setCells_row seg (i * 3) W cur hg (by
    have : cur.size = cap * 3 := hsz
    omega)
  have hil : i ≤ ys.length := by omega
  have hin : inner.length = ys.length * 3 := hown.1
  have hlen : (ys.take i).length = i := by rw [List.length_take]; omega
  refine ⟨hok, inner.take (i * 3), ⟨?_, .inr ⟨g, cap, cur', by rw [hlen], hbg, h3, by rw [hlen]; omega, hc, by rw [h4]; exact hsz, ?_⟩⟩, ?_⟩
  · rw [List.length_take, hin, hlen, Nat.min_eq_left (by omega)]
    rfl
  · have hct : cur.toList.take (ys.length * 3) = inner := ht
    show cur'.toList.take ((ys.take i).length * 3) = _
    rw [hlen, h5, List.append_assoc, List.take_append_of_le_length (by rw [List.length_take, Array.length_toList]; have : cur.size = cap * 3 := hsz; omega), List.take_take, Nat.min_self, ← hct, List.take_take, Nat.min_eq_left (by omega)]
  · obtain ⟨hl, hr⟩ := hreps
    refine ⟨by rw [List.length_take, hlen]; show min (i * 3) inner.length = i * 3; omega, fun q x hq => ?_⟩
    have hqi : q < i := by have := (List.getElem?_eq_some_iff.1 hq).1; omega
    rw [List.getElem?_take_of_lt hqi] at hq
    have h6 := hr q x hq
    have h7 := k105_openM h6
    have h8 : (((inner.take (i * 3)).drop (q * 3)).take 3) = ((inner.drop (q * 3)).take 3) := by
      rw [List.drop_take, List.take_take, Nat.min_eq_left (by omega)]
    show (k105).M _ _ _ x (((inner.take (i * 3)).drop (q * 3)).take 3)
    rw [h8]
    have h7' : (inner.drop (q * 3)).take 3 = _ := h7
    rw [h7']
    exact k105_mkM _ _ _ x
theorem impl_NewPairs.get3 {W : World} {base g n cap : Nat} {ok : Nat → Prop} {ys : List S105} (h : Kd.R k105 105 W base ok (.slice (some ⟨g, 0, none⟩) n cap) ys) (j : Int) (h0 : 0 ≤ j) (hj : j < n) :
    W.cell? ⟨g, j.toNat * 3, none⟩ = some (.int .i64 (rd_T105 ys j).f0) ∧ W.cell? ⟨g, j.toNat * 3 + 1, none⟩ = some (.int .i64 (rd_T105 ys j).f1) ∧ W.cell? ⟨g, j.toNat * 3 + 2, none⟩ = some (.int .i64 (rd_T105 ys j).f2) ∧
      W.frozen? ⟨g, j.toNat * 3, none⟩ = false ∧ W.frozen? ⟨g, j.toNat * 3 + 1, none⟩ = false ∧ W.frozen? ⟨g, j.toNat * 3 + 2, none⟩ = false := by
  obtain ⟨c, h1, h2, h3, h4⟩ := Kd.R_elem h z105 j h0 hj
  obtain rfl := k105_openM h2
  exact ⟨h3 0 _ rfl, h3 1 _ rfl, h3 2 _ rfl, h4 0, h4 1, h4 2⟩
theorem impl_NewPairs.put3 {W : World} {base g n cap : Nat} {ok : Nat → Prop} {ys : List S105} (h : Kd.R k105 105 W base ok (.slice (some ⟨g, 0, none⟩) n cap) ys) (j : Int) (h0 : 0 ≤ j) (hj : j < n) (x : S105) :
    Kd.R k105 105 (((W.setCell ⟨g, j.toNat * 3, none⟩ (.int .i64 x.f0)).setCell ⟨g, j.toNat * 3 + 1, none⟩ (.int .i64 x.f1)).setCell ⟨g, j.toNat * 3 + 2, none⟩ (.int .i64 x.f2)) base ok (.slice (some ⟨g, 0, none⟩) n cap) (ys.set j.toNat x) := by
  obtain ⟨c, h1, h2, h3, h4⟩ := Kd.R_elem h z105 j h0 hj
  have h1' : c.length = 3 := h1
  have hs : c.take 0 ++ [Value.int .i64 x.f0, .int .i64 x.f1, .int .i64 x.f2] ++ c.drop (0 + [Value.int .i64 x.f0, .int .i64 x.f1, .int .i64 x.f2].length) = [Value.int .i64 x.f0, .int .i64 x.f1, .int .i64 x.f2] := by
    rw [List.drop_eq_nil_of_le (by simp [h1'])]; rfl
  have := (Kd.R_seg (seg := [Value.int .i64 x.f0, .int .i64 x.f1, .int .i64 x.f2]) (j := 0) (x' := x) (okp := fun k_ => ok k_ ∧ k_ ≠ g) h j h0 hj h1 h3 (show 0 + 3 ≤ 3 by decide) (by rw [hs]; exact k105_mkM _ _ _ x) (fun _ hk => hk)).1
  exact this
theorem impl_NewPairs.clr {g o n cap : Nat} {cur : Array Value} {e : TypeId} (W : World) (hg : W.heap[g]? = some (.cells cur e (0, 0))) (hn : o * 3 + n * 3 ≤ cur.size) (hp : 0 < n) (ty : TypeId) :
    (Builtin.clear_ #[46] ty #[.slice (some ⟨g, o * 3, none⟩) n cap]).run Try.prog W = .ok (.tuple #[]) (W.setCells g (o * 3) (Builtin.zeroCells #[.int .i64 0, .int .i64 0, .int .i64 0] n).toList) := by
  obtain ⟨m, rfl⟩ : ∃ m, n = m + 1 := ⟨n - 1, by omega⟩
  have hzl : (Builtin.zeroCells #[.int .i64 0, .int .i64 0, .int .i64 0] (m + 1)).size = (m + 1) * 3 := by simp [Builtin.zeroCells]
  have h1 : ∀ v ∈ (Builtin.zeroCells #[.int .i64 0, .int .i64 0, .int .i64 0] (m + 1)).toList, v.oneCell' = true := by
    intro v hv
    unfold Builtin.zeroCells at hv
    rw [Array.toList_map, List.mem_map] at hv
    obtain ⟨i, hi, rfl⟩ := hv
    have hlt : i % 3 < 3 := Nat.mod_lt _ (by decide)
    have h3 : i % 3 = 0 ∨ i % 3 = 1 ∨ i % 3 = 2 := by omega
    show (#[Value.int .i64 0, .int .i64 0, .int .i64 0][i % 3]!).oneCell' = true
    rcases h3 with h | h | h <;> rw [h] <;> rfl
  have hst := run_storeCells_cells (P := Try.prog) g (o * 3) (Builtin.zeroCells #[.int .i64 0, .int .i64 0, .int .i64 0] (m + 1)).toList 0 W (by
    intro k hk
    rw [Array.length_toList, hzl] at hk
    simp [World.cell?, hg]
    omega) (by
    intro k hk
    simp [World.frozen?, hg]) h1
  simp only [Nat.add_zero] at hst
  have hz : (Value.agg #[.int .i64 0, .int .i64 0, .int .i64 0]).cells = #[.int .i64 0, .int .i64 0, .int .i64 0] := rfl
  have hzv : ∀ w, (zeroValue 105).run Try.prog w = .ok (.agg #[.int .i64 0, .int .i64 0, .int .i64 0]) w := fun w => by kernel_rfl
  simp [Builtin.clear_, run_underlying Try.underlying46, hzv]
  rw [hz, hst]
  rfl

theorem impl_NewPairs.below_cells {g : Nat} {w0 : World} (hbg : w0.heap.size ≤ g) : ∀ (seg : List Value) (o : Nat) (W : World), Below w0.heap.size w0 W → Below w0.heap.size w0 (W.setCells g o seg)
  | [], _, _, h => h
  | v :: r, o, W, h => by
    rw [World.setCells]
    exact impl_NewPairs.below_cells hbg r (o + 1) _ (below_set h hbg)
set_option maxHeartbeats 8000000 in
set_option maxRecDepth 100000 in
theorem impl_NewPairs.delete (k g : Nat) (A : Option Addr) (c : Nat) (l : List S105) (P0_ : Nat → Prop) (u : Value) (xs r : List S105) (w0 w : World) (hcell : w0.cell? ⟨g, 0, none⟩ = some (.slice A l.length c)) (hr : Kd.C k105 w0 A l.length l) (hc : l.length ≤ c) (hB : Below w0.heap.size w0 w)
    (ho : Kd.R k105 105 w w0.heap.size P0_ u xs) (hl : xs.length ≤ 4611686018427387904) (h : impl_NewPairs.flt k l xs = some r) :
    Calls Try.prog 78 #[u, .func (.func 80) #[] #[.pointer (some ⟨g, 0, none⟩)]] w fun e w' => ∃ v0_ : Value, e = .returned v0_ ∧ Kd.R k105 105 w' w0.heap.size (fun k_ => P0_ k_ ∨ w.heap.size ≤ k_) v0_ r ∧ Below w0.heap.size w0 w' := by
  have hu105 := Try.underlying105
  have HX0 := Aside0.mk hcell
  have HR0 := Aside0.mk hr
  have HC := Aside0.mk hc
  have HL := Aside0.mk hl
  have HX := Aside0.mk ((hB.cell (World.block_lt_of_cell? w0 _ hcell)).trans hcell)
  have HR := Aside0.mk (Kd.C_below hr hB)
  have HB := Aside0.mk hB
  rcases impl_NewPairs.flt_idx k l xs r 0 h with ⟨hi, rfl⟩ | ⟨j0, t0, hj0, hi, ht0, hr0⟩
  · have HO := Aside0.mk ho
    obtain ⟨As, cs, rfl⟩ := Kd.R_slice ho
    have HS := Aside0.mk (Kd.R_reads' ho).2.2
    have HI := Aside0.mk hi
    clear hcell hr hc hl hB ho h hi
    go_enter Try.func78, Try.ntmps78
    go_wp2_with (first | (go_at_call 124; (with_reducible refine (impl_NewPairs.index k g A c l As cs r (-1) _ HX.out HR.out HC.out HS.out HL.out HI.out).mono ?_); rintro e w6_ ⟨rfl, hb⟩; have HB2 := Aside0.mk hb; clear hb))
    go_ret
    exact ⟨_, rfl, Kd.R_mono (Kd.R_below HO.out HB2.out) (fun _ hk => .inl hk), below_step HB.out HB2.out⟩
  · have HO := Aside0.mk (Kd.R_mono ho (ok' := fun k_ => P0_ k_ ∨ w.heap.size ≤ k_) (fun _ hk => .inl hk))
    obtain ⟨go, cap, rfl, hbg, _, _, _⟩ := Kd.R_form ho (by omega)
    have HS := Aside0.mk (Kd.R_reads' ho).2.2
    have HCP := Aside0.mk (Kd.R_reads' ho).2.1
    have HG := Aside0.mk hbg
    obtain ⟨i0, hi0⟩ : ∃ i0 : Int, i0 = ((0 + j0 : Nat) : Int) := ⟨_, rfl⟩
    rw [← hi0] at hi
    have b1 : (i0 == (-1 : Int)) = false := beq_eq_false_iff_ne.mpr (by omega)
    have b2 : (i0 != (-1 : Int)) = true := bne_iff_ne.mpr (by omega)
    have HI := Aside0.mk hi
    have HI0 := Aside0.mk (show 0 ≤ i0 ∧ i0.toNat = j0 ∧ j0 < xs.length by omega)
    have H' := Aside0.mk (show impl_NewPairs.flt k l (xs.drop (i0 + 1).toNat) = some t0 ∧ r = xs.take i0.toNat ++ t0 from by
      rw [show (i0 + 1).toNat = j0 + 1 by omega, show i0.toNat = j0 by omega]; exact ⟨ht0, hr0⟩)
    clear hcell hr hc hl hB ho h hi hbg hi0 ht0 hr0 hj0
    go_enter Try.func78, Try.ntmps78
    go_wp2_with (first | (go_at_call 124; (with_reducible refine (impl_NewPairs.index k g A c l _ _ xs i0 _ HX.out HR.out HC.out HS.out HL.out HI.out).mono ?_); rintro e w6_ ⟨rfl, hb⟩; have HB2 := Aside0.mk hb; clear hb))
    have HO2 := Aside0.mk (Kd.R_below HO.out HB2.out)
    have HB3 := Aside0.mk (below_step HB.out HB2.out)
    have hw5 : wrap64 (i0 + 1) = i0 + 1 := by have := HL.out; have := HI0.out; unfold wrap64; omega
    clear HO HB HB2 HX HR HS HI b1 b2
    go_loopg [5, 6] (xs.length - (j0 + 1)) (fun kq v5 v6 w' => ∃ (ys t : List S105) (x5 x6 : Int), v5 = .int .i64 x5 ∧ v6 = .int .i64 x6 ∧ Aside0 (impl_NewPairs.flt k l (ys.drop x6.toNat) = some t ∧ r = ys.take x5.toNat ++ t) ∧ Aside0 (0 ≤ x5 ∧ x5 < x6 ∧ kq + x6.toNat = xs.length) ∧ Aside0 (Kd.R k105 105 w' w0.heap.size (fun k_ => P0_ k_ ∨ w.heap.size ≤ k_) (.slice (some ⟨go, 0, none⟩) xs.length cap) ys) ∧ Aside0 (Below w0.heap.size w0 w'))
    case atStart => exact ⟨xs, t0, i0, i0 + 1, rfl, congrArg (Value.int .i64) hw5, H', ⟨by have := HI0.out; omega⟩, HO2, HB3⟩
    case round =>
      clear H' HO2 HB3 hw5
      obtain ⟨ys, t, x5, x6, rfl, rfl, HA, HK, HO, HB⟩ := hrel
      have hyl := (Kd.R_reads' HO.out).1
      by_cases c3 : x6 < (xs.length : Int)
      · have c3b0 : decide (x6 < (xs.length : Int)) = true := decide_eq_true c3
        have hk := HK.out
        have e_ : ys.drop x6.toNat = rd_T105 ys x6 :: ys.drop (x6.toNat + 1) := by
          unfold rd_T105
          rw [List.drop_eq_getElem_cons (by omega), List.getD_eq_getElem?_getD, List.getElem?_eq_getElem (by omega), Option.getD_some]
        have H := HA.out.1
        rw [e_] at H
        unfold impl_NewPairs.flt at H
        obtain ⟨b, A60, H⟩ := Option.bind_eq_some_iff.mp H
        obtain ⟨t', ht', H⟩ := Option.bind_eq_some_iff.mp H
        have H := Option.some.inj H
        have A6 := Aside0.mk A60
        have HT := Aside0.mk ht'
        obtain ⟨hx0, hx1, hx2, hf0, hf1, hf2⟩ := impl_NewPairs.get3 HO.out x6 (by omega) c3
        have HE := Aside0.mk (show r = ys.take x5.toNat ++ (if b = true then t' else rd_T105 ys x6 :: t') from by rw [H]; exact HA.out.2)
        have HN := Aside0.mk hyl
        have p6 : (0 ≤ x6) = True := eq_true (by omega)
        have q6 : (x6 < (xs.length : Int)) = True := eq_true c3
        have HI := Aside0.mk c3
        have hw6 : wrap64 (x6 + 1) = x6 + 1 := by have := HL.out; unfold wrap64; omega
        have hw5 : wrap64 (x5 + 1) = x5 + 1 := by have := HL.out; unfold wrap64; omega
        have W6 := Aside0.mk hw6
        have W5 := Aside0.mk hw5
        clear H A60 ht' HA e_ hyl c3 hk hw6 hw5
        cases b with
        | true =>
          go_wp2_with (first
            | ((with_reducible refine gate_dst (N := 7) rfl ?_); refine box_event ?hg (N := 7) ?hd (cs := #[.int .i64 0, .int .i64 0, .int .i64 0]) (t := 105) ?hr ?_; (case hd => rfl); (case hg => rfl); (case hr => first | (go_simp; done) | (go_simp; rfl)); intro gb hg w5 hbox hb; have GE := Aside0.mk (by rw [hg]; exact below_size HB.out : w0.heap.size ≤ gb); have O1 := Aside0.mk (Kd.R_below (Kd.R_elderB HO.out gb (Nat.le_of_eq hg.symm)) hb); have B1 := Aside0.mk (below_step HB.out hb); have BK := Aside0.mk hbox; clear HO HB hb hg hbox hx0 hx1 hx2 hf0 hf1 hf2; have hcz0 : w5.cell? ⟨gb, 0, none⟩ = some (.int .i64 0) := (blk_cell BK.out 0).trans rfl; have hcz1 : w5.cell? ⟨gb, 1, none⟩ = some (.int .i64 0) := (blk_cell BK.out 1).trans rfl; have hcz2 : w5.cell? ⟨gb, 2, none⟩ = some (.int .i64 0) := (blk_cell BK.out 2).trans rfl; have hfz0 := blk_frozen BK.out 0; have hfz1 := blk_frozen BK.out 1; have hfz2 := blk_frozen BK.out 2)
            | ((with_reducible refine gate_store (t := 105) (p := 7) rfl ?_); refine store_event (t := 105) (p := 7) (v := ?vo_) (w1 := (((w5.setCell ⟨gb, 0, none⟩ (.int .i64 ((rd_T105 ys x6).f0))).setCell ⟨gb, 1, none⟩ (.int .i64 ((rd_T105 ys x6).f1))).setCell ⟨gb, 2, none⟩ (.int .i64 ((rd_T105 ys x6).f2)))) ?hg ?ho ?hn ?hr ?_; (case ho => rfl); (case hg => rfl); (case hn => rfl); (case hr => first | (go_simp; done) | (go_simp; rfl)); intro w19 hw; have O2 : Aside0 (Kd.R k105 105 w19 w0.heap.size (fun k_ => P0_ k_ ∨ w.heap.size ≤ k_) (.slice (some ⟨go, 0, none⟩) xs.length cap) ys) := ⟨by rw [hw]; exact Kd.R_mono (Kd.R_far (p := ⟨gb, 2, none⟩) (Kd.R_far (p := ⟨gb, 1, none⟩) (Kd.R_far (p := ⟨gb, 0, none⟩) O1.out (fun _ hk => hk.2) _) (fun _ hk => hk.2) _) (fun _ hk => hk.2) _) (fun _ hk => hk.1)⟩; have B2 : Aside0 (Below w0.heap.size w0 w19) := ⟨by rw [hw]; exact below_set (below_set (below_set B1.out GE.out) GE.out) GE.out⟩; have BK2 : Aside0 (w19.heap[gb]? = some (.cells #[.int .i64 ((rd_T105 ys x6).f0), .int .i64 ((rd_T105 ys x6).f1), .int .i64 ((rd_T105 ys x6).f2)] 105 (0, 0))) := ⟨by rw [hw]; refine blk_put (cs := #[.int .i64 ((rd_T105 ys x6).f0), .int .i64 ((rd_T105 ys x6).f1), .int .i64 0]) ?_ 2 _ rfl; refine blk_put (cs := #[.int .i64 ((rd_T105 ys x6).f0), .int .i64 0, .int .i64 0]) ?_ 1 _ rfl; exact blk_put (cs := #[.int .i64 0, .int .i64 0, .int .i64 0]) BK.out 0 _ rfl⟩; clear hw O1 B1 BK hcz0 hcz1 hcz2 hfz0 hfz1 hfz2; have hcz0 : w19.cell? ⟨gb, 0, none⟩ = some (.int .i64 ((rd_T105 ys x6).f0)) := (blk_cell BK2.out 0).trans rfl; have hcz1 : w19.cell? ⟨gb, 1, none⟩ = some (.int .i64 ((rd_T105 ys x6).f1)) := (blk_cell BK2.out 1).trans rfl; have hcz2 : w19.cell? ⟨gb, 2, none⟩ = some (.int .i64 ((rd_T105 ys x6).f2)) := (blk_cell BK2.out 2).trans rfl; have hfz0 := blk_frozen BK2.out 0; have XX := Aside0.mk ((B2.out.cell (World.block_lt_of_cell? w0 _ HX0.out)).trans HX0.out))
            | (go_at_call 80; (with_reducible refine (impl_NewPairs.one k g A c l _ _ _ true _ XX.out (Kd.C_below HR0.out B2.out) HC.out A6.out).mono ?_); rintro e w6_ ⟨rfl, hb⟩; have O3 := Aside0.mk (Kd.R_below O2.out hb); have B3 := Aside0.mk (below_step B2.out hb); clear hb O2 B2 BK2 XX hcz0 hcz1 hcz2 hfz0))
          go_roundg (gk - 1)
          case measure => have := HI.out; have := HK.out; omega
          case rel => exact ⟨ys, t', x5, x6 + 1, rfl, congrArg (Value.int .i64) W6.out, ⟨by rw [show (x6 + 1).toNat = x6.toNat + 1 by have := HK.out; omega]; exact HT.out, HE.out⟩, ⟨by have := HI.out; have := HK.out; omega⟩, O3, B3⟩
        | false =>
          have p5 : (0 ≤ x5) = True := eq_true HK.out.1
          have q5 : (x5 < (xs.length : Int)) = True := eq_true (by have := HI.out; have := HK.out; omega)
          go_wp2_with (first
            | ((with_reducible refine gate_dst (N := 7) rfl ?_); refine box_event ?hg (N := 7) ?hd (cs := #[.int .i64 0, .int .i64 0, .int .i64 0]) (t := 105) ?hr ?_; (case hd => rfl); (case hg => rfl); (case hr => first | (go_simp; done) | (go_simp; rfl)); intro gb hg w5 hbox hb; have GE := Aside0.mk (by rw [hg]; exact below_size HB.out : w0.heap.size ≤ gb); have O1 := Aside0.mk (Kd.R_below (Kd.R_elderB HO.out gb (Nat.le_of_eq hg.symm)) hb); have B1 := Aside0.mk (below_step HB.out hb); have BK := Aside0.mk hbox; clear HO HB hb hg hbox hx0 hx1 hx2 hf0 hf1 hf2; have hcz0 : w5.cell? ⟨gb, 0, none⟩ = some (.int .i64 0) := (blk_cell BK.out 0).trans rfl; have hcz1 : w5.cell? ⟨gb, 1, none⟩ = some (.int .i64 0) := (blk_cell BK.out 1).trans rfl; have hcz2 : w5.cell? ⟨gb, 2, none⟩ = some (.int .i64 0) := (blk_cell BK.out 2).trans rfl; have hfz0 := blk_frozen BK.out 0; have hfz1 := blk_frozen BK.out 1; have hfz2 := blk_frozen BK.out 2)
            | ((with_reducible refine gate_store (t := 105) (p := 7) rfl ?_); refine store_event (t := 105) (p := 7) (v := ?vo_) (w1 := (((w5.setCell ⟨gb, 0, none⟩ (.int .i64 ((rd_T105 ys x6).f0))).setCell ⟨gb, 1, none⟩ (.int .i64 ((rd_T105 ys x6).f1))).setCell ⟨gb, 2, none⟩ (.int .i64 ((rd_T105 ys x6).f2)))) ?hg ?ho ?hn ?hr ?_; (case ho => rfl); (case hg => rfl); (case hn => rfl); (case hr => first | (go_simp; done) | (go_simp; rfl)); intro w19 hw; have O2 : Aside0 (Kd.R k105 105 w19 w0.heap.size (fun k_ => P0_ k_ ∨ w.heap.size ≤ k_) (.slice (some ⟨go, 0, none⟩) xs.length cap) ys) := ⟨by rw [hw]; exact Kd.R_mono (Kd.R_far (p := ⟨gb, 2, none⟩) (Kd.R_far (p := ⟨gb, 1, none⟩) (Kd.R_far (p := ⟨gb, 0, none⟩) O1.out (fun _ hk => hk.2) _) (fun _ hk => hk.2) _) (fun _ hk => hk.2) _) (fun _ hk => hk.1)⟩; have B2 : Aside0 (Below w0.heap.size w0 w19) := ⟨by rw [hw]; exact below_set (below_set (below_set B1.out GE.out) GE.out) GE.out⟩; have BK2 : Aside0 (w19.heap[gb]? = some (.cells #[.int .i64 ((rd_T105 ys x6).f0), .int .i64 ((rd_T105 ys x6).f1), .int .i64 ((rd_T105 ys x6).f2)] 105 (0, 0))) := ⟨by rw [hw]; refine blk_put (cs := #[.int .i64 ((rd_T105 ys x6).f0), .int .i64 ((rd_T105 ys x6).f1), .int .i64 0]) ?_ 2 _ rfl; refine blk_put (cs := #[.int .i64 ((rd_T105 ys x6).f0), .int .i64 0, .int .i64 0]) ?_ 1 _ rfl; exact blk_put (cs := #[.int .i64 0, .int .i64 0, .int .i64 0]) BK.out 0 _ rfl⟩; clear hw O1 B1 BK hcz0 hcz1 hcz2 hfz0 hfz1 hfz2; have hcz0 : w19.cell? ⟨gb, 0, none⟩ = some (.int .i64 ((rd_T105 ys x6).f0)) := (blk_cell BK2.out 0).trans rfl; have hcz1 : w19.cell? ⟨gb, 1, none⟩ = some (.int .i64 ((rd_T105 ys x6).f1)) := (blk_cell BK2.out 1).trans rfl; have hcz2 : w19.cell? ⟨gb, 2, none⟩ = some (.int .i64 ((rd_T105 ys x6).f2)) := (blk_cell BK2.out 2).trans rfl; have hfz0 := blk_frozen BK2.out 0; have XX := Aside0.mk ((B2.out.cell (World.block_lt_of_cell? w0 _ HX0.out)).trans HX0.out))
            | (go_at_call 80; (with_reducible refine (impl_NewPairs.one k g A c l _ _ _ false _ XX.out (Kd.C_below HR0.out B2.out) HC.out A6.out).mono ?_); rintro e w6_ ⟨rfl, hb⟩; have O3 := Aside0.mk (Kd.R_below O2.out hb); have B3 := Aside0.mk (below_step B2.out hb); have BK3 := Aside0.mk (blk_below BK2.out hb); clear hb O2 B2 BK2 XX hcz0 hcz1 hcz2 hfz0; obtain ⟨hy0, hy1, hy2, hg0, hg1, hg2⟩ := impl_NewPairs.get3 O3.out x5 (of_eq_true p5) (of_eq_true q5); have hcz0 : w6_.cell? ⟨gb, 0, none⟩ = some (.int .i64 ((rd_T105 ys x6).f0)) := (blk_cell BK3.out 0).trans rfl; have hcz1 : w6_.cell? ⟨gb, 1, none⟩ = some (.int .i64 ((rd_T105 ys x6).f1)) := (blk_cell BK3.out 1).trans rfl; have hcz2 : w6_.cell? ⟨gb, 2, none⟩ = some (.int .i64 ((rd_T105 ys x6).f2)) := (blk_cell BK3.out 2).trans rfl; have hfz0 := blk_frozen BK3.out 0))
          go_roundg (gk - 1)
          case measure => have := HI.out; have := HK.out; omega
          case rel => exact ⟨ys.set x5.toNat (rd_T105 ys x6), t', x5 + 1, x6 + 1, congrArg (Value.int .i64) W5.out, congrArg (Value.int .i64) W6.out, ⟨by
              have hk := HK.out
              rw [show (x6 + 1).toNat = x6.toNat + 1 by omega, List.drop_set_of_lt (by omega)]; exact HT.out, by
              have hk := HK.out
              have hn := HN.out
              have hi := HI.out
              rw [HE.out, show (x5 + 1).toNat = x5.toNat + 1 by omega, List.take_succ_eq_append_getElem (by rw [List.length_set]; omega), List.getElem_set_self, List.take_set_of_le (Nat.le_refl _)]
              simp⟩, ⟨by have := HI.out; have := HK.out; omega⟩, ⟨impl_NewPairs.put3 O3.out x5 (of_eq_true p5) (of_eq_true q5) _⟩, ⟨below_set (below_set (below_set B3.out HG.out) HG.out) HG.out⟩⟩
      · have c3b0 : decide (x6 < (xs.length : Int)) = false := decide_eq_false c3
        have hk := HK.out
        have hcp := HCP.out
        have hi5 : x5.toNat < xs.length := by omega
        have H := HA.out.1
        rw [List.drop_eq_nil_of_le (by omega)] at H
        unfold impl_NewPairs.flt at H
        have H := Option.some.inj H
        have HE := Aside0.mk (show r = ys.take x5.toNat from by rw [HA.out.2, ← H]; simp)
        obtain ⟨i_, hi_, hzz⟩ := Option.map_eq_some_iff.1 info105
        have hsz : i_.size = 3 := by simp only [Prod.mk.injEq] at hzz; exact hzz.2.1
        have hel : Try.prog.elem 46 = 105 := by simp [Program.elem, Try.underlying46]
        have hsl : ∀ W : World, (Instr.slice 46 (.slice (some ⟨go, 0, none⟩) xs.length cap) (some (.int .i64 x5)) none none).run Try.prog W = .ok (.slice (some ⟨go, x5.toNat * 3, none⟩) (xs.length - x5.toNat) (cap - x5.toNat)) W := by
          intro W
          rw [run_slice_l W 46 (some ⟨go, 0, none⟩) xs.length cap (by rw [hel]; exact Try.underlying46) .i64 x5 (by omega) (by omega), hel]
          have hne : ¬ cap = x5.toNat := by omega
          simp [sizeOf, typeInfo, hi_, hsz, sliced, Result.andThen, hne, Addr.add]
          try omega
        have hsh : ∀ W : World, (Instr.slice 46 (.slice (some ⟨go, 0, none⟩) xs.length cap) none (some (.int .i64 x5)) none).run Try.prog W = .ok (.slice (some ⟨go, 0, none⟩) x5.toNat cap) W := by
          intro W
          rw [run_slice_h W 46 (some ⟨go, 0, none⟩) xs.length cap (by rw [hel]; exact Try.underlying46) .i64 x5 (by omega) (by omega)]
          rw [hel]
          simp [sizeOf, typeInfo, hi_, hsz, sliced, Result.andThen, Addr.add]
        obtain ⟨_, inner, hown, _⟩ := HO.out
        obtain ⟨cur, hblk, hcs⟩ : ∃ cur, wr.heap[go]? = some (.cells cur 105 (0, 0)) ∧ cur.size = cap * 3 := by
          rcases hown.2 with ⟨hv, _⟩ | ⟨g', cap', cur, hv, _, hg, _, _, hsz, _⟩
          · cases hv
          · injection hv with ha _ hcc
            injection ha with ha
            injection ha with hgg
            subst hgg; subst hcc
            exact ⟨cur, hg, hsz⟩
        have hcl := fun ty => impl_NewPairs.clr (g := go) (o := x5.toNat) (n := xs.length - x5.toNat) (cap := cap - x5.toNat) wr hblk (by omega) (by omega) ty
        have HZ := Aside0.mk (show ((Builtin.zeroCells #[.int .i64 0, .int .i64 0, .int .i64 0] (xs.length - x5.toNat)).toList).length = (xs.length - x5.toNat) * 3 from by simp [Builtin.zeroCells])
        have H5 := Aside0.mk hi5
        have HP := Aside0.mk hcp
        clear c3 H HA hk hcp hi5 hi_ hzz hsz hel hown hblk hcs hyl
        go_wp2
        go_ret
        exact ⟨_, rfl, by
          rw [HE.out]
          have := H5.out
          have := HP.out
          exact impl_NewPairs.cut HO.out x5.toNat (by omega) _ (by rw [HZ.out]; omega), impl_NewPairs.below_cells HG.out _ _ _ HB.out⟩

/-! ### impl_NewPairs: function 31 (by hand) -/
def impl_NewPairs.f (k : Nat) (l0 : List (S105)) (l1 : List (S105)) : Option ((List (S105)) × Bool) := (impl_areRising.f k l0).bind fun a => (if a = true then ((impl_areRising.f k l1).bind fun b => (if b = true then ((impl_Pair_79.f l1).bind fun y => (impl_NewPairs.flt k l0 y).bind fun d => some (d, true)) else (some (([] : List (S105)), false)))) else (some (([] : List (S105)), false)))
theorem impl_NewPairs.flt_mono (k : Nat) (l : List S105) : ∀ xs, LeO (impl_NewPairs.flt k l xs) (impl_NewPairs.flt (k + 1) l xs)
  | [] => LeO.refl _
  | x :: r => by
    unfold impl_NewPairs.flt
    exact LeO.bind (impl_Pair_81.mono _ _ _ _ _) (fun _ => LeO.bind (impl_NewPairs.flt_mono k l r) (fun _ => LeO.refl _))
theorem impl_NewPairs.mono : ∀ a0 a1 k, LeO (impl_NewPairs.f k a0 a1) (impl_NewPairs.f (k + 1) a0 a1) := by
  intro a0 a1 k
  unfold impl_NewPairs.f
  refine LeO.bind (impl_areRising.mono _ _) (fun _ => LeO.ite (LeO.bind (impl_areRising.mono _ _) (fun _ => LeO.ite (LeO.bind (LeO.refl _) (fun _ => LeO.bind (impl_NewPairs.flt_mono _ _ _) (fun _ => LeO.refl _))) (LeO.refl _))) (LeO.refl _))
set_option maxHeartbeats 8000000 in
set_option maxRecDepth 100000 in
theorem impl_NewPairs.calls (k : Nat) (A0 : Option Addr) (c0 : Nat) (l0 : List (S105)) (A1 : Option Addr) (c1 : Nat) (l1 : List (S105)) (r1 : List (S105)) (r2 : Bool) (w : World) (hr0 : Kd.C k105 w A0 l0.length l0) (hc0 : l0.length ≤ c0) (hr1 : Kd.C k105 w A1 l1.length l1) (hc1 : l1.length ≤ c1) (h : impl_NewPairs.f k l0 l1 = some (r1, r2)) :
    Calls Try.prog 31 #[.slice A0 l0.length c0, .slice A1 l1.length c1] w fun e w' => ∃ v0_ : Value, e = .returned (.tuple #[v0_, .bool r2]) ∧ Kd.R k105 105 w' w.heap.size (fun _ => True) v0_ r1 ∧ Below w.heap.size w w' := by
  have HR0 := Aside0.mk hr0
  have HC0 := Aside0.mk hc0
  have HR1 := Aside0.mk hr1
  have HC1 := Aside0.mk hc1
  clear hr0 hc0 hr1 hc1
  unfold impl_NewPairs.f at h
  obtain ⟨a, Aa, h⟩ := Option.bind_eq_some_iff.mp h
  have Aa := Aside0.mk Aa
  cases a with
  | false =>
    have h2 : (([] : List S105), false) = (r1, r2) := Option.some.inj h
    cases h2
    clear h
    go_enter Try.func31, Try.ntmps31
    go_wp2_with (first
      | ((with_reducible refine gate_dst (N := 2) rfl ?_); refine box_event ?hg (N := 2) ?hd (cs := #[.slice A0 l0.length c0]) (t := 46) ?hr ?_; (case hd => rfl); (case hg => rfl); (case hr => first | (go_simp; done) | (go_simp; rfl)); intro gb hg w5 hbox hb; have BK := Aside0.mk hbox; have BB := Aside0.mk hb; have hcz0 : w5.cell? ⟨gb, 0, none⟩ = some (.slice A0 l0.length c0) := (blk_cell BK.out 0).trans rfl; have hfz0 := blk_frozen BK.out 0; clear hbox hb hg)
      | (go_at_call 77; (with_reducible refine (impl_areRising.calls k A0 c0 l0 false _ (Kd.C_below HR0.out BB.out) HC0.out Aa.out).mono ?_); rintro e w6_ ⟨rfl, hb⟩; have B2 := Aside0.mk (below_step BB.out hb); clear hb hcz0 hfz0 BK))
    go_ret2
    exact ⟨_, rfl, Kd.R_nil _ _ _ _ _, B2.out⟩
  | true =>
    replace h : ((impl_areRising.f k l1).bind fun b => (if b = true then ((impl_Pair_79.f l1).bind fun y => (impl_NewPairs.flt k l0 y).bind fun d => some (d, true)) else (some (([] : List (S105)), false)))) = some (r1, r2) := h
    obtain ⟨b, Ab, h⟩ := Option.bind_eq_some_iff.mp h
    have Ab := Aside0.mk Ab
    cases b with
    | false =>
      have h2 : (([] : List S105), false) = (r1, r2) := Option.some.inj h
      cases h2
      clear h
      go_enter Try.func31, Try.ntmps31
      go_wp2_with (first
        | ((with_reducible refine gate_dst (N := 2) rfl ?_); refine box_event ?hg (N := 2) ?hd (cs := #[.slice A0 l0.length c0]) (t := 46) ?hr ?_; (case hd => rfl); (case hg => rfl); (case hr => first | (go_simp; done) | (go_simp; rfl)); intro gb hg w5 hbox hb; have BK := Aside0.mk hbox; have BB := Aside0.mk hb; have hcz0 : w5.cell? ⟨gb, 0, none⟩ = some (.slice A0 l0.length c0) := (blk_cell BK.out 0).trans rfl; have hfz0 := blk_frozen BK.out 0; clear hbox hb hg)
        | (go_at_call 77; (with_reducible refine (impl_areRising.calls k A0 c0 l0 true _ (Kd.C_below HR0.out BB.out) HC0.out Aa.out).mono ?_); rintro e w6_ ⟨rfl, hb⟩; have B2 := Aside0.mk (below_step BB.out hb); clear hb hcz0 hfz0 BK Aa)
        | (go_at_call 77; (with_reducible refine (impl_areRising.calls k A1 c1 l1 false _ (Kd.C_below HR1.out B2.out) HC1.out Ab.out).mono ?_); rintro e w7_ ⟨rfl, hb⟩; have B3 := Aside0.mk (below_step B2.out hb); clear hb))
      go_ret2
      exact ⟨_, rfl, Kd.R_nil _ _ _ _ _, B3.out⟩
    | true =>
      replace h : ((impl_Pair_79.f l1).bind fun y => (impl_NewPairs.flt k l0 y).bind fun d => some (d, true)) = some (r1, r2) := h
      obtain ⟨y, Ay0, h⟩ := Option.bind_eq_some_iff.mp h
      obtain ⟨d, Ad0, h⟩ := Option.bind_eq_some_iff.mp h
      have h2 : (d, true) = (r1, r2) := Option.some.inj h
      cases h2
      have Ay := Aside0.mk Ay0
      have Ad := Aside0.mk Ad0
      have Hy := Aside0.mk (show y.length ≤ 4611686018427387904 from by
        unfold impl_Pair_79.f at Ay0
        rw [Option.bind_some] at Ay0
        split at Ay0
        · have := Option.some.inj Ay0
          rw [← this, List.nil_append]
          simp at *
          omega
        · cases Ay0)
      clear h Ay0 Ad0
      go_enter Try.func31, Try.ntmps31
      go_wp2_with (first
        | ((with_reducible refine gate_dst (N := 2) rfl ?_); refine box_event ?hg (N := 2) ?hd (cs := #[.slice A0 l0.length c0]) (t := 46) ?hr ?_; (case hd => rfl); (case hg => rfl); (case hr => first | (go_simp; done) | (go_simp; rfl)); intro gb hg w5 hbox hb; have BK := Aside0.mk hbox; have BB := Aside0.mk hb; have hcz0 : w5.cell? ⟨gb, 0, none⟩ = some (.slice A0 l0.length c0) := (blk_cell BK.out 0).trans rfl; have hfz0 := blk_frozen BK.out 0; have XX := Aside0.mk hcz0; have B0 := Aside0.mk (Below.refl w5.heap.size w5); clear hbox hb hg)
        | (go_at_call 77; (with_reducible refine (impl_areRising.calls k A0 c0 l0 true _ (Kd.C_below HR0.out BB.out) HC0.out Aa.out).mono ?_); rintro e w6_ ⟨rfl, hb⟩; have B2 := Aside0.mk (below_step B0.out hb); clear hb hcz0 hfz0 BK Aa B0)
        | (go_at_call 77; (with_reducible refine (impl_areRising.calls k A1 c1 l1 true _ (Kd.C_below HR1.out (below_step BB.out B2.out)) HC1.out Ab.out).mono ?_); rintro e w7_ ⟨rfl, hb⟩; have B3 := Aside0.mk (below_step B2.out hb); clear hb B2 Ab)
        | (go_at_call 79; (with_reducible refine (impl_Pair_79.calls A1 c1 l1 y _ (Kd.C_below HR1.out (below_step BB.out B3.out)) HC1.out Ay.out).mono ?_); rintro e w8_ ⟨v8, rfl, ho, hb⟩; have B4 := Aside0.mk (below_step B3.out hb); have O4 := Aside0.mk (Kd.R_lower ho B3.out.size); clear hb ho B3 Ay)
        | (go_at_call 78; ((with_reducible refine (impl_NewPairs.delete k gb A0 c0 l0 _ v8 y r1 w5 _ XX.out (Kd.C_below HR0.out BB.out) HC0.out B4.out O4.out Hy.out Ad.out).mono ?_)); rintro e w9_ ⟨v9, rfl, ho, hb⟩; have B5 := Aside0.mk (below_step BB.out hb); have O5 := Aside0.mk (Kd.R_mono (Kd.R_lower ho BB.out.size) (fun _ _ => trivial) : Kd.R k105 105 w9_ w.heap.size (fun _ => True) v9 r1); clear hb ho))
      go_ret2
      exact ⟨_, rfl, O5.out, B5.out⟩

/-! ### laws_eqPair: function 82 -/
def laws_eqPair.f (a0_0 : Int) (a0_1 : Int) (a0_2 : Int) (a1_0 : Int) (a1_1 : Int) (a1_2 : Int) : Option (Bool) := if a0_0 = a1_0 then (if a0_1 = a1_1 then (if a0_2 = a1_2 then (some true) else (some false)) else (some false)) else (some false)
set_option maxHeartbeats 8000000 in
set_option maxRecDepth 100000 in
theorem laws_eqPair.calls (a0_0 : Int) (a0_1 : Int) (a0_2 : Int) (a1_0 : Int) (a1_1 : Int) (a1_2 : Int) (r : Bool) (w : World) (h : laws_eqPair.f a0_0 a0_1 a0_2 a1_0 a1_1 a1_2 = some r) :
    Calls Try.prog 82 #[.agg #[.int .i64 a0_0, .int .i64 a0_1, .int .i64 a0_2], .agg #[.int .i64 a1_0, .int .i64 a1_1, .int .i64 a1_2]] w fun e w' => e = .returned (.bool r) ∧ Below w.heap.size w w' := by
  have hu105 := Try.underlying105
  have HB := Aside0.mk (Below.refl w.heap.size w)
  have H : (if a0_0 = a1_0 then (if a0_1 = a1_1 then (if a0_2 = a1_2 then (some true) else (some false)) else (some false)) else (some false)) = some r := h
  clear h
  by_cases c3 : a0_0 = a1_0
  · rw [if_pos c3] at H
    have c3b0 : (a0_0 == a1_0) = true := beq_iff_eq.mpr c3
    have c3b1 : (a0_0 != a1_0) = false := bne_eq_false_iff_eq.mpr c3
    clear c3
    by_cases c4 : a0_1 = a1_1
    · rw [if_pos c4] at H
      have c4b0 : (a0_1 == a1_1) = true := beq_iff_eq.mpr c4
      have c4b1 : (a0_1 != a1_1) = false := bne_eq_false_iff_eq.mpr c4
      clear c4
      by_cases c5 : a0_2 = a1_2
      · rw [if_pos c5] at H
        have c5b0 : (a0_2 == a1_2) = true := beq_iff_eq.mpr c5
        have c5b1 : (a0_2 != a1_2) = false := bne_eq_false_iff_eq.mpr c5
        clear c5
        obtain rfl := Option.some.inj H
        go_enter Try.func82, Try.ntmps82
        go_wp2_with (first | ((with_reducible refine gate_dst (N := 2) rfl ?_); refine box_event ?hg (N := 2) ?hd (cs := #[.int .i64 a0_0, .int .i64 a0_1, .int .i64 a0_2]) (t := 105) ?hr ?_; (case hd => rfl); (case hg => rfl); (case hr => first | (go_simp; done) | (go_simp; rfl)); intro gb187 hg w6 hbox hb; have n0_ := Aside0.mk (below_step (by repeat (first | (with_reducible first | exact HB.out | apply below_alloc | apply pw_below_drewN | apply below_drew1) | exact HB.out)) hb); have n1_ := Aside0.mk (hbox); have n2_ := Aside0.mk ((by rw [hg]; exact (below_size (by repeat (first | (with_reducible first | exact HB.out | apply below_alloc | apply pw_below_drewN | apply below_drew1) | exact HB.out))) : w.heap.size ≤ gb187)); have n3_ := Aside0.mk ((by rw [hg]; exact (below_size (by repeat (first | (with_reducible first | exact HB.out | apply below_alloc | apply pw_below_drewN | apply below_drew1) | exact HB.out))) : w.heap.size ≤ gb187)); clear HB; have HB := n0_; have BK187 := n1_; have GW187 := n2_; have GE187 := n3_; clear n0_ n1_ n2_ n3_; clear hb hbox hg) | ((with_reducible refine gate_dst (N := 3) rfl ?_); refine box_event ?hg (N := 3) ?hd (cs := #[.int .i64 a1_0, .int .i64 a1_1, .int .i64 a1_2]) (t := 105) ?hr ?_; (case hd => rfl); (case hg => rfl); (case hr => first | (go_simp; done) | (go_simp; rfl)); intro gb188 hg w7 hbox hb; have n0_ := Aside0.mk (blk_below (g := gb187) (o := .cells #[.int .i64 a0_0, .int .i64 a0_1, .int .i64 a0_2] 105 (0, 0)) (by (with_reducible repeat (first | refine blk_drewN ?_ _ | refine blk_drew ?_ | refine blk_alloc ?_ _)); exact BK187.out) hb); have n1_ := Aside0.mk (below_step (by repeat (first | (with_reducible first | exact HB.out | apply below_alloc | apply pw_below_drewN | apply below_drew1 | refine below_set ?_ GE187.out) | exact HB.out)) hb); have n2_ := Aside0.mk (hbox); have n3_ := Aside0.mk ((by rw [hg]; exact (below_size (by repeat (first | (with_reducible first | exact HB.out | apply below_alloc | apply pw_below_drewN | apply below_drew1 | refine below_set ?_ GE187.out) | exact HB.out))) : w.heap.size ≤ gb188)); have n4_ := Aside0.mk ((by rw [hg]; exact (below_size (by repeat (first | (with_reducible first | exact HB.out | apply below_alloc | apply pw_below_drewN | apply below_drew1 | refine below_set ?_ GE187.out) | exact HB.out))) : w.heap.size ≤ gb188)); have n5_ := Aside0.mk ((by rw [hg]; exact Nat.ne_of_lt (blk_lt (g := gb187) (o := .cells #[.int .i64 a0_0, .int .i64 a0_1, .int .i64 a0_2] 105 (0, 0)) (by (with_reducible repeat (first | refine blk_drewN ?_ _ | refine blk_drew ?_ | refine blk_alloc ?_ _)); exact BK187.out)) : gb187 ≠ gb188)); have n6_ := Aside0.mk ((by rw [hg]; exact Nat.ne_of_gt (blk_lt (g := gb187) (o := .cells #[.int .i64 a0_0, .int .i64 a0_1, .int .i64 a0_2] 105 (0, 0)) (by (with_reducible repeat (first | refine blk_drewN ?_ _ | refine blk_drew ?_ | refine blk_alloc ?_ _)); exact BK187.out)) : gb188 ≠ gb187)); clear BK187; clear HB; have BK187 := n0_; have HB := n1_; have BK188 := n2_; have GW188 := n3_; have GE188 := n4_; have NB187_188 := n5_; have NB188_187 := n6_; clear n0_ n1_ n2_ n3_ n4_ n5_ n6_; clear hb hbox hg; have hnb8 := NB187_188.out; have hnc8 := NB188_187.out; have hcz9_0 : w7.cell? ⟨gb187, 0, none⟩ = some (.int .i64 a0_0) := (blk_cell BK187.out 0).trans rfl; have hcz9_1 : w7.cell? ⟨gb187, 1, none⟩ = some (.int .i64 a0_1) := (blk_cell BK187.out 1).trans rfl; have hcz9_2 : w7.cell? ⟨gb187, 2, none⟩ = some (.int .i64 a0_2) := (blk_cell BK187.out 2).trans rfl; have hfz9_0 := blk_frozen BK187.out 0; have hfz9_1 := blk_frozen BK187.out 1; have hfz9_2 := blk_frozen BK187.out 2; have hcz10_0 : w7.cell? ⟨gb188, 0, none⟩ = some (.int .i64 a1_0) := (blk_cell BK188.out 0).trans rfl; have hcz10_1 : w7.cell? ⟨gb188, 1, none⟩ = some (.int .i64 a1_1) := (blk_cell BK188.out 1).trans rfl; have hcz10_2 : w7.cell? ⟨gb188, 2, none⟩ = some (.int .i64 a1_2) := (blk_cell BK188.out 2).trans rfl; have hfz10_0 := blk_frozen BK188.out 0; have hfz10_1 := blk_frozen BK188.out 1; have hfz10_2 := blk_frozen BK188.out 2))
        go_ret
        exact ⟨by first | rfl | (simp [errW_none, errW_some] <;> rfl) | (simp [*, errW_none, errW_some] <;> rfl), by repeat (first | (with_reducible first | exact HB.out | apply below_alloc | apply pw_below_drewN | apply below_drew1 | refine below_set ?_ GE187.out | refine below_set ?_ GE188.out) | exact HB.out)⟩
      · rw [if_neg c5] at H
        have c5b0 : (a0_2 == a1_2) = false := beq_eq_false_iff_ne.mpr c5
        have c5b1 : (a0_2 != a1_2) = true := bne_iff_ne.mpr c5
        obtain rfl := Option.some.inj H
        go_enter Try.func82, Try.ntmps82
        go_wp2_with (first | ((with_reducible refine gate_dst (N := 2) rfl ?_); refine box_event ?hg (N := 2) ?hd (cs := #[.int .i64 a0_0, .int .i64 a0_1, .int .i64 a0_2]) (t := 105) ?hr ?_; (case hd => rfl); (case hg => rfl); (case hr => first | (go_simp; done) | (go_simp; rfl)); intro gb187 hg w11 hbox hb; have n0_ := Aside0.mk (below_step (by repeat (first | (with_reducible first | exact HB.out | apply below_alloc | apply pw_below_drewN | apply below_drew1) | exact HB.out)) hb); have n1_ := Aside0.mk (hbox); have n2_ := Aside0.mk ((by rw [hg]; exact (below_size (by repeat (first | (with_reducible first | exact HB.out | apply below_alloc | apply pw_below_drewN | apply below_drew1) | exact HB.out))) : w.heap.size ≤ gb187)); have n3_ := Aside0.mk ((by rw [hg]; exact (below_size (by repeat (first | (with_reducible first | exact HB.out | apply below_alloc | apply pw_below_drewN | apply below_drew1) | exact HB.out))) : w.heap.size ≤ gb187)); clear HB; have HB := n0_; have BK187 := n1_; have GW187 := n2_; have GE187 := n3_; clear n0_ n1_ n2_ n3_; clear hb hbox hg) | ((with_reducible refine gate_dst (N := 3) rfl ?_); refine box_event ?hg (N := 3) ?hd (cs := #[.int .i64 a1_0, .int .i64 a1_1, .int .i64 a1_2]) (t := 105) ?hr ?_; (case hd => rfl); (case hg => rfl); (case hr => first | (go_simp; done) | (go_simp; rfl)); intro gb188 hg w12 hbox hb; have n0_ := Aside0.mk (blk_below (g := gb187) (o := .cells #[.int .i64 a0_0, .int .i64 a0_1, .int .i64 a0_2] 105 (0, 0)) (by (with_reducible repeat (first | refine blk_drewN ?_ _ | refine blk_drew ?_ | refine blk_alloc ?_ _)); exact BK187.out) hb); have n1_ := Aside0.mk (below_step (by repeat (first | (with_reducible first | exact HB.out | apply below_alloc | apply pw_below_drewN | apply below_drew1 | refine below_set ?_ GE187.out) | exact HB.out)) hb); have n2_ := Aside0.mk (hbox); have n3_ := Aside0.mk ((by rw [hg]; exact (below_size (by repeat (first | (with_reducible first | exact HB.out | apply below_alloc | apply pw_below_drewN | apply below_drew1 | refine below_set ?_ GE187.out) | exact HB.out))) : w.heap.size ≤ gb188)); have n4_ := Aside0.mk ((by rw [hg]; exact (below_size (by repeat (first | (with_reducible first | exact HB.out | apply below_alloc | apply pw_below_drewN | apply below_drew1 | refine below_set ?_ GE187.out) | exact HB.out))) : w.heap.size ≤ gb188)); have n5_ := Aside0.mk ((by rw [hg]; exact Nat.ne_of_lt (blk_lt (g := gb187) (o := .cells #[.int .i64 a0_0, .int .i64 a0_1, .int .i64 a0_2] 105 (0, 0)) (by (with_reducible repeat (first | refine blk_drewN ?_ _ | refine blk_drew ?_ | refine blk_alloc ?_ _)); exact BK187.out)) : gb187 ≠ gb188)); have n6_ := Aside0.mk ((by rw [hg]; exact Nat.ne_of_gt (blk_lt (g := gb187) (o := .cells #[.int .i64 a0_0, .int .i64 a0_1, .int .i64 a0_2] 105 (0, 0)) (by (with_reducible repeat (first | refine blk_drewN ?_ _ | refine blk_drew ?_ | refine blk_alloc ?_ _)); exact BK187.out)) : gb188 ≠ gb187)); clear BK187; clear HB; have BK187 := n0_; have HB := n1_; have BK188 := n2_; have GW188 := n3_; have GE188 := n4_; have NB187_188 := n5_; have NB188_187 := n6_; clear n0_ n1_ n2_ n3_ n4_ n5_ n6_; clear hb hbox hg; have hnb13 := NB187_188.out; have hnc13 := NB188_187.out; have hcz14_0 : w12.cell? ⟨gb187, 0, none⟩ = some (.int .i64 a0_0) := (blk_cell BK187.out 0).trans rfl; have hcz14_1 : w12.cell? ⟨gb187, 1, none⟩ = some (.int .i64 a0_1) := (blk_cell BK187.out 1).trans rfl; have hcz14_2 : w12.cell? ⟨gb187, 2, none⟩ = some (.int .i64 a0_2) := (blk_cell BK187.out 2).trans rfl; have hfz14_0 := blk_frozen BK187.out 0; have hfz14_1 := blk_frozen BK187.out 1; have hfz14_2 := blk_frozen BK187.out 2; have hcz15_0 : w12.cell? ⟨gb188, 0, none⟩ = some (.int .i64 a1_0) := (blk_cell BK188.out 0).trans rfl; have hcz15_1 : w12.cell? ⟨gb188, 1, none⟩ = some (.int .i64 a1_1) := (blk_cell BK188.out 1).trans rfl; have hcz15_2 : w12.cell? ⟨gb188, 2, none⟩ = some (.int .i64 a1_2) := (blk_cell BK188.out 2).trans rfl; have hfz15_0 := blk_frozen BK188.out 0; have hfz15_1 := blk_frozen BK188.out 1; have hfz15_2 := blk_frozen BK188.out 2))
        go_ret
        exact ⟨by first | rfl | (simp [errW_none, errW_some] <;> rfl) | (simp [*, errW_none, errW_some] <;> rfl), by repeat (first | (with_reducible first | exact HB.out | apply below_alloc | apply pw_below_drewN | apply below_drew1 | refine below_set ?_ GE187.out | refine below_set ?_ GE188.out) | exact HB.out)⟩
    · rw [if_neg c4] at H
      have c4b0 : (a0_1 == a1_1) = false := beq_eq_false_iff_ne.mpr c4
      have c4b1 : (a0_1 != a1_1) = true := bne_iff_ne.mpr c4
      obtain rfl := Option.some.inj H
      go_enter Try.func82, Try.ntmps82
      go_wp2_with (first | ((with_reducible refine gate_dst (N := 2) rfl ?_); refine box_event ?hg (N := 2) ?hd (cs := #[.int .i64 a0_0, .int .i64 a0_1, .int .i64 a0_2]) (t := 105) ?hr ?_; (case hd => rfl); (case hg => rfl); (case hr => first | (go_simp; done) | (go_simp; rfl)); intro gb187 hg w16 hbox hb; have n0_ := Aside0.mk (below_step (by repeat (first | (with_reducible first | exact HB.out | apply below_alloc | apply pw_below_drewN | apply below_drew1) | exact HB.out)) hb); have n1_ := Aside0.mk (hbox); have n2_ := Aside0.mk ((by rw [hg]; exact (below_size (by repeat (first | (with_reducible first | exact HB.out | apply below_alloc | apply pw_below_drewN | apply below_drew1) | exact HB.out))) : w.heap.size ≤ gb187)); have n3_ := Aside0.mk ((by rw [hg]; exact (below_size (by repeat (first | (with_reducible first | exact HB.out | apply below_alloc | apply pw_below_drewN | apply below_drew1) | exact HB.out))) : w.heap.size ≤ gb187)); clear HB; have HB := n0_; have BK187 := n1_; have GW187 := n2_; have GE187 := n3_; clear n0_ n1_ n2_ n3_; clear hb hbox hg) | ((with_reducible refine gate_dst (N := 3) rfl ?_); refine box_event ?hg (N := 3) ?hd (cs := #[.int .i64 a1_0, .int .i64 a1_1, .int .i64 a1_2]) (t := 105) ?hr ?_; (case hd => rfl); (case hg => rfl); (case hr => first | (go_simp; done) | (go_simp; rfl)); intro gb188 hg w17 hbox hb; have n0_ := Aside0.mk (blk_below (g := gb187) (o := .cells #[.int .i64 a0_0, .int .i64 a0_1, .int .i64 a0_2] 105 (0, 0)) (by (with_reducible repeat (first | refine blk_drewN ?_ _ | refine blk_drew ?_ | refine blk_alloc ?_ _)); exact BK187.out) hb); have n1_ := Aside0.mk (below_step (by repeat (first | (with_reducible first | exact HB.out | apply below_alloc | apply pw_below_drewN | apply below_drew1 | refine below_set ?_ GE187.out) | exact HB.out)) hb); have n2_ := Aside0.mk (hbox); have n3_ := Aside0.mk ((by rw [hg]; exact (below_size (by repeat (first | (with_reducible first | exact HB.out | apply below_alloc | apply pw_below_drewN | apply below_drew1 | refine below_set ?_ GE187.out) | exact HB.out))) : w.heap.size ≤ gb188)); have n4_ := Aside0.mk ((by rw [hg]; exact (below_size (by repeat (first | (with_reducible first | exact HB.out | apply below_alloc | apply pw_below_drewN | apply below_drew1 | refine below_set ?_ GE187.out) | exact HB.out))) : w.heap.size ≤ gb188)); have n5_ := Aside0.mk ((by rw [hg]; exact Nat.ne_of_lt (blk_lt (g := gb187) (o := .cells #[.int .i64 a0_0, .int .i64 a0_1, .int .i64 a0_2] 105 (0, 0)) (by (with_reducible repeat (first | refine blk_drewN ?_ _ | refine blk_drew ?_ | refine blk_alloc ?_ _)); exact BK187.out)) : gb187 ≠ gb188)); have n6_ := Aside0.mk ((by rw [hg]; exact Nat.ne_of_gt (blk_lt (g := gb187) (o := .cells #[.int .i64 a0_0, .int .i64 a0_1, .int .i64 a0_2] 105 (0, 0)) (by (with_reducible repeat (first | refine blk_drewN ?_ _ | refine blk_drew ?_ | refine blk_alloc ?_ _)); exact BK187.out)) : gb188 ≠ gb187)); clear BK187; clear HB; have BK187 := n0_; have HB := n1_; have BK188 := n2_; have GW188 := n3_; have GE188 := n4_; have NB187_188 := n5_; have NB188_187 := n6_; clear n0_ n1_ n2_ n3_ n4_ n5_ n6_; clear hb hbox hg; have hnb18 := NB187_188.out; have hnc18 := NB188_187.out; have hcz19_0 : w17.cell? ⟨gb187, 0, none⟩ = some (.int .i64 a0_0) := (blk_cell BK187.out 0).trans rfl; have hcz19_1 : w17.cell? ⟨gb187, 1, none⟩ = some (.int .i64 a0_1) := (blk_cell BK187.out 1).trans rfl; have hcz19_2 : w17.cell? ⟨gb187, 2, none⟩ = some (.int .i64 a0_2) := (blk_cell BK187.out 2).trans rfl; have hfz19_0 := blk_frozen BK187.out 0; have hfz19_1 := blk_frozen BK187.out 1; have hfz19_2 := blk_frozen BK187.out 2; have hcz20_0 : w17.cell? ⟨gb188, 0, none⟩ = some (.int .i64 a1_0) := (blk_cell BK188.out 0).trans rfl; have hcz20_1 : w17.cell? ⟨gb188, 1, none⟩ = some (.int .i64 a1_1) := (blk_cell BK188.out 1).trans rfl; have hcz20_2 : w17.cell? ⟨gb188, 2, none⟩ = some (.int .i64 a1_2) := (blk_cell BK188.out 2).trans rfl; have hfz20_0 := blk_frozen BK188.out 0; have hfz20_1 := blk_frozen BK188.out 1; have hfz20_2 := blk_frozen BK188.out 2))
      go_ret
      exact ⟨by first | rfl | (simp [errW_none, errW_some] <;> rfl) | (simp [*, errW_none, errW_some] <;> rfl), by repeat (first | (with_reducible first | exact HB.out | apply below_alloc | apply pw_below_drewN | apply below_drew1 | refine below_set ?_ GE187.out | refine below_set ?_ GE188.out) | exact HB.out)⟩
  · rw [if_neg c3] at H
    have c3b0 : (a0_0 == a1_0) = false := beq_eq_false_iff_ne.mpr c3
    have c3b1 : (a0_0 != a1_0) = true := bne_iff_ne.mpr c3
    obtain rfl := Option.some.inj H
    go_enter Try.func82, Try.ntmps82
    go_wp2_with (first | ((with_reducible refine gate_dst (N := 2) rfl ?_); refine box_event ?hg (N := 2) ?hd (cs := #[.int .i64 a0_0, .int .i64 a0_1, .int .i64 a0_2]) (t := 105) ?hr ?_; (case hd => rfl); (case hg => rfl); (case hr => first | (go_simp; done) | (go_simp; rfl)); intro gb187 hg w21 hbox hb; have n0_ := Aside0.mk (below_step (by repeat (first | (with_reducible first | exact HB.out | apply below_alloc | apply pw_below_drewN | apply below_drew1) | exact HB.out)) hb); have n1_ := Aside0.mk (hbox); have n2_ := Aside0.mk ((by rw [hg]; exact (below_size (by repeat (first | (with_reducible first | exact HB.out | apply below_alloc | apply pw_below_drewN | apply below_drew1) | exact HB.out))) : w.heap.size ≤ gb187)); have n3_ := Aside0.mk ((by rw [hg]; exact (below_size (by repeat (first | (with_reducible first | exact HB.out | apply below_alloc | apply pw_below_drewN | apply below_drew1) | exact HB.out))) : w.heap.size ≤ gb187)); clear HB; have HB := n0_; have BK187 := n1_; have GW187 := n2_; have GE187 := n3_; clear n0_ n1_ n2_ n3_; clear hb hbox hg) | ((with_reducible refine gate_dst (N := 3) rfl ?_); refine box_event ?hg (N := 3) ?hd (cs := #[.int .i64 a1_0, .int .i64 a1_1, .int .i64 a1_2]) (t := 105) ?hr ?_; (case hd => rfl); (case hg => rfl); (case hr => first | (go_simp; done) | (go_simp; rfl)); intro gb188 hg w22 hbox hb; have n0_ := Aside0.mk (blk_below (g := gb187) (o := .cells #[.int .i64 a0_0, .int .i64 a0_1, .int .i64 a0_2] 105 (0, 0)) (by (with_reducible repeat (first | refine blk_drewN ?_ _ | refine blk_drew ?_ | refine blk_alloc ?_ _)); exact BK187.out) hb); have n1_ := Aside0.mk (below_step (by repeat (first | (with_reducible first | exact HB.out | apply below_alloc | apply pw_below_drewN | apply below_drew1 | refine below_set ?_ GE187.out) | exact HB.out)) hb); have n2_ := Aside0.mk (hbox); have n3_ := Aside0.mk ((by rw [hg]; exact (below_size (by repeat (first | (with_reducible first | exact HB.out | apply below_alloc | apply pw_below_drewN | apply below_drew1 | refine below_set ?_ GE187.out) | exact HB.out))) : w.heap.size ≤ gb188)); have n4_ := Aside0.mk ((by rw [hg]; exact (below_size (by repeat (first | (with_reducible first | exact HB.out | apply below_alloc | apply pw_below_drewN | apply below_drew1 | refine below_set ?_ GE187.out) | exact HB.out))) : w.heap.size ≤ gb188)); have n5_ := Aside0.mk ((by rw [hg]; exact Nat.ne_of_lt (blk_lt (g := gb187) (o := .cells #[.int .i64 a0_0, .int .i64 a0_1, .int .i64 a0_2] 105 (0, 0)) (by (with_reducible repeat (first | refine blk_drewN ?_ _ | refine blk_drew ?_ | refine blk_alloc ?_ _)); exact BK187.out)) : gb187 ≠ gb188)); have n6_ := Aside0.mk ((by rw [hg]; exact Nat.ne_of_gt (blk_lt (g := gb187) (o := .cells #[.int .i64 a0_0, .int .i64 a0_1, .int .i64 a0_2] 105 (0, 0)) (by (with_reducible repeat (first | refine blk_drewN ?_ _ | refine blk_drew ?_ | refine blk_alloc ?_ _)); exact BK187.out)) : gb188 ≠ gb187)); clear BK187; clear HB; have BK187 := n0_; have HB := n1_; have BK188 := n2_; have GW188 := n3_; have GE188 := n4_; have NB187_188 := n5_; have NB188_187 := n6_; clear n0_ n1_ n2_ n3_ n4_ n5_ n6_; clear hb hbox hg; have hnb23 := NB187_188.out; have hnc23 := NB188_187.out; have hcz24_0 : w22.cell? ⟨gb187, 0, none⟩ = some (.int .i64 a0_0) := (blk_cell BK187.out 0).trans rfl; have hcz24_1 : w22.cell? ⟨gb187, 1, none⟩ = some (.int .i64 a0_1) := (blk_cell BK187.out 1).trans rfl; have hcz24_2 : w22.cell? ⟨gb187, 2, none⟩ = some (.int .i64 a0_2) := (blk_cell BK187.out 2).trans rfl; have hfz24_0 := blk_frozen BK187.out 0; have hfz24_1 := blk_frozen BK187.out 1; have hfz24_2 := blk_frozen BK187.out 2; have hcz25_0 : w22.cell? ⟨gb188, 0, none⟩ = some (.int .i64 a1_0) := (blk_cell BK188.out 0).trans rfl; have hcz25_1 : w22.cell? ⟨gb188, 1, none⟩ = some (.int .i64 a1_1) := (blk_cell BK188.out 1).trans rfl; have hcz25_2 : w22.cell? ⟨gb188, 2, none⟩ = some (.int .i64 a1_2) := (blk_cell BK188.out 2).trans rfl; have hfz25_0 := blk_frozen BK188.out 0; have hfz25_1 := blk_frozen BK188.out 1; have hfz25_2 := blk_frozen BK188.out 2))
    go_ret
    exact ⟨by first | rfl | (simp [errW_none, errW_some] <;> rfl) | (simp [*, errW_none, errW_some] <;> rfl), by repeat (first | (with_reducible first | exact HB.out | apply below_alloc | apply pw_below_drewN | apply below_drew1 | refine below_set ?_ GE187.out | refine below_set ?_ GE188.out) | exact HB.out)⟩

/-! ### laws_eqPairS: function 32 -/
def laws_eqPairS.l0 : Nat → List (S105) → List (S105) → Int → Option (Bool)
  | 0, _, _, _ => none
  | k + 1, x0, x1, x5 => if x5 < (x0.length : Int) then (if 0 ≤ x5 then (if x5 < (x1.length : Int) then ((laws_eqPair.f ((rd_T105 x0 x5).f0) ((rd_T105 x0 x5).f1) ((rd_T105 x0 x5).f2) ((rd_T105 x1 x5).f0) ((rd_T105 x1 x5).f1) ((rd_T105 x1 x5).f2)).bind fun t191 => (if t191 = true then (laws_eqPairS.l0 k x0 x1 (wrap64 (x5 + 1))) else (some false))) else (none)) else (none)) else (some true)
def laws_eqPairS.f (k : Nat) (l0 : List (S105)) (l1 : List (S105)) : Option (Bool) := if (l0.length : Int) = (l1.length : Int) then (laws_eqPairS.l0 k l0 l1 0) else (some false)
theorem laws_eqPairS.mono_l : ∀ k, (∀ y0 y1 y2, LeO (laws_eqPairS.l0 k y0 y1 y2) (laws_eqPairS.l0 (k + 1) y0 y1 y2))
  | 0 => fun _ _ _ r h => by simp [laws_eqPairS.l0] at h
  | k + 1 => by
    have ih0 := laws_eqPairS.mono_l k
    · intro y0 y1 y2
      unfold laws_eqPairS.l0
      repeat' first
      | (with_reducible exact ih0 _ _ _)
      | (with_reducible exact LeO.refl _)
      | (with_reducible exact LeO.none _)
      | (with_reducible refine LeO.ite ?_ ?_)
      | (with_reducible refine LeO.bind ?_ (fun _ => ?_))
      | exact ih0 _ _ _
      | exact LeO.none _
      | refine LeO.ite ?_ ?_
      | refine LeO.bind ?_ (fun _ => ?_)
theorem laws_eqPairS.mono : ∀ a0 a1 k, LeO (laws_eqPairS.f k a0 a1) (laws_eqPairS.f (k + 1) a0 a1) := by
  intro a0 a1 k
  have ih0 := laws_eqPairS.mono_l k
  unfold laws_eqPairS.f
  repeat' first
      | (with_reducible exact ih0 _ _ _)
      | (with_reducible exact LeO.refl _)
      | (with_reducible exact LeO.none _)
      | (with_reducible refine LeO.ite ?_ ?_)
      | (with_reducible refine LeO.bind ?_ (fun _ => ?_))
      | exact ih0 _ _ _
      | exact LeO.none _
      | refine LeO.ite ?_ ?_
      | refine LeO.bind ?_ (fun _ => ?_)
def laws_eqPairS.T6 : Bool × List (List Nat × List Nat) := (true, [([], []), ([], []), ([0, 1], [0, 1]), ([2], [2]), ([], []), ([], []), ([4, 5], [4, 5]), ([6], [6]), ([3, 7], [3, 7]), ([8], [8])])
def laws_eqPairS.B6 : List Nat := [0, 0, 3, 7, 0, 0, 48, 112, 255, 511]
theorem laws_eqPairS.tab6 : rtab .any (opsOf Try.f32 6) = laws_eqPairS.T6 := by kernel_rfl
theorem laws_eqPairS.bits6 : waitsOk laws_eqPairS.T6.2 laws_eqPairS.B6 = true := by kernel_rfl
set_option maxHeartbeats 8000000 in
set_option maxRecDepth 100000 in
theorem laws_eqPairS.calls (k : Nat) (A0 : Option Addr) (c0 : Nat) (l0 : List (S105)) (A1 : Option Addr) (c1 : Nat) (l1 : List (S105)) (r : Bool) (w : World) (hr0 : Kd.C k105 w A0 l0.length l0) (hc0 : l0.length ≤ c0) (hr1 : Kd.C k105 w A1 l1.length l1) (hc1 : l1.length ≤ c1) (h : laws_eqPairS.f k l0 l1 = some r) :
    Calls Try.prog 32 #[.slice A0 l0.length c0, .slice A1 l1.length c1] w fun e w' => e = .returned (.bool r) ∧ Below w.heap.size w w' := by
  have hu105 := Try.underlying105
  have HR0 := Aside0.mk hr0
  have HC0 := Aside0.mk hc0
  clear hr0 hc0
  have HR1 := Aside0.mk hr1
  have HC1 := Aside0.mk hc1
  clear hr1 hc1
  have HB := Aside0.mk (Below.refl w.heap.size w)
  have H : (if (l0.length : Int) = (l1.length : Int) then (laws_eqPairS.l0 k l0 l1 0) else (some false)) = some r := h
  clear h
  by_cases c3 : (l0.length : Int) = (l1.length : Int)
  · rw [if_pos c3] at H
    have c3b0 : ((l0.length : Int) == (l1.length : Int)) = true := beq_iff_eq.mpr c3
    have c3b1 : ((l0.length : Int) != (l1.length : Int)) = false := bne_eq_false_iff_eq.mpr c3
    have c3b2 : (l0.length == l1.length) = true := by first | simpa using c3 | (simp at c3 ⊢; omega)
    clear c3
    have H' := Aside0.mk H
    clear H
    go_enter Try.func32, Try.ntmps32
    go_wp2
    go_loopg [5] k (fun kq v5 w' => ∃ (x5_1 : Int), v5 = .int .i64 x5_1 ∧ Aside0 (laws_eqPairS.l0 kq l0 l1 x5_1 = some r) ∧ Aside0 (kq ≤ k) ∧ Aside0 (Below w.heap.size w w'))
    case atStart => exact ⟨(0), (by first | rfl | (simp; done) | (simp [*]; done)), H', ⟨Nat.le_refl _⟩, ⟨by repeat (first | (with_reducible first | exact HB.out | apply below_alloc | apply pw_below_drewN | apply below_drew1) | exact HB.out)⟩⟩
    case round =>
      clear H'
      try clear c1
      try clear p2
      try clear c3
      try clear c3b0
      try clear c3b1
      try clear c3b2
      obtain ⟨x5_1, rfl, HA, HK1, HB⟩ := hrel
      cases gk with
      | zero => exact absurd HA.out (by simp [laws_eqPairS.l0])
      | succ k1 =>
        have H := HA.out
        clear HA
        simp only [laws_eqPairS.l0] at H
        by_cases c4 : x5_1 < (l0.length : Int)
        · rw [if_pos c4] at H
          have c4b0 : decide (x5_1 < (l0.length : Int)) = true := decide_eq_true c4
          clear c4
          by_cases c5 : 0 ≤ x5_1
          · rw [if_pos c5] at H
            have c5b0 : decide (0 ≤ x5_1) = true := decide_eq_true c5
            clear c5
            by_cases c6 : x5_1 < (l1.length : Int)
            · rw [if_pos c6] at H
              have c6b0 : decide (x5_1 < (l1.length : Int)) = true := decide_eq_true c6
              clear c6
              replace H := Option.bind_eq_some_iff.mp H
              obtain ⟨t191, A70, H⟩ := H
              replace H : (if t191 = true then (laws_eqPairS.l0 k1 l0 l1 (wrap64 (x5_1 + 1))) else (some false)) = some r := H
              have A7 := Aside0.mk A70
              clear A70
              by_cases c8 : t191 = true
              · subst c8
                have H1 : (laws_eqPairS.l0 k1 l0 l1 (wrap64 (x5_1 + 1))) = some r := by rw [if_pos rfl] at H; exact H
                clear H
                have H := H1
                clear H1
                have H' := Aside0.mk H
                clear H
                try go_wp2
                have n0_ := Aside0.mk (below_drew1 HB.out)
                clear HB
                have HB := n0_
                clear n0_
                have p189 : 0 ≤ (x5_1 : Int) := of_decide_eq_true (by first | (with_reducible assumption) | assumption)
                have q189 : x5_1 < (l0.length : Int) := of_decide_eq_true (by first | (with_reducible assumption) | assumption)
                obtain ⟨ad189, e189, hx189_0, hx189_1, hx189_2⟩ := at_T105 HR0.out x5_1 p189 q189
                have hw189_2 := hx189_2
                have hw189_1 := hx189_1
                have hw189_0 := hx189_0
                cases e189
                try replace hx189_0 := (HB.out.cell (World.block_lt_of_cell? w _ hx189_0)).trans hx189_0
                try replace hx189_1 := (HB.out.cell (World.block_lt_of_cell? w _ hx189_1)).trans hx189_1
                try replace hx189_2 := (HB.out.cell (World.block_lt_of_cell? w _ hx189_2)).trans hx189_2
                replace p189 := eq_true p189
                replace q189 := eq_true q189
                have p190 : 0 ≤ (x5_1 : Int) := of_decide_eq_true (by first | (with_reducible assumption) | assumption)
                have q190 : x5_1 < (l1.length : Int) := of_decide_eq_true (by first | (with_reducible assumption) | assumption)
                obtain ⟨ad190, e190, hx190_0, hx190_1, hx190_2⟩ := at_T105 HR1.out x5_1 p190 q190
                have hw190_2 := hx190_2
                have hw190_1 := hx190_1
                have hw190_0 := hx190_0
                cases e190
                try replace hx190_0 := (HB.out.cell (World.block_lt_of_cell? w _ hx190_0)).trans hx190_0
                try replace hx190_1 := (HB.out.cell (World.block_lt_of_cell? w _ hx190_1)).trans hx190_1
                try replace hx190_2 := (HB.out.cell (World.block_lt_of_cell? w _ hx190_2)).trans hx190_2
                replace p190 := eq_true p190
                replace q190 := eq_true q190
                refine start_ (n := 10) (S := fun w' => w'.cell? (ad189.add ((x5_1).toNat * 3)) = some (.int .i64 ((rd_T105 l0 x5_1).f0)) ∧ w'.cell? ⟨(ad189.add ((x5_1).toNat * 3)).block, (ad189.add ((x5_1).toNat * 3)).off + 1, none⟩ = some (.int .i64 ((rd_T105 l0 x5_1).f1)) ∧ w'.cell? ⟨(ad189.add ((x5_1).toNat * 3)).block, (ad189.add ((x5_1).toNat * 3)).off + 2, none⟩ = some (.int .i64 ((rd_T105 l0 x5_1).f2)) ∧ w'.cell? (ad190.add ((x5_1).toNat * 3)) = some (.int .i64 ((rd_T105 l1 x5_1).f0)) ∧ w'.cell? ⟨(ad190.add ((x5_1).toNat * 3)).block, (ad190.add ((x5_1).toNat * 3)).off + 1, none⟩ = some (.int .i64 ((rd_T105 l1 x5_1).f1)) ∧ w'.cell? ⟨(ad190.add ((x5_1).toNat * 3)).block, (ad190.add ((x5_1).toNat * 3)).off + 2, none⟩ = some (.int .i64 ((rd_T105 l1 x5_1).f2))) (ds := []) #[false, false, false, false, false, false, false, false, false, false] (by kernel_rfl) rfl rfl ⟨((HB.out.cell (World.block_lt_of_cell? w _ hw189_0)).trans hw189_0), ((HB.out.cell (World.block_lt_of_cell? w _ hw189_1)).trans hw189_1), ((HB.out.cell (World.block_lt_of_cell? w _ hw189_2)).trans hw189_2), ((HB.out.cell (World.block_lt_of_cell? w _ hw190_0)).trans hw190_0), ((HB.out.cell (World.block_lt_of_cell? w _ hw190_1)).trans hw190_1), ((HB.out.cell (World.block_lt_of_cell? w _ hw190_2)).trans hw190_2)⟩ (fun hHeld => ?_); refine with_tabW laws_eqPairS.tab6 laws_eqPairS.bits6 (fun HT_ HW_ => ?_)
                generalize wr.drew = w9 at HB hx189_0 hx189_1 hx189_2 hx190_0 hx190_1 hx190_2 hHeld ⊢
                refine pure_ (i := 0) (N := some 17) (v := ?_) (a' := ?_) #[true, false, false, false, false, false, false, false, false, false] rfl rfl (any_of HT_.out (by kernel_rfl)) (fun _ _ _ h => h) (Or.inl ⟨by rfl, ?_⟩) ?_ ?_
                rotate_left
                · intro w'
                  go_simp
                  with_reducible rfl
                rotate_left
                · simp only [Act.put, List.setIfInBounds_toArray, List.set_cons_zero, List.set_cons_succ, i64_w, i32_w]
                  rfl
                refine pure_ (i := 1) (N := some 18) (v := ?_) (a' := ?_) #[true, true, false, false, false, false, false, false, false, false] rfl rfl (any_of HT_.out (by kernel_rfl)) (fun _ _ _ h => h) (Or.inl ⟨by rfl, ?_⟩) ?_ ?_
                rotate_left
                · intro w'
                  go_simp
                  with_reducible rfl
                rotate_left
                · simp only [Act.put, List.setIfInBounds_toArray, List.set_cons_zero, List.set_cons_succ, i64_w, i32_w]
                  rfl
                refine pure_ (i := 2) (N := some 19) (v := ?_) (a' := ?_) #[true, true, true, false, false, false, false, false, false, false] rfl rfl (any_of HT_.out (by kernel_rfl)) (fun _ _ _ h => h) (Or.inl ⟨by rfl, ?_⟩) ?_ ?_
                rotate_left
                · intro w'
                  go_simp
                  with_reducible rfl
                rotate_left
                · simp only [Act.put, List.setIfInBounds_toArray, List.set_cons_zero, List.set_cons_succ, i64_w, i32_w]
                  rfl
                refine pure_ (i := 4) (N := some 21) (v := ?_) (a' := ?_) #[true, true, true, false, true, false, false, false, false, false] rfl rfl (any_of HT_.out (by kernel_rfl)) (fun _ _ _ h => h) (Or.inl ⟨by rfl, ?_⟩) ?_ ?_
                rotate_left
                · intro w'
                  go_simp
                  with_reducible rfl
                rotate_left
                · simp only [Act.put, List.setIfInBounds_toArray, List.set_cons_zero, List.set_cons_succ, i64_w, i32_w]
                  rfl
                refine pure_ (i := 5) (N := some 22) (v := ?_) (a' := ?_) #[true, true, true, false, true, true, false, false, false, false] rfl rfl (any_of HT_.out (by kernel_rfl)) (fun _ _ _ h => h) (Or.inl ⟨by rfl, ?_⟩) ?_ ?_
                rotate_left
                · intro w'
                  go_simp
                  with_reducible rfl
                rotate_left
                · simp only [Act.put, List.setIfInBounds_toArray, List.set_cons_zero, List.set_cons_succ, i64_w, i32_w]
                  rfl
                refine pure_ (i := 6) (N := some 23) (v := ?_) (a' := ?_) #[true, true, true, false, true, true, true, false, false, false] rfl rfl (any_of HT_.out (by kernel_rfl)) (fun _ _ _ h => h) (Or.inl ⟨by rfl, ?_⟩) ?_ ?_
                rotate_left
                · intro w'
                  go_simp
                  with_reducible rfl
                rotate_left
                · simp only [Act.put, List.setIfInBounds_toArray, List.set_cons_zero, List.set_cons_succ, i64_w, i32_w]
                  rfl
                refine take_ (i := 3) (N := some 20) (v := ?_) (a' := ?_) #[true, true, true, true, true, true, true, false, false, false] rfl rfl (take_ofW HT_.out HW_.out (by kernel_rfl)) (fun _ _ _ h => h) (Or.inl ⟨by rfl, ?_⟩) hHeld ?_ ?_
                rotate_left
                · rintro w' ⟨s0, s1, s2, s3, s4, s5⟩
                  go_simp
                  with_reducible rfl
                rotate_left
                · simp only [Act.put, List.setIfInBounds_toArray, List.set_cons_zero, List.set_cons_succ, i64_w, i32_w]
                  rfl
                refine take_ (i := 7) (N := some 24) (v := ?_) (a' := ?_) #[true, true, true, true, true, true, true, true, false, false] rfl rfl (take_ofW HT_.out HW_.out (by kernel_rfl)) (fun _ _ _ h => h) (Or.inl ⟨by rfl, ?_⟩) hHeld ?_ ?_
                rotate_left
                · rintro w' ⟨s0, s1, s2, s3, s4, s5⟩
                  go_simp
                  with_reducible rfl
                rotate_left
                · simp only [Act.put, List.setIfInBounds_toArray, List.set_cons_zero, List.set_cons_succ, i64_w, i32_w]
                  rfl
                refine one_ (i := 8) (N := some 25) #[true, true, true, true, true, true, true, true, true, false] rfl rfl (one_of HT_.out (by kernel_rfl)) (by decide) (fun K hK => ?_)
                first | refine goes_ Try.func82 (by kernel_rfl) rfl #[.agg #[.int .i64 ((rd_T105 l0 x5_1).f0), .int .i64 ((rd_T105 l0 x5_1).f1), .int .i64 ((rd_T105 l0 x5_1).f2)], .agg #[.int .i64 ((rd_T105 l1 x5_1).f0), .int .i64 ((rd_T105 l1 x5_1).f1), .int .i64 ((rd_T105 l1 x5_1).f2)]] (by rfl) rfl rfl (by (try simp only [List.map_toArray, List.map_cons, List.map_nil]); first | done | rfl | (simp only [List.length_drop, List.length_take]; rfl)) ?_ | refine goesV_ Try.func82 (by kernel_rfl) rfl #[.agg #[.int .i64 ((rd_T105 l0 x5_1).f0), .int .i64 ((rd_T105 l0 x5_1).f1), .int .i64 ((rd_T105 l0 x5_1).f2)], .agg #[.int .i64 ((rd_T105 l1 x5_1).f0), .int .i64 ((rd_T105 l1 x5_1).f1), .int .i64 ((rd_T105 l1 x5_1).f2)]] (by rfl) rfl rfl (by rfl) (by first | rfl | (simp only [List.map_toArray, List.map_cons, List.map_nil]; rfl)) ?_
                with_reducible refine (laws_eqPair.calls ((rd_T105 l0 x5_1).f0) ((rd_T105 l0 x5_1).f1) ((rd_T105 l0 x5_1).f2) ((rd_T105 l1 x5_1).f0) ((rd_T105 l1 x5_1).f1) ((rd_T105 l1 x5_1).f2) true _ A7.out).mono ?_
                rintro e w10 ⟨rfl, hb⟩
                refine ⟨_, rfl, ?_⟩
                have n0_ := Aside0.mk (below_step (by repeat (first | (with_reducible first | exact HB.out | apply below_alloc | apply pw_below_drewN | apply below_drew1) | exact HB.out)) hb)
                clear HB
                have HB := n0_
                clear n0_
                (try clear hb)
                (try clear hb2)
                (try clear hk)
                (try clear hi)
                refine hK.out _ _ ⟨((HB.out.cell (World.block_lt_of_cell? w _ hw189_0)).trans hw189_0), ((HB.out.cell (World.block_lt_of_cell? w _ hw189_1)).trans hw189_1), ((HB.out.cell (World.block_lt_of_cell? w _ hw189_2)).trans hw189_2), ((HB.out.cell (World.block_lt_of_cell? w _ hw190_0)).trans hw190_0), ((HB.out.cell (World.block_lt_of_cell? w _ hw190_1)).trans hw190_1), ((HB.out.cell (World.block_lt_of_cell? w _ hw190_2)).trans hw190_2)⟩ (fun hHeld => ?_)
                clear hK K
                refine norm_ (a' := ?_) ?_ ?_
                rotate_left
                · show Act.put _ (some 25) _ = _
                  simp only [Act.put, List.setIfInBounds_toArray, List.set_cons_zero, List.set_cons_succ, i64_w, i32_w]
                  rfl
                refine pure_ (i := 9) (N := some 26) (v := ?_) (a' := ?_) #[true, true, true, true, true, true, true, true, true, true] rfl rfl (any_of HT_.out (by kernel_rfl)) (fun _ _ _ h => h) (Or.inl ⟨by rfl, ?_⟩) ?_ ?_
                rotate_left
                · intro w'
                  go_simp
                  with_reducible rfl
                rotate_left
                · simp only [Act.put, List.setIfInBounds_toArray, List.set_cons_zero, List.set_cons_succ, i64_w, i32_w]
                  rfl
                refine done_ (done_of HT_.out (by kernel_rfl)) ?_
                try go_wp2
                go_roundg k1
                case measure => have := HK1.out; omega
                case rel => exact ⟨(wrap64 (x5_1 + 1)), (by first | rfl | (simp; done) | (simp [*]; done)), H', ⟨by have := HK1.out; omega⟩, ⟨by repeat (first | (with_reducible first | exact HB.out | apply below_alloc | apply pw_below_drewN | apply below_drew1) | exact HB.out)⟩⟩
              · replace c8 := Bool.eq_false_iff.mpr c8
                subst c8
                have H1 : (some false) = some r := by rw [if_neg (show ¬ (false = true) by decide)] at H; exact H
                clear H
                have H := H1
                clear H1
                obtain rfl := Option.some.inj H
                try go_wp2
                have n0_ := Aside0.mk (below_drew1 HB.out)
                clear HB
                have HB := n0_
                clear n0_
                have p189 : 0 ≤ (x5_1 : Int) := of_decide_eq_true (by first | (with_reducible assumption) | assumption)
                have q189 : x5_1 < (l0.length : Int) := of_decide_eq_true (by first | (with_reducible assumption) | assumption)
                obtain ⟨ad189, e189, hx189_0, hx189_1, hx189_2⟩ := at_T105 HR0.out x5_1 p189 q189
                have hw189_2 := hx189_2
                have hw189_1 := hx189_1
                have hw189_0 := hx189_0
                cases e189
                try replace hx189_0 := (HB.out.cell (World.block_lt_of_cell? w _ hx189_0)).trans hx189_0
                try replace hx189_1 := (HB.out.cell (World.block_lt_of_cell? w _ hx189_1)).trans hx189_1
                try replace hx189_2 := (HB.out.cell (World.block_lt_of_cell? w _ hx189_2)).trans hx189_2
                replace p189 := eq_true p189
                replace q189 := eq_true q189
                have p190 : 0 ≤ (x5_1 : Int) := of_decide_eq_true (by first | (with_reducible assumption) | assumption)
                have q190 : x5_1 < (l1.length : Int) := of_decide_eq_true (by first | (with_reducible assumption) | assumption)
                obtain ⟨ad190, e190, hx190_0, hx190_1, hx190_2⟩ := at_T105 HR1.out x5_1 p190 q190
                have hw190_2 := hx190_2
                have hw190_1 := hx190_1
                have hw190_0 := hx190_0
                cases e190
                try replace hx190_0 := (HB.out.cell (World.block_lt_of_cell? w _ hx190_0)).trans hx190_0
                try replace hx190_1 := (HB.out.cell (World.block_lt_of_cell? w _ hx190_1)).trans hx190_1
                try replace hx190_2 := (HB.out.cell (World.block_lt_of_cell? w _ hx190_2)).trans hx190_2
                replace p190 := eq_true p190
                replace q190 := eq_true q190
                refine start_ (n := 10) (S := fun w' => w'.cell? (ad189.add ((x5_1).toNat * 3)) = some (.int .i64 ((rd_T105 l0 x5_1).f0)) ∧ w'.cell? ⟨(ad189.add ((x5_1).toNat * 3)).block, (ad189.add ((x5_1).toNat * 3)).off + 1, none⟩ = some (.int .i64 ((rd_T105 l0 x5_1).f1)) ∧ w'.cell? ⟨(ad189.add ((x5_1).toNat * 3)).block, (ad189.add ((x5_1).toNat * 3)).off + 2, none⟩ = some (.int .i64 ((rd_T105 l0 x5_1).f2)) ∧ w'.cell? (ad190.add ((x5_1).toNat * 3)) = some (.int .i64 ((rd_T105 l1 x5_1).f0)) ∧ w'.cell? ⟨(ad190.add ((x5_1).toNat * 3)).block, (ad190.add ((x5_1).toNat * 3)).off + 1, none⟩ = some (.int .i64 ((rd_T105 l1 x5_1).f1)) ∧ w'.cell? ⟨(ad190.add ((x5_1).toNat * 3)).block, (ad190.add ((x5_1).toNat * 3)).off + 2, none⟩ = some (.int .i64 ((rd_T105 l1 x5_1).f2))) (ds := []) #[false, false, false, false, false, false, false, false, false, false] (by kernel_rfl) rfl rfl ⟨((HB.out.cell (World.block_lt_of_cell? w _ hw189_0)).trans hw189_0), ((HB.out.cell (World.block_lt_of_cell? w _ hw189_1)).trans hw189_1), ((HB.out.cell (World.block_lt_of_cell? w _ hw189_2)).trans hw189_2), ((HB.out.cell (World.block_lt_of_cell? w _ hw190_0)).trans hw190_0), ((HB.out.cell (World.block_lt_of_cell? w _ hw190_1)).trans hw190_1), ((HB.out.cell (World.block_lt_of_cell? w _ hw190_2)).trans hw190_2)⟩ (fun hHeld => ?_); refine with_tabW laws_eqPairS.tab6 laws_eqPairS.bits6 (fun HT_ HW_ => ?_)
                generalize wr.drew = w11 at HB hx189_0 hx189_1 hx189_2 hx190_0 hx190_1 hx190_2 hHeld ⊢
                refine pure_ (i := 0) (N := some 17) (v := ?_) (a' := ?_) #[true, false, false, false, false, false, false, false, false, false] rfl rfl (any_of HT_.out (by kernel_rfl)) (fun _ _ _ h => h) (Or.inl ⟨by rfl, ?_⟩) ?_ ?_
                rotate_left
                · intro w'
                  go_simp
                  with_reducible rfl
                rotate_left
                · simp only [Act.put, List.setIfInBounds_toArray, List.set_cons_zero, List.set_cons_succ, i64_w, i32_w]
                  rfl
                refine pure_ (i := 1) (N := some 18) (v := ?_) (a' := ?_) #[true, true, false, false, false, false, false, false, false, false] rfl rfl (any_of HT_.out (by kernel_rfl)) (fun _ _ _ h => h) (Or.inl ⟨by rfl, ?_⟩) ?_ ?_
                rotate_left
                · intro w'
                  go_simp
                  with_reducible rfl
                rotate_left
                · simp only [Act.put, List.setIfInBounds_toArray, List.set_cons_zero, List.set_cons_succ, i64_w, i32_w]
                  rfl
                refine pure_ (i := 2) (N := some 19) (v := ?_) (a' := ?_) #[true, true, true, false, false, false, false, false, false, false] rfl rfl (any_of HT_.out (by kernel_rfl)) (fun _ _ _ h => h) (Or.inl ⟨by rfl, ?_⟩) ?_ ?_
                rotate_left
                · intro w'
                  go_simp
                  with_reducible rfl
                rotate_left
                · simp only [Act.put, List.setIfInBounds_toArray, List.set_cons_zero, List.set_cons_succ, i64_w, i32_w]
                  rfl
                refine pure_ (i := 4) (N := some 21) (v := ?_) (a' := ?_) #[true, true, true, false, true, false, false, false, false, false] rfl rfl (any_of HT_.out (by kernel_rfl)) (fun _ _ _ h => h) (Or.inl ⟨by rfl, ?_⟩) ?_ ?_
                rotate_left
                · intro w'
                  go_simp
                  with_reducible rfl
                rotate_left
                · simp only [Act.put, List.setIfInBounds_toArray, List.set_cons_zero, List.set_cons_succ, i64_w, i32_w]
                  rfl
                refine pure_ (i := 5) (N := some 22) (v := ?_) (a' := ?_) #[true, true, true, false, true, true, false, false, false, false] rfl rfl (any_of HT_.out (by kernel_rfl)) (fun _ _ _ h => h) (Or.inl ⟨by rfl, ?_⟩) ?_ ?_
                rotate_left
                · intro w'
                  go_simp
                  with_reducible rfl
                rotate_left
                · simp only [Act.put, List.setIfInBounds_toArray, List.set_cons_zero, List.set_cons_succ, i64_w, i32_w]
                  rfl
                refine pure_ (i := 6) (N := some 23) (v := ?_) (a' := ?_) #[true, true, true, false, true, true, true, false, false, false] rfl rfl (any_of HT_.out (by kernel_rfl)) (fun _ _ _ h => h) (Or.inl ⟨by rfl, ?_⟩) ?_ ?_
                rotate_left
                · intro w'
                  go_simp
                  with_reducible rfl
                rotate_left
                · simp only [Act.put, List.setIfInBounds_toArray, List.set_cons_zero, List.set_cons_succ, i64_w, i32_w]
                  rfl
                refine take_ (i := 3) (N := some 20) (v := ?_) (a' := ?_) #[true, true, true, true, true, true, true, false, false, false] rfl rfl (take_ofW HT_.out HW_.out (by kernel_rfl)) (fun _ _ _ h => h) (Or.inl ⟨by rfl, ?_⟩) hHeld ?_ ?_
                rotate_left
                · rintro w' ⟨s0, s1, s2, s3, s4, s5⟩
                  go_simp
                  with_reducible rfl
                rotate_left
                · simp only [Act.put, List.setIfInBounds_toArray, List.set_cons_zero, List.set_cons_succ, i64_w, i32_w]
                  rfl
                refine take_ (i := 7) (N := some 24) (v := ?_) (a' := ?_) #[true, true, true, true, true, true, true, true, false, false] rfl rfl (take_ofW HT_.out HW_.out (by kernel_rfl)) (fun _ _ _ h => h) (Or.inl ⟨by rfl, ?_⟩) hHeld ?_ ?_
                rotate_left
                · rintro w' ⟨s0, s1, s2, s3, s4, s5⟩
                  go_simp
                  with_reducible rfl
                rotate_left
                · simp only [Act.put, List.setIfInBounds_toArray, List.set_cons_zero, List.set_cons_succ, i64_w, i32_w]
                  rfl
                refine one_ (i := 8) (N := some 25) #[true, true, true, true, true, true, true, true, true, false] rfl rfl (one_of HT_.out (by kernel_rfl)) (by decide) (fun K hK => ?_)
                first | refine goes_ Try.func82 (by kernel_rfl) rfl #[.agg #[.int .i64 ((rd_T105 l0 x5_1).f0), .int .i64 ((rd_T105 l0 x5_1).f1), .int .i64 ((rd_T105 l0 x5_1).f2)], .agg #[.int .i64 ((rd_T105 l1 x5_1).f0), .int .i64 ((rd_T105 l1 x5_1).f1), .int .i64 ((rd_T105 l1 x5_1).f2)]] (by rfl) rfl rfl (by (try simp only [List.map_toArray, List.map_cons, List.map_nil]); first | done | rfl | (simp only [List.length_drop, List.length_take]; rfl)) ?_ | refine goesV_ Try.func82 (by kernel_rfl) rfl #[.agg #[.int .i64 ((rd_T105 l0 x5_1).f0), .int .i64 ((rd_T105 l0 x5_1).f1), .int .i64 ((rd_T105 l0 x5_1).f2)], .agg #[.int .i64 ((rd_T105 l1 x5_1).f0), .int .i64 ((rd_T105 l1 x5_1).f1), .int .i64 ((rd_T105 l1 x5_1).f2)]] (by rfl) rfl rfl (by rfl) (by first | rfl | (simp only [List.map_toArray, List.map_cons, List.map_nil]; rfl)) ?_
                with_reducible refine (laws_eqPair.calls ((rd_T105 l0 x5_1).f0) ((rd_T105 l0 x5_1).f1) ((rd_T105 l0 x5_1).f2) ((rd_T105 l1 x5_1).f0) ((rd_T105 l1 x5_1).f1) ((rd_T105 l1 x5_1).f2) false _ A7.out).mono ?_
                rintro e w12 ⟨rfl, hb⟩
                refine ⟨_, rfl, ?_⟩
                have n0_ := Aside0.mk (below_step (by repeat (first | (with_reducible first | exact HB.out | apply below_alloc | apply pw_below_drewN | apply below_drew1) | exact HB.out)) hb)
                clear HB
                have HB := n0_
                clear n0_
                (try clear hb)
                (try clear hb2)
                (try clear hk)
                (try clear hi)
                refine hK.out _ _ ⟨((HB.out.cell (World.block_lt_of_cell? w _ hw189_0)).trans hw189_0), ((HB.out.cell (World.block_lt_of_cell? w _ hw189_1)).trans hw189_1), ((HB.out.cell (World.block_lt_of_cell? w _ hw189_2)).trans hw189_2), ((HB.out.cell (World.block_lt_of_cell? w _ hw190_0)).trans hw190_0), ((HB.out.cell (World.block_lt_of_cell? w _ hw190_1)).trans hw190_1), ((HB.out.cell (World.block_lt_of_cell? w _ hw190_2)).trans hw190_2)⟩ (fun hHeld => ?_)
                clear hK K
                refine norm_ (a' := ?_) ?_ ?_
                rotate_left
                · show Act.put _ (some 25) _ = _
                  simp only [Act.put, List.setIfInBounds_toArray, List.set_cons_zero, List.set_cons_succ, i64_w, i32_w]
                  rfl
                refine pure_ (i := 9) (N := some 26) (v := ?_) (a' := ?_) #[true, true, true, true, true, true, true, true, true, true] rfl rfl (any_of HT_.out (by kernel_rfl)) (fun _ _ _ h => h) (Or.inl ⟨by rfl, ?_⟩) ?_ ?_
                rotate_left
                · intro w'
                  go_simp
                  with_reducible rfl
                rotate_left
                · simp only [Act.put, List.setIfInBounds_toArray, List.set_cons_zero, List.set_cons_succ, i64_w, i32_w]
                  rfl
                refine done_ (done_of HT_.out (by kernel_rfl)) ?_
                try go_wp2
                go_ret
                exact ⟨by first | rfl | (simp [errW_none, errW_some] <;> rfl) | (simp [*, errW_none, errW_some] <;> rfl), by repeat (first | (with_reducible first | exact HB.out | apply below_alloc | apply pw_below_drewN | apply below_drew1) | exact HB.out)⟩
            · rw [if_neg c6] at H
              exact absurd H (by simp)
          · rw [if_neg c5] at H
            exact absurd H (by simp)
        · rw [if_neg c4] at H
          have c4b0 : decide (x5_1 < (l0.length : Int)) = false := decide_eq_false c4
          clear c4
          obtain rfl := Option.some.inj H
          go_wp2
          go_ret
          exact ⟨by first | rfl | (simp [errW_none, errW_some] <;> rfl) | (simp [*, errW_none, errW_some] <;> rfl), by repeat (first | (with_reducible first | exact HB.out | apply below_alloc | apply pw_below_drewN | apply below_drew1) | exact HB.out)⟩
  · rw [if_neg c3] at H
    have c3b0 : ((l0.length : Int) == (l1.length : Int)) = false := beq_eq_false_iff_ne.mpr c3
    have c3b1 : ((l0.length : Int) != (l1.length : Int)) = true := bne_iff_ne.mpr c3
    have c3b2 : (l0.length == l1.length) = false := by first | simpa using c3 | (simp at c3 ⊢; omega)
    obtain rfl := Option.some.inj H
    go_enter Try.func32, Try.ntmps32
    go_wp2
    go_ret
    exact ⟨by first | rfl | (simp [errW_none, errW_some] <;> rfl) | (simp [*, errW_none, errW_some] <;> rfl), by repeat (first | (with_reducible first | exact HB.out | apply below_alloc | apply pw_below_drewN | apply below_drew1) | exact HB.out)⟩

end Go.Proofs.Ytpfbiopcfbokbaa.GNewPairs

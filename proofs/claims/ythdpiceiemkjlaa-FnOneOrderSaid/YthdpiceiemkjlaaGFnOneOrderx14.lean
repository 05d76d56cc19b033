-- Printed by wip/tools/print2.py out of the translation: walks and plain functions; Lean checks them.
import Derived.Test.YthdpiceiemkjlaaGFnOneOrderx13
import Derived.Test.YthdpiceiemkjlaaGFnOneOrderx0
import Derived.Test.YthdpiceiemkjlaaGFnOneOrderx1
import Derived.Test.YthdpiceiemkjlaaGFnOneOrderx3
import Derived.Test.YthdpiceiemkjlaaGFnOneOrderx4
import Derived.Test.YthdpiceiemkjlaaGFnOneOrderx12
namespace Go.Proofs.Ythdpiceiemkjlaa.GFnOneOrder
open Go.RowKit Go.Proofs.YthdpiceiemkjlaaW.PrintWords Go.Proofs.YthdpiceiemkjlaaW.PrintLast Go.Proofs.YthdpiceiemkjlaaW.PrintMore
attribute [local go_sem] max2_int min2_int max_two min_two max_three min_three max_four min_four   -- for this text's walks alone
set_option linter.unusedVariables false
set_option linter.unusedSimpArgs false

/-! ### impl_OrderFor: function 24 (by hand) -/
namespace Srch
/-- A variable that counts. -/
def JC (gc : Nat) (n : Int) (W : World) : Prop := W.heap[gc]? = some (.cells #[.int .i64 n] 3 (0, 0))
theorem JC.st (gc : Nat) (n : Int) : ∀ W1 W2 : World, (∀ k, k = gc → W2.heap[k]? = W1.heap[k]?) → JC gc n W1 → JC gc n W2 := fun W1 W2 h hj => (h gc rfl).trans hj
theorem putC {gc : Nat} {n : Int} {w0 w W : World} (h : Bel (fun k => k = gc) (JC gc n) w0 w W) (v : Int) : Bel (fun k => k = gc) (JC gc v) w0 w (W.setCell ⟨gc, 0, none⟩ (.int .i64 v)) :=
 ⟨h.b.setCell (h.c gc rfl).1 _, h.k.setCell (p := ⟨gc, 0, none⟩) (.inl rfl) _, h.c, h.c0, blk_put (cs := #[.int .i64 n]) h.j 0 _ rfl, JC.st gc v⟩
/-- Two variables: the order that was found, and whether one was. -/
def S2 (gf gi : Nat) (k : Nat) : Prop := k = gf ∨ k = gi
def JN (gf gi : Nat) (u : Value) (W : World) : Prop := W.heap[gf]? = some (.cells #[u] 23 (0, 0)) ∧ W.heap[gi]? = some (.cells #[.bool false] 4 (0, 0))
theorem JN.st (gf gi : Nat) (u : Value) : ∀ W1 W2 : World, (∀ k, S2 gf gi k → W2.heap[k]? = W1.heap[k]?) → JN gf gi u W1 → JN gf gi u W2 := fun W1 W2 h hj => ⟨(h gf (.inl rfl)).trans hj.1, (h gi (.inr rfl)).trans hj.2⟩
/-- The order that was found lies where the closure's variables lead. -/
def FF (gf gi b : Nat) (o : List Int) (W : World) : Prop := ∃ v : Value, W.heap[gf]? = some (.cells #[v] 23 (0, 0)) ∧ W.heap[gi]? = some (.cells #[.bool true] 4 (0, 0)) ∧ Kd.R (Kd.int .i64) 3 W b (fun _ => True) v o
theorem putN {gf gi : Nat} {u v : Value} {o : List Int} {w0 w W : World} (hne : gi ≠ gf) (h : Bel (S2 gf gi) (JN gf gi u) w0 w W) (hR : Kd.R (Kd.int .i64) 3 W w0.heap.size (fun k => ¬ S2 gf gi k) v o) : Fnd (S2 gf gi) (FF gf gi w0.heap.size) o w0 w ((W.setCell ⟨gf, 0, none⟩ v).setCell ⟨gi, 0, none⟩ (.bool true)) :=
 ⟨(h.b.setCell (h.c gf (.inl rfl)).1 _).setCell (h.c gi (.inr rfl)).1 _, (h.k.setCell (p := ⟨gf, 0, none⟩) (.inl (.inl rfl)) _).setCell (p := ⟨gi, 0, none⟩) (.inl (.inr rfl)) _, v,
  (Below.heap_setCell _ _ _ _ (fun e => hne e.symm)).trans (blk_put (cs := #[u]) h.j.1 0 _ rfl), blk_put (cs := #[.bool false]) ((Below.heap_setCell _ _ _ _ hne).trans h.j.2) 0 _ rfl,
  Kd.R_mono (Kd.R_far (p := ⟨gi, 0, none⟩) (Kd.R_far (p := ⟨gf, 0, none⟩) hR (fun k hk e => hk (.inl e)) _) (fun k hk e => hk (.inr e)) _) (fun _ _ => trivial)⟩
def mrC (n : Int) (_ : List Int) : Option Int := some (wrap64 (n + 1))
def mrN (_ : Int) (_ : List Int) : Option Int := none
end Srch
set_option maxHeartbeats 1000000 in
theorem Srch.one75 (gc : Nat) (n : Int) (v : Value) (w : World) (hj : w.heap[gc]? = some (.cells #[.int .i64 n] 3 (0, 0))) :
  Calls Try.prog 75 #[v, .pointer (some ⟨gc, 0, none⟩)] w fun e w' => e = .returned (.bool true) ∧ w' = w.setCell ⟨gc, 0, none⟩ (.int .i64 (wrap64 (n + 1))) := by
 have hc0 : w.cell? ⟨gc, 0, none⟩ = some (.int .i64 n) := (blk_cell hj 0).trans rfl
 have hf0 := blk_frozen hj 0
 clear hj
 go_enter Try.func75, Try.ntmps75
 go_wp2
 go_ret
 exact ⟨rfl, rfl⟩
set_option maxHeartbeats 1000000 in
theorem Srch.one74 (gf gi : Nat) (u : Value) (A : Option Addr) (n c : Nat) (w : World) (hne : gi ≠ gf) (hj : Srch.JN gf gi u w) :
  Calls Try.prog 74 #[.slice A n c, .pointer (some ⟨gf, 0, none⟩), .pointer (some ⟨gi, 0, none⟩)] w fun e w' => e = .returned (.bool false) ∧ w' = (w.setCell ⟨gf, 0, none⟩ (.slice A n c)).setCell ⟨gi, 0, none⟩ (.bool true) := by
 have hc0 : w.cell? ⟨gf, 0, none⟩ = some u := (blk_cell hj.1 0).trans rfl
 have hf0 := blk_frozen hj.1 0
 have hc1 : w.cell? ⟨gi, 0, none⟩ = some (.bool false) := (blk_cell hj.2 0).trans rfl
 have hf1 := blk_frozen hj.2 0
 have hn2 := hne.symm
 clear hj
 go_enter Try.func74, Try.ntmps74
 go_wp2
 go_ret
 exact ⟨rfl, rfl⟩
theorem Srch.hands_count (gc : Nat) (w0 : World) : Srch.Hands (.func (.func 75) #[] #[.pointer (some ⟨gc, 0, none⟩)]) (fun k => k = gc) (Srch.JC gc) (fun _ _ => False) Srch.mrC w0 :=
 .inl ⟨gc, rfl, fun n A c l w W hB _ => (Srch.one75 gc n _ _ hB.j).mono (fun e W' h => ⟨h.1, by rw [h.2]; exact Srch.putC hB _⟩)⟩
theorem Srch.hands_find (gf gi : Nat) (u : Value) (hne : gi ≠ gf) (w0 : World) : Srch.Hands (.func (.func 74) #[] #[.pointer (some ⟨gf, 0, none⟩), .pointer (some ⟨gi, 0, none⟩)]) (Srch.S2 gf gi) (fun _ => Srch.JN gf gi u) (Srch.FF gf gi w0.heap.size) Srch.mrN w0 :=
 .inr ⟨gf, gi, rfl, fun n A c l w W hB hR => (Srch.one74 gf gi u A l.length c _ hne hB.j).mono (fun e W' h => ⟨h.1, by rw [h.2]; exact Srch.putN hne hB hR⟩)⟩
theorem Srch.Post.goes {S_ : Nat → Prop} {J_ : Int → World → Prop} {w0 w W : World} {r : Int × Option (List Int)} (h : Srch.Post S_ J_ (fun _ _ => False) w0 w r W) : Srch.Bel S_ (J_ r.1) w0 w W := by
 obtain ⟨n, q⟩ := r
 cases q with
 | none => exact h
 | some o => exact (Srch.Fnd.j h).elim
theorem Srch.start2 {gf gi : Nat} {u : Value} {w0 W : World} (hb : Below w0.heap.size w0 W) (hf : w0.heap.size ≤ gf) (hi : w0.heap.size ≤ gi) (h1 : W.heap[gf]? = some (.cells #[u] 23 (0, 0))) (h2 : W.heap[gi]? = some (.cells #[.bool false] 4 (0, 0))) : Srch.Bel (Srch.S2 gf gi) (Srch.JN gf gi u) w0 W W :=
 ⟨hb, Kept.refl _ _, fun k hk => by
  rcases hk with rfl | rfl
  ·exact ⟨hf, blk_lt h1⟩
  ·exact ⟨hi, blk_lt h2⟩, hb.size, ⟨h1, h2⟩, Srch.JN.st gf gi u⟩
theorem Srch.F_row2 {α : Type} {d : Kd α} {e base n cc gf gi : Nat} {W : World} {ok : Nat → Prop} {A : Option Addr} {xs : List α} (h : d.R e W base ok (.slice A n cc) xs) (hf : gf < base) (hi : gi < base) : Kd.F d W (fun k => ¬ Srch.S2 gf gi k) A n xs :=
 Kd.F_mono (Kd.R_F (Kd.R_bound h)) (fun k hk e_ => by have := hk.2.1; rcases e_ with e_ | e_ <;> omega)
def impl_OrderFor.f (k : Nat) (a0 : Int) (l1 : List (S77)) : Option (List Int × Bool) := (impl_isKind.f a0).bind fun a => (if a = true then ((impl_GoodHistory.f k l1).bind fun b => (if b = true then ((impl_newObject.f a0).bind fun o => (impl_search.f k l1 [] o.1 o.2 Srch.mrN 0).bind fun q => some (q.2.getD [], q.2.isSome)) else (some ([], false)))) else (some ([], false)))
set_option maxHeartbeats 8000000 in
set_option maxRecDepth 100000 in
theorem impl_OrderFor.calls (k : Nat) (a0 : Int) (A1 : Option Addr) (c1 : Nat) (l1 : List (S77)) (r1 : List Int) (r2 : Bool) (w : World) (hr1 : Kd.C k77 w A1 l1.length l1) (hc1 : l1.length ≤ c1) (h : impl_OrderFor.f k a0 l1 = some (r1, r2)) :
  Calls Try.prog 24 #[.int .i64 a0, .slice A1 l1.length c1] w fun e w' => ∃ v0_ : Value, e = .returned (.tuple #[v0_, .bool r2]) ∧ Kd.R (Kd.int .i64) 3 w' w.heap.size (fun _ => True) v0_ r1 ∧ Below w.heap.size w w' := by
 have HR1 := a_ hr1
 have HC1 := a_ hc1
 have HB := a_ (Below.refl w.heap.size w)
 clear hr1 hc1
 unfold impl_OrderFor.f at h
 obtain ⟨a, Aa, h⟩ := Option.bind_eq_some_iff.mp h
 have Aa := a_ Aa
 cases a with
 | false =>
  have h2 : (([] : List Int), false) = (r1, r2) := Option.some.inj h
  cases h2
  clear h
  go_enter Try.func24, Try.ntmps24
  go_wp2_with (first
   | (go_at_call 63; (with_reducible refine (impl_isKind.calls a0 false _ Aa.out).mono ?_); rintro e w1 ⟨rfl, ⟨nd, rfl⟩⟩; have B1 := a_ (pw_below_drewN HB.out nd)))
  go_ret2
  exact ⟨_, rfl, Kd.R_nil _ _ _ _ _, B1.out⟩
 | true =>
  replace h : ((impl_GoodHistory.f k l1).bind fun b => (if b = true then ((impl_newObject.f a0).bind fun o => (impl_search.f k l1 [] o.1 o.2 Srch.mrN 0).bind fun q => some (q.2.getD [], q.2.isSome)) else (some (([] : List Int), false)))) = some (r1, r2) := h
  obtain ⟨b, Ab, h⟩ := Option.bind_eq_some_iff.mp h
  have Ab := a_ Ab
  cases b with
  | false =>
   have h2 : (([] : List Int), false) = (r1, r2) := Option.some.inj h
   cases h2
   clear h
   go_enter Try.func24, Try.ntmps24
   go_wp2_with (first
    | (go_at_call 63; (with_reducible refine (impl_isKind.calls a0 true _ Aa.out).mono ?_); rintro e w1 ⟨rfl, ⟨nd, rfl⟩⟩; have B1 := a_ (pw_below_drewN HB.out nd); clear Aa)
    | (go_at_call 31; (with_reducible refine (impl_GoodHistory.calls k A1 c1 l1 false _ (Kd.C_below HR1.out B1.out) HC1.out Ab.out).mono ?_); rintro e w2 ⟨rfl, hb⟩; have B2 := a_ (below_step B1.out hb); clear hb))
   go_ret2
   exact ⟨_, rfl, Kd.R_nil _ _ _ _ _, B2.out⟩
  | true =>
   replace h : ((impl_newObject.f a0).bind fun o => (impl_search.f k l1 [] o.1 o.2 Srch.mrN 0).bind fun q => some (q.2.getD [], q.2.isSome)) = some (r1, r2) := h
   obtain ⟨⟨o1, o2⟩, Ao, h⟩ := Option.bind_eq_some_iff.mp h
   obtain ⟨⟨n_, q⟩, An, h⟩ := Option.bind_eq_some_iff.mp h
   have Ao := a_ Ao
   cases q with
   | none =>
    have h2 : (([] : List Int), false) = (r1, r2) := Option.some.inj h
    cases h2
    have An := a_ (show impl_search.f k l1 [] o1 o2 Srch.mrN 0 = some (n_, none) from An)
    clear h
    go_enter Try.func24, Try.ntmps24
    go_wp2_with (first
     | (go_at_call 63; (with_reducible refine (impl_isKind.calls a0 true _ Aa.out).mono ?_); rintro e w1 ⟨rfl, ⟨nd, rfl⟩⟩; have B1 := a_ (pw_below_drewN HB.out nd); clear Aa)
     | (go_at_call 31; (with_reducible refine (impl_GoodHistory.calls k A1 c1 l1 true _ (Kd.C_below HR1.out B1.out) HC1.out Ab.out).mono ?_); rintro e w2 ⟨rfl, hb⟩; have B2 := a_ (below_step B1.out hb); clear hb B1 Ab)
     | ((with_reducible refine gate_dst (N := 16) rfl ?_); refine Kd.R_lit (Kd.int .i64) _ 3 ?hg (N := 16) ?hd (xs := ([] : List Int)) (inner := []) (ok := fun _ => True) (okp := fun _ => True) ?hr ?hp (fun _ hk => hk) trivial (Below.refl _ _) (Nat.le_refl _) (by simp) ?_; (case hd => rfl); (case hg => rfl); (case hr => first | (go_simp; done) | (go_simp; rfl)); (case hp => exact (Reps.none _ _)); intro v3 w3 ho hb hg_ hnew_; clear hg_ hnew_; have O3 := a_ ho; have B3 := a_ (below_step B2.out hb); clear ho hb B2; obtain ⟨A3, c3, e3⟩ := Kd.R_slice O3.out; subst e3)
     | ((with_reducible refine gate_dst (N := 6) rfl ?_); refine box_event ?hg (N := 6) ?hd (cs := #[.slice none 0 0]) (t := 23) ?hr ?_; (case hd => rfl); (case hg => rfl); (case hr => first | (go_simp; done) | (go_simp; rfl)); intro gf hg w4 hbox hb; have GF := a_ (by rw [hg]; exact below_size B3.out : w.heap.size ≤ gf); have B4 := a_ (below_step B3.out hb); have BF := a_ hbox; clear hb hg hbox B3 O3; have hcz0 : w4.cell? ⟨gf, 0, none⟩ = some (.slice none 0 0) := (blk_cell BF.out 0).trans rfl; have hfz0 := blk_frozen BF.out 0)
     | ((with_reducible refine gate_dst (N := 7) rfl ?_); refine box_event ?hg (N := 7) ?hd (cs := #[.bool false]) (t := 4) ?hr ?_; (case hd => rfl); (case hg => rfl); (case hr => first | (go_simp; done) | (go_simp; rfl)); intro gi hg w5 hbox hb; have GI := a_ (by rw [hg]; exact below_size B4.out : w.heap.size ≤ gi); have NE := a_ (by rw [hg]; exact Nat.ne_of_gt (blk_lt BF.out) : gi ≠ gf); have B5 := a_ (below_step B4.out hb); have BF5 := a_ (blk_below BF.out hb); have BI := a_ hbox; clear hb hg hbox B4 BF hcz0 hfz0; have hne_ := NE.out; have hne2_ := NE.out.symm; have hcz0 : w5.cell? ⟨gf, 0, none⟩ = some (.slice none 0 0) := (blk_cell BF5.out 0).trans rfl; have hfz0 := blk_frozen BF5.out 0; have hcz1 : w5.cell? ⟨gi, 0, none⟩ = some (.bool false) := (blk_cell BI.out 0).trans rfl; have hfz1 := blk_frozen BI.out 0)
     | ((with_reducible refine gate_store (t := 23) (p := 6) rfl ?_); refine store_event (t := 23) (p := 6) (v := ?vo_1) (w1 := (w5.setCell ⟨gf, 0, none⟩ (.slice A3 0 c3))) ?hg ?ho ?hn ?hr ?_; (case ho => rfl); (case hg => rfl); (case hn => rfl); (case hr => first | (go_simp; done) | (go_simp; rfl)); intro w6 hw; have B6 : Aside0 (Below w.heap.size w w6) := ⟨by rw [hw]; exact below_set B5.out GF.out⟩; have BF6 : Aside0 (w6.heap[gf]? = some (.cells #[.slice A3 0 c3] 23 (0, 0))) := ⟨by rw [hw]; exact blk_put (cs := #[.slice none 0 0]) BF5.out 0 _ rfl⟩; have BI6 : Aside0 (w6.heap[gi]? = some (.cells #[.bool false] 4 (0, 0))) := ⟨by rw [hw]; exact (Below.heap_setCell _ _ _ _ NE.out).trans BI.out⟩; clear hw B5 BF5 BI hcz0 hfz0 hcz1 hfz1; have hcz1 : w6.cell? ⟨gi, 0, none⟩ = some (.bool false) := (blk_cell BI6.out 0).trans rfl; have hfz1 := blk_frozen BI6.out 0)
     | ((with_reducible refine gate_store (t := 4) (p := 7) rfl ?_); refine store_event (t := 4) (p := 7) (v := ?vo_2) (w1 := (w6.setCell ⟨gi, 0, none⟩ (.bool false))) ?hg ?ho ?hn ?hr ?_; (case ho => rfl); (case hg => rfl); (case hn => rfl); (case hr => first | (go_simp; done) | (go_simp; rfl)); intro w7 hw; have B7 : Aside0 (Below w.heap.size w w7) := ⟨by rw [hw]; exact below_set B6.out GI.out⟩; have BF7 : Aside0 (w7.heap[gf]? = some (.cells #[.slice A3 0 c3] 23 (0, 0))) := ⟨by rw [hw]; exact (Below.heap_setCell _ _ _ _ NE.out.symm).trans BF6.out⟩; have BI7 : Aside0 (w7.heap[gi]? = some (.cells #[.bool false] 4 (0, 0))) := ⟨by rw [hw]; exact blk_put (cs := #[.bool false]) BI6.out 0 _ rfl⟩; clear hw B6 BF6 BI6 hcz1 hfz1 hne_ hne2_)
     | ((with_reducible refine gate_dst (N := 18) rfl ?_); refine Kd.R_lit (Kd.int .i64) _ 3 ?hg (N := 18) ?hd (xs := ([] : List Int)) (inner := []) (ok := fun _ => True) (okp := fun _ => True) ?hr ?hp (fun _ hk => hk) trivial (Below.refl _ _) (Nat.le_refl _) (by simp) ?_; (case hd => rfl); (case hg => rfl); (case hr => first | (go_simp; done) | (go_simp; rfl)); (case hp => exact (Reps.none _ _)); intro v8 w8 ho hb hg_ hnew_; clear hg_ hnew_; have LF := a_ (blk_lt BF7.out); have LI := a_ (blk_lt BI7.out); have O8 := a_ (Kd.R_lower (Kd.R_mono (Kd.R_bound ho) (fun k_ hk_ e_ => by have h2_ := hk_.2.1; rcases e_ with e_ | e_ <;> rw [e_] at h2_; exact absurd LF.out (Nat.not_lt.mpr h2_); exact absurd LI.out (Nat.not_lt.mpr h2_)) : Kd.R (Kd.int .i64) 3 w8 w7.heap.size (fun k_ => ¬ Srch.S2 gf gi k_) v8 []) B7.out.size); have B8 := a_ (below_step B7.out hb); have BF8 := a_ (blk_below BF7.out hb); have BI8 := a_ (blk_below BI7.out hb); clear ho hb B7 BF7 BI7; obtain ⟨A8, c8, e8⟩ := Kd.R_slice O8.out; subst e8)
     | (go_at_call 73; (with_reducible refine (impl_newObject.calls a0 o1 o2 _ Ao.out).mono ?_); rintro e w9 ⟨v9, rfl, ho, hb⟩; have LF9 := a_ (blk_lt BF8.out); have LI9 := a_ (blk_lt BI8.out); have O9 := a_ ho; have P8 := a_ (Kd.R_below O8.out hb); have B9 := a_ (below_step B8.out hb); have BF9 := a_ (blk_below BF8.out hb); have BI9 := a_ (blk_below BI8.out hb); clear ho hb B8 BF8 BI8 O8 Ao; obtain ⟨A9, c9, e9⟩ := Kd.R_slice O9.out; subst e9; have F9 := a_ (Srch.F_row2 O9.out LF9.out LI9.out); have C9 := a_ (Kd.R_reads' O9.out).2.1)
     | (go_at_call 72; refine (impl_search.calls _ (Srch.S2 gf gi) (fun _ => Srch.JN gf gi (.slice A3 0 c3)) (Srch.FF gf gi w.heap.size) Srch.mrN w (Srch.hands_find gf gi (.slice A3 0 c3) NE.out w) A1 c1 l1 HR1.out HC1.out k A8 c8 [] o1 A9 c9 o2 0 (n_, none) _ (Srch.start2 B9.out GF.out GI.out BF9.out BI9.out) P8.out F9.out C9.out An.out).mono ?_; rintro e w10 ⟨rfl, hb0⟩; have HB10 := a_ (show Srch.Bel (Srch.S2 gf gi) (Srch.JN gf gi (.slice A3 0 c3)) w w9 w10 from hb0); clear hb0 BF9 BI9 B9; have hcz1 : w10.cell? ⟨gi, 0, none⟩ = some (.bool false) := (blk_cell HB10.out.j.2 0).trans rfl; have hfz1 := blk_frozen HB10.out.j.2 0))
    go_ret2
    exact ⟨_, rfl, Kd.R_nil _ _ _ _ _, HB10.out.b⟩
   | some o_ =>
    have h2 : (o_, true) = (r1, r2) := Option.some.inj h
    cases h2
    have An := a_ (show impl_search.f k l1 [] o1 o2 Srch.mrN 0 = some (n_, some r1) from An)
    clear h
    go_enter Try.func24, Try.ntmps24
    go_wp2_with (first
     | (go_at_call 63; (with_reducible refine (impl_isKind.calls a0 true _ Aa.out).mono ?_); rintro e w1 ⟨rfl, ⟨nd, rfl⟩⟩; have B1 := a_ (pw_below_drewN HB.out nd); clear Aa)
     | (go_at_call 31; (with_reducible refine (impl_GoodHistory.calls k A1 c1 l1 true _ (Kd.C_below HR1.out B1.out) HC1.out Ab.out).mono ?_); rintro e w2 ⟨rfl, hb⟩; have B2 := a_ (below_step B1.out hb); clear hb B1 Ab)
     | ((with_reducible refine gate_dst (N := 16) rfl ?_); refine Kd.R_lit (Kd.int .i64) _ 3 ?hg (N := 16) ?hd (xs := ([] : List Int)) (inner := []) (ok := fun _ => True) (okp := fun _ => True) ?hr ?hp (fun _ hk => hk) trivial (Below.refl _ _) (Nat.le_refl _) (by simp) ?_; (case hd => rfl); (case hg => rfl); (case hr => first | (go_simp; done) | (go_simp; rfl)); (case hp => exact (Reps.none _ _)); intro v3 w3 ho hb hg_ hnew_; clear hg_ hnew_; have O3 := a_ ho; have B3 := a_ (below_step B2.out hb); clear ho hb B2; obtain ⟨A3, c3, e3⟩ := Kd.R_slice O3.out; subst e3)
     | ((with_reducible refine gate_dst (N := 6) rfl ?_); refine box_event ?hg (N := 6) ?hd (cs := #[.slice none 0 0]) (t := 23) ?hr ?_; (case hd => rfl); (case hg => rfl); (case hr => first | (go_simp; done) | (go_simp; rfl)); intro gf hg w4 hbox hb; have GF := a_ (by rw [hg]; exact below_size B3.out : w.heap.size ≤ gf); have B4 := a_ (below_step B3.out hb); have BF := a_ hbox; clear hb hg hbox B3 O3; have hcz0 : w4.cell? ⟨gf, 0, none⟩ = some (.slice none 0 0) := (blk_cell BF.out 0).trans rfl; have hfz0 := blk_frozen BF.out 0)
     | ((with_reducible refine gate_dst (N := 7) rfl ?_); refine box_event ?hg (N := 7) ?hd (cs := #[.bool false]) (t := 4) ?hr ?_; (case hd => rfl); (case hg => rfl); (case hr => first | (go_simp; done) | (go_simp; rfl)); intro gi hg w5 hbox hb; have GI := a_ (by rw [hg]; exact below_size B4.out : w.heap.size ≤ gi); have NE := a_ (by rw [hg]; exact Nat.ne_of_gt (blk_lt BF.out) : gi ≠ gf); have B5 := a_ (below_step B4.out hb); have BF5 := a_ (blk_below BF.out hb); have BI := a_ hbox; clear hb hg hbox B4 BF hcz0 hfz0; have hne_ := NE.out; have hne2_ := NE.out.symm; have hcz0 : w5.cell? ⟨gf, 0, none⟩ = some (.slice none 0 0) := (blk_cell BF5.out 0).trans rfl; have hfz0 := blk_frozen BF5.out 0; have hcz1 : w5.cell? ⟨gi, 0, none⟩ = some (.bool false) := (blk_cell BI.out 0).trans rfl; have hfz1 := blk_frozen BI.out 0)
     | ((with_reducible refine gate_store (t := 23) (p := 6) rfl ?_); refine store_event (t := 23) (p := 6) (v := ?vo_1) (w1 := (w5.setCell ⟨gf, 0, none⟩ (.slice A3 0 c3))) ?hg ?ho ?hn ?hr ?_; (case ho => rfl); (case hg => rfl); (case hn => rfl); (case hr => first | (go_simp; done) | (go_simp; rfl)); intro w6 hw; have B6 : Aside0 (Below w.heap.size w w6) := ⟨by rw [hw]; exact below_set B5.out GF.out⟩; have BF6 : Aside0 (w6.heap[gf]? = some (.cells #[.slice A3 0 c3] 23 (0, 0))) := ⟨by rw [hw]; exact blk_put (cs := #[.slice none 0 0]) BF5.out 0 _ rfl⟩; have BI6 : Aside0 (w6.heap[gi]? = some (.cells #[.bool false] 4 (0, 0))) := ⟨by rw [hw]; exact (Below.heap_setCell _ _ _ _ NE.out).trans BI.out⟩; clear hw B5 BF5 BI hcz0 hfz0 hcz1 hfz1; have hcz1 : w6.cell? ⟨gi, 0, none⟩ = some (.bool false) := (blk_cell BI6.out 0).trans rfl; have hfz1 := blk_frozen BI6.out 0)
     | ((with_reducible refine gate_store (t := 4) (p := 7) rfl ?_); refine store_event (t := 4) (p := 7) (v := ?vo_2) (w1 := (w6.setCell ⟨gi, 0, none⟩ (.bool false))) ?hg ?ho ?hn ?hr ?_; (case ho => rfl); (case hg => rfl); (case hn => rfl); (case hr => first | (go_simp; done) | (go_simp; rfl)); intro w7 hw; have B7 : Aside0 (Below w.heap.size w w7) := ⟨by rw [hw]; exact below_set B6.out GI.out⟩; have BF7 : Aside0 (w7.heap[gf]? = some (.cells #[.slice A3 0 c3] 23 (0, 0))) := ⟨by rw [hw]; exact (Below.heap_setCell _ _ _ _ NE.out.symm).trans BF6.out⟩; have BI7 : Aside0 (w7.heap[gi]? = some (.cells #[.bool false] 4 (0, 0))) := ⟨by rw [hw]; exact blk_put (cs := #[.bool false]) BI6.out 0 _ rfl⟩; clear hw B6 BF6 BI6 hcz1 hfz1 hne_ hne2_)
     | ((with_reducible refine gate_dst (N := 18) rfl ?_); refine Kd.R_lit (Kd.int .i64) _ 3 ?hg (N := 18) ?hd (xs := ([] : List Int)) (inner := []) (ok := fun _ => True) (okp := fun _ => True) ?hr ?hp (fun _ hk => hk) trivial (Below.refl _ _) (Nat.le_refl _) (by simp) ?_; (case hd => rfl); (case hg => rfl); (case hr => first | (go_simp; done) | (go_simp; rfl)); (case hp => exact (Reps.none _ _)); intro v8 w8 ho hb hg_ hnew_; clear hg_ hnew_; have LF := a_ (blk_lt BF7.out); have LI := a_ (blk_lt BI7.out); have O8 := a_ (Kd.R_lower (Kd.R_mono (Kd.R_bound ho) (fun k_ hk_ e_ => by have h2_ := hk_.2.1; rcases e_ with e_ | e_ <;> rw [e_] at h2_; exact absurd LF.out (Nat.not_lt.mpr h2_); exact absurd LI.out (Nat.not_lt.mpr h2_)) : Kd.R (Kd.int .i64) 3 w8 w7.heap.size (fun k_ => ¬ Srch.S2 gf gi k_) v8 []) B7.out.size); have B8 := a_ (below_step B7.out hb); have BF8 := a_ (blk_below BF7.out hb); have BI8 := a_ (blk_below BI7.out hb); clear ho hb B7 BF7 BI7; obtain ⟨A8, c8, e8⟩ := Kd.R_slice O8.out; subst e8)
     | (go_at_call 73; (with_reducible refine (impl_newObject.calls a0 o1 o2 _ Ao.out).mono ?_); rintro e w9 ⟨v9, rfl, ho, hb⟩; have LF9 := a_ (blk_lt BF8.out); have LI9 := a_ (blk_lt BI8.out); have O9 := a_ ho; have P8 := a_ (Kd.R_below O8.out hb); have B9 := a_ (below_step B8.out hb); have BF9 := a_ (blk_below BF8.out hb); have BI9 := a_ (blk_below BI8.out hb); clear ho hb B8 BF8 BI8 O8 Ao; obtain ⟨A9, c9, e9⟩ := Kd.R_slice O9.out; subst e9; have F9 := a_ (Srch.F_row2 O9.out LF9.out LI9.out); have C9 := a_ (Kd.R_reads' O9.out).2.1)
     | (go_at_call 72; refine (impl_search.calls _ (Srch.S2 gf gi) (fun _ => Srch.JN gf gi (.slice A3 0 c3)) (Srch.FF gf gi w.heap.size) Srch.mrN w (Srch.hands_find gf gi (.slice A3 0 c3) NE.out w) A1 c1 l1 HR1.out HC1.out k A8 c8 [] o1 A9 c9 o2 0 (n_, some r1) _ (Srch.start2 B9.out GF.out GI.out BF9.out BI9.out) P8.out F9.out C9.out An.out).mono ?_; rintro e w10 ⟨rfl, hb0⟩; have HB10 := a_ (show Srch.Fnd (Srch.S2 gf gi) (Srch.FF gf gi w.heap.size) r1 w w9 w10 from hb0); clear hb0 BF9 BI9 B9; obtain ⟨vf, hj1, hj2, hj3⟩ := HB10.out.j; have OF := a_ hj3; have hcz0 : w10.cell? ⟨gf, 0, none⟩ = some vf := (blk_cell hj1 0).trans rfl; have hfz0 := blk_frozen hj1 0; have hcz1 : w10.cell? ⟨gi, 0, none⟩ = some (.bool true) := (blk_cell hj2 0).trans rfl; have hfz1 := blk_frozen hj2 0; clear hj1 hj2 hj3; obtain ⟨Af, cf, ef⟩ := Kd.R_slice OF.out; subst ef))
    go_ret2
    exact ⟨_, rfl, OF.out, HB10.out.b⟩

/-! ### spec_CountOrders: function 26 -/
def spec_CountOrders.f (k : Nat) (a0 : Int) (l1 : List (S77)) : Option (Int × Bool) := (spec_l16Kind.f a0).bind fun t347 => (if t347 = true then ((spec_l16Good.f k l1).bind fun t348 => (if t348 = true then ((spec_l16Orders.f k a0 l1 ([] : List Int)).bind fun t349 => (some ((t349.length : Int), true))) else (some (0, false)))) else (some (0, false)))
set_option maxHeartbeats 8000000 in
set_option maxRecDepth 100000 in
theorem spec_CountOrders.calls (k : Nat) (a0 : Int) (A1 : Option Addr) (c1 : Nat) (l1 : List (S77)) (r1 : Int) (r2 : Bool) (w : World) (hr1 : Kd.C k77 w A1 l1.length l1) (hc1 : l1.length ≤ c1) (h : spec_CountOrders.f k a0 l1 = some (r1, r2)) :
  Calls Try.prog 26 #[.int .i64 a0, .slice A1 l1.length c1] w fun e w' => e = .returned (.tuple #[.int .i64 r1, .bool r2]) ∧ Below w.heap.size w w' := by
 have HR1 := a_ hr1
 have HC1 := a_ hc1
 clear hr1 hc1
 have HB := a_ (Below.refl w.heap.size w)
 have H : ((spec_l16Kind.f a0).bind fun t347 => (if t347 = true then ((spec_l16Good.f k l1).bind fun t348 => (if t348 = true then ((spec_l16Orders.f k a0 l1 ([] : List Int)).bind fun t349 => (some ((t349.length : Int), true))) else (some (0, false)))) else (some (0, false)))) = some (r1, r2) := h
 clear h
 replace H := Option.bind_eq_some_iff.mp H
 obtain ⟨t347, A30, H⟩ := H
 try dsimp only at H
 have A3 := a_ A30
 clear A30
 by_cases c4 : t347 = true
 ·subst c4
  rw [if_pos rfl] at H
  replace H := Option.bind_eq_some_iff.mp H
  obtain ⟨t348, A50, H⟩ := H
  try dsimp only at H
  have A5 := a_ A50; clear A50
  by_cases c6 : t348 = true
  ·subst c6
   rw [if_pos rfl] at H
   replace H := Option.bind_eq_some_iff.mp H
   obtain ⟨t349, A70, H⟩ := H
   try dsimp only at H
   have A7 := a_ A70; clear A70
   simp only [Option.some.injEq, Prod.mk.injEq] at H
   obtain ⟨rfl, rfl⟩ := H
   go_enter Try.func26, Try.ntmps26
   go_wp2_with (first | ((with_reducible refine gate_callee (f := 58) rfl ?_); refine goesL_ (some 7) rfl rfl Try.func58 (by kernel_rfl) rfl #[.int .i64 a0] rfl la_ ?_; (with_reducible refine (spec_l16Kind.calls a0 true _ A3.out).mono ?_); rintro e w' ⟨rfl, ⟨nd, rfl⟩⟩; refine ⟨_, rfl, ?_⟩) | (go_at_call 59; (with_reducible refine (spec_l16Good.calls k _ _ l1 true _ ?side1 ?side2 A5.out).mono ?_); (case side1 => repeat (first | exact HR1.out | (with_reducible refine Kd.C_alloc ?_ _) | (with_reducible refine Kd.C_drewN ?_ _) | (with_reducible refine Kd.C_drew ?_))); (case side2 => exact HC1.out); rintro e w8 ⟨rfl, hb⟩; have n0_ := a_ (below_step b_ hb); clear HB; have HB := n0_; clear n0_; (try clear hb); (try clear hb2); (try clear hk); (try clear hi)) | ((with_reducible refine gate_callee (f := 70) rfl ?_); refine goesL_ (some 16) rfl rfl Try.func70 (by kernel_rfl) rfl #[.int .i64 a0, .slice A1 l1.length c1, .slice none 0 0] rfl la_ ?_; (refine (spec_l16Orders.calls k a0 _ _ l1 (fun k_ => False) _ _ ([] : List Int) t349 _ ?side1 ?side2 ?side3 A7.out).mono ?_); (case side1 => repeat (first | exact (Kd.C_below HR1.out HB.out) | (with_reducible refine Kd.C_alloc ?_ _) | (with_reducible refine Kd.C_drewN ?_ _) | (with_reducible refine Kd.C_drew ?_))); (case side2 => exact HC1.out); (case side3 => exact Kd.V_nil _ _ _ _ _); rintro e w9 ⟨v350, rfl, ho0, hb⟩; refine ⟨_, rfl, ?_⟩; have n0_ := a_ (Kd.N_lower (Kd.N_mono (ok' := fun k_ => True) ho0 (fun k_ hk_ => trivial)) (below_size b_)); have n1_ := a_ (below_step b_ hb); clear HB; have HO351 := n0_; have HB := n1_; clear n0_ n1_; (try clear hb); (try clear hb2); (try clear hk); (try clear hi); (try clear ho0); obtain ⟨Ao10, co10, eo10⟩ := Kd.N_slice HO351.out; subst eo10))
   go_ret2
   exact ⟨by first | rfl | (simp [errW_none, errW_some] <;> rfl) | (simp [*, errW_none, errW_some] <;> rfl), b_⟩
  ·replace c6 := Bool.eq_false_iff.mpr c6
   subst c6
   rw [if_neg (show ¬ (false = true) by decide)] at H
   simp only [Option.some.injEq, Prod.mk.injEq] at H
   obtain ⟨rfl, rfl⟩ := H
   go_enter Try.func26, Try.ntmps26
   go_wp2_with (first | ((with_reducible refine gate_callee (f := 58) rfl ?_); refine goesL_ (some 7) rfl rfl Try.func58 (by kernel_rfl) rfl #[.int .i64 a0] rfl la_ ?_; (with_reducible refine (spec_l16Kind.calls a0 true _ A3.out).mono ?_); rintro e w' ⟨rfl, ⟨nd, rfl⟩⟩; refine ⟨_, rfl, ?_⟩) | (go_at_call 59; (with_reducible refine (spec_l16Good.calls k _ _ l1 false _ ?side1 ?side2 A5.out).mono ?_); (case side1 => repeat (first | exact HR1.out | (with_reducible refine Kd.C_alloc ?_ _) | (with_reducible refine Kd.C_drewN ?_ _) | (with_reducible refine Kd.C_drew ?_))); (case side2 => exact HC1.out); rintro e w11 ⟨rfl, hb⟩; have n0_ := a_ (below_step b_ hb); clear HB; have HB := n0_; clear n0_; (try clear hb); (try clear hb2); (try clear hk); (try clear hi)))
   go_ret2
   exact ⟨by first | rfl | (simp [errW_none, errW_some] <;> rfl) | (simp [*, errW_none, errW_some] <;> rfl), b_⟩
 ·replace c4 := Bool.eq_false_iff.mpr c4
  subst c4
  rw [if_neg (show ¬ (false = true) by decide)] at H
  simp only [Option.some.injEq, Prod.mk.injEq] at H
  obtain ⟨rfl, rfl⟩ := H
  go_enter Try.func26, Try.ntmps26
  go_wp2_with (first | ((with_reducible refine gate_callee (f := 58) rfl ?_); refine goesL_ (some 7) rfl rfl Try.func58 (by kernel_rfl) rfl #[.int .i64 a0] rfl la_ ?_; (with_reducible refine (spec_l16Kind.calls a0 false _ A3.out).mono ?_); rintro e w' ⟨rfl, ⟨nd, rfl⟩⟩; refine ⟨_, rfl, ?_⟩))
  go_ret2
  exact ⟨by first | rfl | (simp [errW_none, errW_some] <;> rfl) | (simp [*, errW_none, errW_some] <;> rfl), b_⟩

/-! ### impl_CountOrders: function 27 (by hand) -/
theorem Srch.start {gc : Nat} {n : Int} {w0 W : World} (hb : Below w0.heap.size w0 W) (hg : w0.heap.size ≤ gc) (hj : W.heap[gc]? = some (.cells #[.int .i64 n] 3 (0, 0))) : Srch.Bel (fun k => k = gc) (Srch.JC gc n) w0 W W :=
 ⟨hb, Kept.refl _ _, fun k hk => by subst hk; exact ⟨hg, blk_lt hj⟩, hb.size, hj, Srch.JC.st gc n⟩
theorem Srch.F_row {α : Type} {d : Kd α} {e base n cc gc : Nat} {W : World} {ok : Nat → Prop} {A : Option Addr} {xs : List α} (h : d.R e W base ok (.slice A n cc) xs) (hg : gc < base) : Kd.F d W (fun k => ¬ k = gc) A n xs :=
 Kd.F_mono (Kd.R_F (Kd.R_bound h)) (fun k hk e_ => by have := hk.2.1; omega)
def impl_CountOrders.f (k : Nat) (a0 : Int) (l1 : List (S77)) : Option (Int × Bool) := (impl_isKind.f a0).bind fun a => (if a = true then ((impl_GoodHistory.f k l1).bind fun b => (if b = true then ((impl_newObject.f a0).bind fun o => (impl_search.f k l1 [] o.1 o.2 Srch.mrC 0).bind fun q => some (q.1, true)) else (some (0, false)))) else (some (0, false)))
set_option maxHeartbeats 8000000 in
set_option maxRecDepth 100000 in
theorem impl_CountOrders.calls (k : Nat) (a0 : Int) (A1 : Option Addr) (c1 : Nat) (l1 : List (S77)) (r1 : Int) (r2 : Bool) (w : World) (hr1 : Kd.C k77 w A1 l1.length l1) (hc1 : l1.length ≤ c1) (h : impl_CountOrders.f k a0 l1 = some (r1, r2)) :
  Calls Try.prog 27 #[.int .i64 a0, .slice A1 l1.length c1] w fun e w' => e = .returned (.tuple #[.int .i64 r1, .bool r2]) ∧ Below w.heap.size w w' := by
 have HR1 := a_ hr1
 have HC1 := a_ hc1
 have HB := a_ (Below.refl w.heap.size w)
 clear hr1 hc1
 unfold impl_CountOrders.f at h
 obtain ⟨a, Aa, h⟩ := Option.bind_eq_some_iff.mp h
 have Aa := a_ Aa
 cases a with
 | false =>
  have h2 : ((0 : Int), false) = (r1, r2) := Option.some.inj h
  cases h2
  clear h
  go_enter Try.func27, Try.ntmps27
  go_wp2_with (first
   | (go_at_call 63; (with_reducible refine (impl_isKind.calls a0 false _ Aa.out).mono ?_); rintro e w1 ⟨rfl, ⟨nd, rfl⟩⟩; have B1 := a_ (pw_below_drewN HB.out nd)))
  go_ret2
  exact ⟨rfl, B1.out⟩
 | true =>
  replace h : ((impl_GoodHistory.f k l1).bind fun b => (if b = true then ((impl_newObject.f a0).bind fun o => (impl_search.f k l1 [] o.1 o.2 Srch.mrC 0).bind fun q => some (q.1, true)) else (some ((0 : Int), false)))) = some (r1, r2) := h
  obtain ⟨b, Ab, h⟩ := Option.bind_eq_some_iff.mp h
  have Ab := a_ Ab
  cases b with
  | false =>
   have h2 : ((0 : Int), false) = (r1, r2) := Option.some.inj h
   cases h2
   clear h
   go_enter Try.func27, Try.ntmps27
   go_wp2_with (first
    | (go_at_call 63; (with_reducible refine (impl_isKind.calls a0 true _ Aa.out).mono ?_); rintro e w1 ⟨rfl, ⟨nd, rfl⟩⟩; have B1 := a_ (pw_below_drewN HB.out nd); clear Aa)
    | (go_at_call 31; (with_reducible refine (impl_GoodHistory.calls k A1 c1 l1 false _ (Kd.C_below HR1.out B1.out) HC1.out Ab.out).mono ?_); rintro e w2 ⟨rfl, hb⟩; have B2 := a_ (below_step B1.out hb); clear hb))
   go_ret2
   exact ⟨rfl, B2.out⟩
  | true =>
   replace h : ((impl_newObject.f a0).bind fun o => (impl_search.f k l1 [] o.1 o.2 Srch.mrC 0).bind fun q => some (q.1, true)) = some (r1, r2) := h
   obtain ⟨⟨o1, o2⟩, Ao, h⟩ := Option.bind_eq_some_iff.mp h
   obtain ⟨⟨n, q_⟩, An, h⟩ := Option.bind_eq_some_iff.mp h
   have h2 : (n, true) = (r1, r2) := Option.some.inj h
   cases h2
   have Ao := a_ Ao
   have An := a_ (show impl_search.f k l1 [] o1 o2 Srch.mrC 0 = some (r1, q_) from An)
   clear h
   go_enter Try.func27, Try.ntmps27
   go_wp2_with (first
    | (go_at_call 63; (with_reducible refine (impl_isKind.calls a0 true _ Aa.out).mono ?_); rintro e w1 ⟨rfl, ⟨nd, rfl⟩⟩; have B1 := a_ (pw_below_drewN HB.out nd); clear Aa)
    | (go_at_call 31; (with_reducible refine (impl_GoodHistory.calls k A1 c1 l1 true _ (Kd.C_below HR1.out B1.out) HC1.out Ab.out).mono ?_); rintro e w2 ⟨rfl, hb⟩; have B2 := a_ (below_step B1.out hb); clear hb B1 Ab)
    | ((with_reducible refine gate_dst (N := 6) rfl ?_); refine box_event ?hg (N := 6) ?hd (cs := #[.int .i64 0]) (t := 3) ?hr ?_; (case hd => rfl); (case hg => rfl); (case hr => first | (go_simp; done) | (go_simp; rfl)); intro gc hg w3 hbox hb; have GE := a_ (by rw [hg]; exact below_size B2.out : w.heap.size ≤ gc); have B3 := a_ (below_step B2.out hb); have BK := a_ hbox; clear hb hg hbox B2; have hcz0 : w3.cell? ⟨gc, 0, none⟩ = some (.int .i64 0) := (blk_cell BK.out 0).trans rfl; have hfz0 := blk_frozen BK.out 0)
    | ((with_reducible refine gate_store (t := 3) (p := 6) rfl ?_); refine store_event (t := 3) (p := 6) (v := ?vo_) (w1 := (w3.setCell ⟨gc, 0, none⟩ (.int .i64 0))) ?hg ?ho ?hn ?hr ?_; (case ho => rfl); (case hg => rfl); (case hn => rfl); (case hr => first | (go_simp; done) | (go_simp; rfl)); intro w4 hw; have B4 : Aside0 (Below w.heap.size w w4) := ⟨by rw [hw]; exact below_set B3.out GE.out⟩; have BK4 : Aside0 (w4.heap[gc]? = some (.cells #[.int .i64 0] 3 (0, 0))) := ⟨by rw [hw]; exact blk_put (cs := #[.int .i64 0]) BK.out 0 _ rfl⟩; clear hw B3 BK hcz0 hfz0)
    | ((with_reducible refine gate_dst (N := 16) rfl ?_); refine Kd.R_lit (Kd.int .i64) _ 3 ?hg (N := 16) ?hd (xs := ([] : List Int)) (inner := []) (ok := fun _ => True) (okp := fun _ => True) ?hr ?hp (fun _ hk => hk) trivial (Below.refl _ _) (Nat.le_refl _) (by simp) ?_; (case hd => rfl); (case hg => rfl); (case hr => first | (go_simp; done) | (go_simp; rfl)); (case hp => exact (Reps.none _ _)); intro v5 w5 ho hb hg_ hnew_; clear hg_ hnew_; have GL := a_ (blk_lt BK4.out); have O5 := a_ (Kd.R_lower (Kd.R_mono (Kd.R_bound ho) (fun k_ hk_ e_ => by have h2_ := hk_.2.1; rw [e_] at h2_; exact absurd GL.out (Nat.not_lt.mpr h2_)) : Kd.R (Kd.int .i64) 3 w5 w4.heap.size (fun k_ => ¬ k_ = gc) v5 []) B4.out.size); have B5 := a_ (below_step B4.out hb); have BK5 := a_ (blk_below BK4.out hb); clear ho hb B4 BK4; obtain ⟨A5, c5, e5⟩ := Kd.R_slice O5.out; subst e5)
    | (go_at_call 73; (with_reducible refine (impl_newObject.calls a0 o1 o2 _ Ao.out).mono ?_); rintro e w6 ⟨v6, rfl, ho, hb⟩; have GL6 := a_ (blk_lt BK5.out); have O6 := a_ ho; have P5 := a_ (Kd.R_below O5.out hb); have B6 := a_ (below_step B5.out hb); have BK6 := a_ (blk_below BK5.out hb); clear ho hb B5 BK5 O5 Ao; obtain ⟨A6, c6, e6⟩ := Kd.R_slice O6.out; subst e6; have F6 := a_ (Srch.F_row O6.out GL6.out); have C6 := a_ (Kd.R_reads' O6.out).2.1)
    | (go_at_call 72; refine (impl_search.calls _ (fun k => k = gc) (Srch.JC gc) (fun _ _ => False) Srch.mrC w (Srch.hands_count gc w) A1 c1 l1 HR1.out HC1.out k A5 c5 [] o1 A6 c6 o2 0 (r1, q_) _ (Srch.start B6.out GE.out BK6.out) P5.out F6.out C6.out An.out).mono ?_; rintro e w7 ⟨rfl, hb⟩; have HB7 := a_ (Srch.Post.goes hb); clear hb BK6 B6; have hcz0 : w7.cell? ⟨gc, 0, none⟩ = some (.int .i64 r1) := (blk_cell HB7.out.j 0).trans rfl; have hfz0 := blk_frozen HB7.out.j 0))
   go_ret2
   exact ⟨rfl, HB7.out.b⟩

/-! ### laws_big: function 28 -/
def laws_big.f (l0 : List Int) (l1 : List Int) : Option (Bool) := if (l0.length : Int) > 1048576 then (some true) else (some (decide ((l1.length : Int) > (wrap64 (1048576 - (l0.length : Int))))))
set_option maxHeartbeats 8000000 in
set_option maxRecDepth 100000 in
theorem laws_big.calls (A0 : Option Addr) (c0 : Nat) (l0 : List Int) (A1 : Option Addr) (c1 : Nat) (l1 : List Int) (r : Bool) (w : World) (hr0 : Kd.C (Kd.int .u8) w A0 l0.length l0) (hc0 : l0.length ≤ c0) (hr1 : Kd.C (Kd.int .u8) w A1 l1.length l1) (hc1 : l1.length ≤ c1) (h : laws_big.f l0 l1 = some r) :
  Calls Try.prog 28 #[.slice A0 l0.length c0, .slice A1 l1.length c1] w fun e w' => e = .returned (.bool r) ∧ Drawn0 w w' := by
 have HR0 := a_ hr0
 have HC0 := a_ hc0
 clear hr0 hc0
 have HR1 := a_ hr1
 have HC1 := a_ hc1
 clear hr1 hc1
 have H : (if (l0.length : Int) > 1048576 then (some true) else (some (decide ((l1.length : Int) > (wrap64 (1048576 - (l0.length : Int))))))) = some r := h
 clear h
 by_cases c3 : (l0.length : Int) > 1048576
 ·rw [if_pos c3] at H
  have c3b0 := decide_eq_true c3
  have c3b1 : decide (1048576 < l0.length) = true := decide_eq_true (by omega)
  clear c3
  obtain rfl := Option.some.inj H
  go_enter Try.func28, Try.ntmps28
  go_wp2
  go_ret
  exact ⟨by first | rfl | (simp; done) | (simp [*]; done), by repeat (first | exact Drawn0.refl _ | apply Drawn0.step)⟩
 ·rw [if_neg c3] at H
  have c3b0 := decide_eq_false c3
  have c3b1 : decide (1048576 < l0.length) = false := decide_eq_false (by omega)
  clear c3
  obtain rfl := Option.some.inj H
  go_enter Try.func28, Try.ntmps28
  go_wp2
  go_ret
  exact ⟨by first | rfl | (simp; done) | (simp [*]; done), by repeat (first | exact Drawn0.refl _ | apply Drawn0.step)⟩

/-- A state of type 94 at block g of W; what its slices lead to came in by w0. -/
def IsS94 (w0 W : World) (g : Nat) (f0 : List Int) (f1 : Int) (f2 : Int) : Prop := ∃ A0 c0, W.heap[g]? = some (.cells #[.slice A0 f0.length c0, .int .i64 f1, .int .u64 f2] 94 (0, 0)) ∧ w0.heap.size ≤ g ∧ Kd.C (Kd.int .u8) w0 A0 f0.length f0
theorem IsS94.grown {w0 W : World} {g : Nat} {f0 : List Int} {f1 : Int} {f2 : Int} {W1 : World} {row : Option Nat} (h : IsS94 w0 W g f0 f1 f2) (hw : W.grownBy W1 row) (hne : some g ≠ row) : IsS94 w0 W1 g f0 f1 f2 := by
 obtain ⟨A0, c0, hb, hg, hr0⟩ := h
 exact ⟨A0, c0, blk_grown hb hw hne, hg, hr0⟩
theorem IsS94.kept {w0 W : World} {g : Nat} {f0 : List Int} {f1 : Int} {f2 : Int} {W1 : World} {S : Nat → Prop} (h : IsS94 w0 W g f0 f1 f2) (hk : Kept W W1 S) (hne : ¬ S g) : IsS94 w0 W1 g f0 f1 f2 := by
 obtain ⟨A0, c0, hb, hg, hr0⟩ := h
 exact ⟨A0, c0, blk_kept hb hk hne, hg, hr0⟩
theorem IsS94.below {w0 W : World} {g : Nat} {f0 : List Int} {f1 : Int} {f2 : Int} {W1 : World} (h : IsS94 w0 W g f0 f1 f2) (hw : Below W.heap.size W W1) : IsS94 w0 W1 g f0 f1 f2 := h.grown (grown_of_below hw none) (by simp)
theorem IsS94.alloc {w0 W : World} {g : Nat} {f0 : List Int} {f1 : Int} {f2 : Int} (h : IsS94 w0 W g f0 f1 f2) (o : Obj) : IsS94 w0 (W.alloc o) g f0 f1 f2 := h.below (below_alloc (Below.refl _ _) o)
theorem IsS94.drewN {w0 W : World} {g : Nat} {f0 : List Int} {f1 : Int} {f2 : Int} (h : IsS94 w0 W g f0 f1 f2) (m : Nat) : IsS94 w0 (W.drewN m) g f0 f1 f2 := h
theorem IsS94.drew {w0 W : World} {g : Nat} {f0 : List Int} {f1 : Int} {f2 : Int} (h : IsS94 w0 W g f0 f1 f2) : IsS94 w0 W.drew g f0 f1 f2 := h
theorem IsS94.at_ {w0 W : World} {g : Nat} {f0 : List Int} {f1 : Int} {f2 : Int} {w' : World} {m : Nat} (hq : W.drewN m = w') (h : IsS94 w0 W g f0 f1 f2) : IsS94 w0 w' g f0 f1 f2 := by subst hq; exact IsS94.drewN h m
theorem IsS94.apart {w0 W : World} {g : Nat} {f0 : List Int} {f1 : Int} {f2 : Int} {α : Type} {d : Kd α} {e : Nat} {base : Nat} {ok : Nat → Prop} {v : Value} {xs : List α} (h : IsS94 w0 W g f0 f1 f2) (ho : d.R e W base ok v xs) (ht : ∀ q, q ∈ e :: d.E → q ≠ 94) : d.R e W base (fun k => ok k ∧ k ≠ g) v xs := by
 obtain ⟨A0, c0, hb, hg, hr0⟩ := h
 exact Kd.R_types ho hb ht
theorem IsS94.own_ne {w0 W : World} {g : Nat} {f0 : List Int} {f1 : Int} {f2 : Int} {α : Type} {d : Kd α} {e : Nat} {base : Nat} {ok : Nat → Prop} {v : Value} {xs : List α} (h : IsS94 w0 W g f0 f1 f2) (ho : d.R e W base ok v xs) (ht : e ≠ 94) : some g ≠ v.ownBlock := by
 obtain ⟨A0, c0, hb, hg, hr0⟩ := h
 exact Kd.R_ne ho hb ht
theorem IsS94.lt {w0 W : World} {g : Nat} {f0 : List Int} {f1 : Int} {f2 : Int} (h : IsS94 w0 W g f0 f1 f2) : g < W.heap.size := by
 obtain ⟨A0, c0, hb, hg, hr0⟩ := h
 exact blk_lt hb
theorem IsS94.ge {w0 W : World} {g : Nat} {f0 : List Int} {f1 : Int} {f2 : Int} (h : IsS94 w0 W g f0 f1 f2) : w0.heap.size ≤ g := by
 obtain ⟨A0, c0, hb, hg, hr0⟩ := h
 exact hg
theorem IsS94.far {w0 W : World} {g : Nat} {f0 : List Int} {f1 : Int} {f2 : Int} {p : Addr} (h : IsS94 w0 W g f0 f1 f2) (hne : g ≠ p.block) (u : Value) : IsS94 w0 (W.setCell p u) g f0 f1 f2 := by
 obtain ⟨A0, c0, hb, hg, hr0⟩ := h
 exact ⟨A0, c0, blk_far hb hne u, hg, hr0⟩
theorem cellS94_0 {W : World} {g : Nat} {A0 : Option Addr} {c0 : Nat} {f0 : List Int} {f1 : Int} {f2 : Int} (h : W.heap[g]? = some (.cells #[.slice A0 f0.length c0, .int .i64 f1, .int .u64 f2] 94 (0, 0))) : W.cell? ⟨g, 0, none⟩ = some (.slice A0 f0.length c0) := (blk_cell h 0).trans rfl
theorem cellS94_1 {W : World} {g : Nat} {A0 : Option Addr} {c0 : Nat} {f0 : List Int} {f1 : Int} {f2 : Int} (h : W.heap[g]? = some (.cells #[.slice A0 f0.length c0, .int .i64 f1, .int .u64 f2] 94 (0, 0))) : W.cell? ⟨g, 1, none⟩ = some (.int .i64 f1) := (blk_cell h 1).trans rfl
theorem IsS94.set_1 {w0 W : World} {g : Nat} {f0 : List Int} {f1 : Int} {f2 : Int} (h : IsS94 w0 W g f0 f1 f2) (x : Int) : IsS94 w0 (W.setCell ⟨g, 1, none⟩ (.int .i64 x)) g f0 x f2 := by
 obtain ⟨A0, c0, hb, hg, hr0⟩ := h
 exact ⟨A0, c0, by simpa using blk_set hb 1 (.int .i64 x), hg, hr0⟩
theorem cellS94_2 {W : World} {g : Nat} {A0 : Option Addr} {c0 : Nat} {f0 : List Int} {f1 : Int} {f2 : Int} (h : W.heap[g]? = some (.cells #[.slice A0 f0.length c0, .int .i64 f1, .int .u64 f2] 94 (0, 0))) : W.cell? ⟨g, 2, none⟩ = some (.int .u64 f2) := (blk_cell h 2).trans rfl
theorem IsS94.set_2 {w0 W : World} {g : Nat} {f0 : List Int} {f1 : Int} {f2 : Int} (h : IsS94 w0 W g f0 f1 f2) (x : Int) : IsS94 w0 (W.setCell ⟨g, 2, none⟩ (.int .u64 x)) g f0 f1 x := by
 obtain ⟨A0, c0, hb, hg, hr0⟩ := h
 exact ⟨A0, c0, by simpa using blk_set hb 2 (.int .u64 x), hg, hr0⟩
theorem IsS94.new (w0 W : World) (A0 : Option Addr) (c0 : Nat) (f0 : List Int) (f1 : Int) (f2 : Int) (hB : Below w0.heap.size w0 W) (hr0 : Kd.C (Kd.int .u8) w0 A0 f0.length f0) : IsS94 w0 (W.alloc (.cells #[.slice A0 f0.length c0, .int .i64 f1, .int .u64 f2] 94)) W.heap.size f0 f1 f2 := ⟨A0, c0, by simpa using heap_alloc_new W _, hB.size, hr0⟩

/-! ### spec_l1Cur_next: function 112 -/
def spec_l1Cur_next.f (s0_0 : List Int) (s0_1 : Int) (s0_2 : Int) : Option (Int × Int × Int) := if s0_1 < (s0_0.length : Int) then (if 0 ≤ s0_1 then (if (wrap64 (s0_1 + 1)) ≤ (s0_0.length : Int) then (some (wrap64 (rd s0_0 s0_1), wrap64 (s0_1 + 1), IntKind.u64.wrap ((IntKind.u64.wrap ((IntKind.u64.wrap (s0_2 * 6364136223846793005)) + (IntKind.u64.wrap (wrap64 (rd s0_0 s0_1))))) + 1442695040888963407))) else (some (wrap64 (Go.bits .and .u64 ((IntKind.u64.wrap ((IntKind.u64.wrap ((IntKind.u64.wrap (s0_2 * 6364136223846793005)) + (IntKind.u64.wrap (wrap64 (rd s0_0 s0_1))))) + 1442695040888963407)) / 1099511627776) 255), wrap64 (s0_1 + 1), IntKind.u64.wrap ((IntKind.u64.wrap ((IntKind.u64.wrap (s0_2 * 6364136223846793005)) + (IntKind.u64.wrap (wrap64 (rd s0_0 s0_1))))) + 1442695040888963407)))) else (none)) else (if (wrap64 (s0_1 + 1)) ≤ (s0_0.length : Int) then (some (0, wrap64 (s0_1 + 1), IntKind.u64.wrap ((IntKind.u64.wrap (IntKind.u64.wrap (s0_2 * 6364136223846793005))) + 1442695040888963407))) else (some (wrap64 (Go.bits .and .u64 ((IntKind.u64.wrap ((IntKind.u64.wrap (IntKind.u64.wrap (s0_2 * 6364136223846793005))) + 1442695040888963407)) / 1099511627776) 255), wrap64 (s0_1 + 1), IntKind.u64.wrap ((IntKind.u64.wrap (IntKind.u64.wrap (s0_2 * 6364136223846793005))) + 1442695040888963407))))
set_option maxHeartbeats 8000000 in
set_option maxRecDepth 100000 in
theorem spec_l1Cur_next.calls (g : Nat) (s0_0 : List Int) (s0_1 : Int) (s0_2 : Int) (r1 : Int) (r2 : Int) (r3 : Int) (w0 w : World) (hI : IsS94 w0 w g s0_0 s0_1 s0_2) (hB : Below w0.heap.size w0 w) (h : spec_l1Cur_next.f s0_0 s0_1 s0_2 = some (r1, r2, r3)) :
  Calls Try.prog 112 #[.pointer (some ⟨g, 0, none⟩)] w fun e w' => e = .returned (.int .i64 r1) ∧ IsS94 w0 w' g s0_0 r2 r3 ∧ Below w0.heap.size w0 w' ∧ KeepBut w w' g none := by
 have HI0 := a_ hI
 have HK := a_ (KeepBut.refl w g none)
 have HL := a_ hB.size
 clear hI
 have HW0 := a_ hB.size
 have HB := a_ hB
 clear hB
 have H : (if s0_1 < (s0_0.length : Int) then (if 0 ≤ s0_1 then (if (wrap64 (s0_1 + 1)) ≤ (s0_0.length : Int) then (some (wrap64 (rd s0_0 s0_1), wrap64 (s0_1 + 1), IntKind.u64.wrap ((IntKind.u64.wrap ((IntKind.u64.wrap (s0_2 * 6364136223846793005)) + (IntKind.u64.wrap (wrap64 (rd s0_0 s0_1))))) + 1442695040888963407))) else (some (wrap64 (Go.bits .and .u64 ((IntKind.u64.wrap ((IntKind.u64.wrap ((IntKind.u64.wrap (s0_2 * 6364136223846793005)) + (IntKind.u64.wrap (wrap64 (rd s0_0 s0_1))))) + 1442695040888963407)) / 1099511627776) 255), wrap64 (s0_1 + 1), IntKind.u64.wrap ((IntKind.u64.wrap ((IntKind.u64.wrap (s0_2 * 6364136223846793005)) + (IntKind.u64.wrap (wrap64 (rd s0_0 s0_1))))) + 1442695040888963407)))) else (none)) else (if (wrap64 (s0_1 + 1)) ≤ (s0_0.length : Int) then (some (0, wrap64 (s0_1 + 1), IntKind.u64.wrap ((IntKind.u64.wrap (IntKind.u64.wrap (s0_2 * 6364136223846793005))) + 1442695040888963407))) else (some (wrap64 (Go.bits .and .u64 ((IntKind.u64.wrap ((IntKind.u64.wrap (IntKind.u64.wrap (s0_2 * 6364136223846793005))) + 1442695040888963407)) / 1099511627776) 255), wrap64 (s0_1 + 1), IntKind.u64.wrap ((IntKind.u64.wrap (IntKind.u64.wrap (s0_2 * 6364136223846793005))) + 1442695040888963407))))) = some (r1, r2, r3) := h
 clear h
 by_cases c2 : s0_1 < (s0_0.length : Int)
 ·rw [if_pos c2] at H
  have c2b0 := decide_eq_true c2
  clear c2
  replace H := ig_ H
  obtain ⟨c3b0, H⟩ := H
  by_cases c4 : (wrap64 (s0_1 + 1)) ≤ (s0_0.length : Int)
  ·rw [if_pos c4] at H
   have c4b0 := decide_eq_true c4
   clear c4
   simp only [Option.some.injEq, Prod.mk.injEq] at H
   obtain ⟨rfl, rfl, rfl⟩ := H
   obtain ⟨ASz5_0, cSz5_0, HGz5, hgz5, HSz5_0⟩ := HI0.out
   have hcz5_0 := cellS94_0 HGz5
   have hcz5_1 := cellS94_1 HGz5
   have hcz5_2 := cellS94_2 HGz5
   have hfz5_1 := blk_frozen HGz5 1
   have hfz5_2 := blk_frozen HGz5 2
   clear HGz5 hgz5
   have p352 : 0 ≤ (s0_1 : Int) := od_
   have q352 : s0_1 < (s0_0.length : Int) := od_
   obtain ⟨ad352, e352, hx352_0⟩ := Kd.at_int HSz5_0 s0_1 p352 q352
   cases e352
   replace hx352_0 := pw_cell_below HB.out hx352_0
   replace p352 := eq_true p352; replace q352 := eq_true q352
   go_enter Try.func112, Try.ntmps112
   go_wp2
   repeat (go_quiet (fail); try go_wp2)
   go_ret
   exact ⟨by first | rfl | (simp [errW_none, errW_some] <;> rfl) | (simp [*, errW_none, errW_some] <;> rfl), by repeat (first | (with_reducible first | exact HI0.out | apply IsS94.alloc | apply IsS94.drewN | apply IsS94.drew | apply IsS94.set_1 | apply IsS94.set_2) | exact HI0.out), by repeat (first | (with_reducible first | exact HB.out | apply below_alloc | apply pw_below_drewN | apply below_drew1 | refine below_set ?_ (IsS94.ge HI0.out)) | exact HB.out), by repeat (first | (with_reducible first | exact HK.out | apply KeepBut.set_ | apply keep_drewN | apply keep_drew | apply keep_alloc) | exact HK.out)⟩
  ·rw [if_neg c4] at H
   have c4b0 := decide_eq_false c4
   clear c4
   simp only [Option.some.injEq, Prod.mk.injEq] at H
   obtain ⟨rfl, rfl, rfl⟩ := H
   obtain ⟨ASz6_0, cSz6_0, HGz6, hgz6, HSz6_0⟩ := HI0.out
   have hcz6_0 := cellS94_0 HGz6
   have hcz6_1 := cellS94_1 HGz6
   have hcz6_2 := cellS94_2 HGz6
   have hfz6_1 := blk_frozen HGz6 1
   have hfz6_2 := blk_frozen HGz6 2
   clear HGz6 hgz6
   have p352 : 0 ≤ (s0_1 : Int) := od_
   have q352 : s0_1 < (s0_0.length : Int) := od_
   obtain ⟨ad352, e352, hx352_0⟩ := Kd.at_int HSz6_0 s0_1 p352 q352
   cases e352
   replace hx352_0 := pw_cell_below HB.out hx352_0
   replace p352 := eq_true p352; replace q352 := eq_true q352
   go_enter Try.func112, Try.ntmps112
   go_wp2
   repeat (go_quiet (fail); try go_wp2)
   go_ret
   exact ⟨by first | rfl | (simp [errW_none, errW_some] <;> rfl) | (simp [*, errW_none, errW_some] <;> rfl), by repeat (first | (with_reducible first | exact HI0.out | apply IsS94.alloc | apply IsS94.drewN | apply IsS94.drew | apply IsS94.set_1 | apply IsS94.set_2) | exact HI0.out), by repeat (first | (with_reducible first | exact HB.out | apply below_alloc | apply pw_below_drewN | apply below_drew1 | refine below_set ?_ (IsS94.ge HI0.out)) | exact HB.out), by repeat (first | (with_reducible first | exact HK.out | apply KeepBut.set_ | apply keep_drewN | apply keep_drew | apply keep_alloc) | exact HK.out)⟩
 ·rw [if_neg c2] at H
  have c2b0 := decide_eq_false c2
  clear c2
  by_cases c7 : (wrap64 (s0_1 + 1)) ≤ (s0_0.length : Int)
  ·rw [if_pos c7] at H
   have c7b0 := decide_eq_true c7
   clear c7
   simp only [Option.some.injEq, Prod.mk.injEq] at H
   obtain ⟨rfl, rfl, rfl⟩ := H
   obtain ⟨ASz8_0, cSz8_0, HGz8, hgz8, HSz8_0⟩ := HI0.out
   have hcz8_0 := cellS94_0 HGz8
   have hcz8_1 := cellS94_1 HGz8
   have hcz8_2 := cellS94_2 HGz8
   have hfz8_1 := blk_frozen HGz8 1
   have hfz8_2 := blk_frozen HGz8 2
   clear HGz8 hgz8
   go_enter Try.func112, Try.ntmps112
   go_wp2
   repeat (go_quiet (fail); try go_wp2)
   go_ret
   exact ⟨by first | rfl | (simp [errW_none, errW_some] <;> rfl) | (simp [*, errW_none, errW_some] <;> rfl), by repeat (first | (with_reducible first | exact HI0.out | apply IsS94.alloc | apply IsS94.drewN | apply IsS94.drew | apply IsS94.set_1 | apply IsS94.set_2) | exact HI0.out), by repeat (first | (with_reducible first | exact HB.out | apply below_alloc | apply pw_below_drewN | apply below_drew1 | refine below_set ?_ (IsS94.ge HI0.out)) | exact HB.out), by repeat (first | (with_reducible first | exact HK.out | apply KeepBut.set_ | apply keep_drewN | apply keep_drew | apply keep_alloc) | exact HK.out)⟩
  ·rw [if_neg c7] at H
   have c7b0 := decide_eq_false c7
   clear c7
   simp only [Option.some.injEq, Prod.mk.injEq] at H
   obtain ⟨rfl, rfl, rfl⟩ := H
   obtain ⟨ASz9_0, cSz9_0, HGz9, hgz9, HSz9_0⟩ := HI0.out
   have hcz9_0 := cellS94_0 HGz9
   have hcz9_1 := cellS94_1 HGz9
   have hcz9_2 := cellS94_2 HGz9
   have hfz9_1 := blk_frozen HGz9 1
   have hfz9_2 := blk_frozen HGz9 2
   clear HGz9 hgz9
   go_enter Try.func112, Try.ntmps112
   go_wp2
   repeat (go_quiet (fail); try go_wp2)
   go_ret
   exact ⟨by first | rfl | (simp [errW_none, errW_some] <;> rfl) | (simp [*, errW_none, errW_some] <;> rfl), by repeat (first | (with_reducible first | exact HI0.out | apply IsS94.alloc | apply IsS94.drewN | apply IsS94.drew | apply IsS94.set_1 | apply IsS94.set_2) | exact HI0.out), by repeat (first | (with_reducible first | exact HB.out | apply below_alloc | apply pw_below_drewN | apply below_drew1 | refine below_set ?_ (IsS94.ge HI0.out)) | exact HB.out), by repeat (first | (with_reducible first | exact HK.out | apply KeepBut.set_ | apply keep_drewN | apply keep_drew | apply keep_alloc) | exact HK.out)⟩

/-! ### spec_l1Cur_pick: function 81 -/
def spec_l1Cur_pick.f (s0_0 : List Int) (s0_1 : Int) (s0_2 : Int) (a1 : Int) : Option (Int × Int × Int) := if a1 ≤ 1 then (some (0, s0_1, s0_2)) else ((spec_l1Cur_next.f s0_0 s0_1 s0_2).bind fun bt353 => (if a1 > 200 then ((spec_l1Cur_next.f s0_0 bt353.2.1 bt353.2.2).bind fun bt356 => (if a1 = 0 then (none) else (some (Int.tmod (wrap64 ((wrap64 (bt353.1 * 256)) + bt356.1)) a1, bt356.2.1, bt356.2.2)))) else (if a1 = 0 then (none) else (some (Int.tmod bt353.1 a1, bt353.2.1, bt353.2.2)))))
set_option maxHeartbeats 8000000 in
set_option maxRecDepth 100000 in
theorem spec_l1Cur_pick.calls (g : Nat) (s0_0 : List Int) (s0_1 : Int) (s0_2 : Int) (a1 : Int) (r1 : Int) (r2 : Int) (r3 : Int) (w0 w : World) (hI : IsS94 w0 w g s0_0 s0_1 s0_2) (hB : Below w0.heap.size w0 w) (h : spec_l1Cur_pick.f s0_0 s0_1 s0_2 a1 = some (r1, r2, r3)) :
  Calls Try.prog 81 #[.pointer (some ⟨g, 0, none⟩), .int .i64 a1] w fun e w' => e = .returned (.int .i64 r1) ∧ IsS94 w0 w' g s0_0 r2 r3 ∧ Below w0.heap.size w0 w' ∧ KeepBut w w' g none := by
 have HI0 := a_ hI
 have HK := a_ (KeepBut.refl w g none)
 have HL := a_ hB.size
 clear hI
 have HW0 := a_ hB.size
 have HB := a_ hB
 clear hB
 have H : (if a1 ≤ 1 then (some (0, s0_1, s0_2)) else ((spec_l1Cur_next.f s0_0 s0_1 s0_2).bind fun bt353 => (if a1 > 200 then ((spec_l1Cur_next.f s0_0 bt353.2.1 bt353.2.2).bind fun bt356 => (if a1 = 0 then (none) else (some (Int.tmod (wrap64 ((wrap64 (bt353.1 * 256)) + bt356.1)) a1, bt356.2.1, bt356.2.2)))) else (if a1 = 0 then (none) else (some (Int.tmod bt353.1 a1, bt353.2.1, bt353.2.2)))))) = some (r1, r2, r3) := h
 clear h
 by_cases c3 : a1 ≤ 1
 ·rw [if_pos c3] at H
  have c3b0 := decide_eq_true c3
  clear c3
  simp only [Option.some.injEq, Prod.mk.injEq] at H
  obtain ⟨rfl, rfl, rfl⟩ := H
  go_enter Try.func81, Try.ntmps81
  go_wp2
  go_ret
  exact ⟨by first | rfl | (simp [errW_none, errW_some] <;> rfl) | (simp [*, errW_none, errW_some] <;> rfl), by repeat (first | (with_reducible first | exact HI0.out | apply IsS94.alloc | apply IsS94.drewN | apply IsS94.drew | apply IsS94.set_1 | apply IsS94.set_2) | exact HI0.out), by repeat (first | (with_reducible first | exact HB.out | apply below_alloc | apply pw_below_drewN | apply below_drew1 | refine below_set ?_ (IsS94.ge HI0.out)) | exact HB.out), by repeat (first | (with_reducible first | exact HK.out | apply KeepBut.set_ | apply keep_drewN | apply keep_drew | apply keep_alloc) | exact HK.out)⟩
 ·rw [if_neg c3] at H
  have c3b0 := decide_eq_false c3
  clear c3
  replace H := Option.bind_eq_some_iff.mp H
  obtain ⟨⟨t353, t354, t355⟩, A40, H⟩ := H
  try dsimp only at H
  have A4 := a_ A40; clear A40
  by_cases c5 : a1 > 200
  ·rw [if_pos c5] at H
   have c5b0 := decide_eq_true c5
   clear c5
   replace H := Option.bind_eq_some_iff.mp H
   obtain ⟨⟨t356, t357, t358⟩, A60, H⟩ := H
   try dsimp only at H
   have A6 := a_ A60; clear A60
   by_cases c7 : a1 = 0
   ·rw [if_pos c7] at H
    exact absurd H (by simp)
   ·rw [if_neg c7] at H
    have c7b0 := beq_eq_false_iff_ne.mpr c7
    have c7b1 := bne_iff_ne.mpr c7
    simp only [Option.some.injEq, Prod.mk.injEq] at H
    obtain ⟨rfl, rfl, rfl⟩ := H
    go_enter Try.func81, Try.ntmps81
    go_wp2_with (first | ((with_reducible refine gate_callee (f := 112) rfl ?_); refine goesL_ (some 9) rfl rfl Try.func112 (by kernel_rfl) rfl #[.pointer (some ⟨g, 0, none⟩)] rfl la_ ?_; (with_reducible refine (spec_l1Cur_next.calls g s0_0 s0_1 s0_2 t353 t354 t355 w0 _ ?side1 ?side2 A4.out).mono ?_); (case side1 => repeat (first | (with_reducible first | exact HI0.out | apply IsS94.alloc | apply IsS94.drewN | apply IsS94.drew | apply IsS94.set_1 | apply IsS94.set_2) | exact HI0.out)); (case side2 => repeat (first | (with_reducible first | exact HB.out | apply below_alloc | apply pw_below_drewN | apply below_drew1 | refine below_set ?_ (IsS94.ge HI0.out)) | exact HB.out)); rintro e w8 ⟨rfl, hi, hb, hk⟩; refine ⟨_, rfl, ?_⟩; have n0_ := a_ (KeepBut.trans (by repeat (first | (with_reducible first | exact HK.out | apply KeepBut.set_ | apply keep_drewN | apply keep_drew | apply keep_alloc) | exact HK.out)) hk (.inl rfl)); have n1_ := a_ (hb); have n2_ := a_ (hi); clear HK; clear HB; clear HI0; have HK := n0_; have HB := n1_; have HI0 := n2_; clear n0_ n1_ n2_; (try clear hb); (try clear hb2); (try clear hk); (try clear hi)) | ((with_reducible refine gate_callee (f := 112) rfl ?_); refine goesL_ (some 15) rfl rfl Try.func112 (by kernel_rfl) rfl #[.pointer (some ⟨g, 0, none⟩)] rfl la_ ?_; (with_reducible refine (spec_l1Cur_next.calls g s0_0 t354 t355 t356 t357 t358 w0 _ ?side1 ?side2 A6.out).mono ?_); (case side1 => repeat (first | (with_reducible first | exact HI0.out | apply IsS94.alloc | apply IsS94.drewN | apply IsS94.drew | apply IsS94.set_1 | apply IsS94.set_2) | exact HI0.out)); (case side2 => repeat (first | (with_reducible first | exact HB.out | apply below_alloc | apply pw_below_drewN | apply below_drew1 | refine below_set ?_ (IsS94.ge HI0.out)) | exact HB.out)); rintro e w9 ⟨rfl, hi, hb, hk⟩; refine ⟨_, rfl, ?_⟩; have n0_ := a_ (KeepBut.trans (by repeat (first | (with_reducible first | exact HK.out | apply KeepBut.set_ | apply keep_drewN | apply keep_drew | apply keep_alloc) | exact HK.out)) hk (.inl rfl)); have n1_ := a_ (hb); have n2_ := a_ (hi); clear HK; clear HB; clear HI0; have HK := n0_; have HB := n1_; have HI0 := n2_; clear n0_ n1_ n2_; (try clear hb); (try clear hb2); (try clear hk); (try clear hi)))
    go_ret
    exact ⟨by first | rfl | (simp [errW_none, errW_some] <;> rfl) | (simp [*, errW_none, errW_some] <;> rfl), by repeat (first | (with_reducible first | exact HI0.out | apply IsS94.alloc | apply IsS94.drewN | apply IsS94.drew | apply IsS94.set_1 | apply IsS94.set_2) | exact HI0.out), by repeat (first | (with_reducible first | exact HB.out | apply below_alloc | apply pw_below_drewN | apply below_drew1 | refine below_set ?_ (IsS94.ge HI0.out)) | exact HB.out), by repeat (first | (with_reducible first | exact HK.out | apply KeepBut.set_ | apply keep_drewN | apply keep_drew | apply keep_alloc) | exact HK.out)⟩
  ·rw [if_neg c5] at H
   have c5b0 := decide_eq_false c5
   clear c5
   by_cases c10 : a1 = 0
   ·rw [if_pos c10] at H
    exact absurd H (by simp)
   ·rw [if_neg c10] at H
    have c10b0 := beq_eq_false_iff_ne.mpr c10
    have c10b1 := bne_iff_ne.mpr c10
    simp only [Option.some.injEq, Prod.mk.injEq] at H
    obtain ⟨rfl, rfl, rfl⟩ := H
    go_enter Try.func81, Try.ntmps81
    go_wp2_with (first | ((with_reducible refine gate_callee (f := 112) rfl ?_); refine goesL_ (some 9) rfl rfl Try.func112 (by kernel_rfl) rfl #[.pointer (some ⟨g, 0, none⟩)] rfl la_ ?_; (with_reducible refine (spec_l1Cur_next.calls g s0_0 s0_1 s0_2 t353 t354 t355 w0 _ ?side1 ?side2 A4.out).mono ?_); (case side1 => repeat (first | (with_reducible first | exact HI0.out | apply IsS94.alloc | apply IsS94.drewN | apply IsS94.drew | apply IsS94.set_1 | apply IsS94.set_2) | exact HI0.out)); (case side2 => repeat (first | (with_reducible first | exact HB.out | apply below_alloc | apply pw_below_drewN | apply below_drew1 | refine below_set ?_ (IsS94.ge HI0.out)) | exact HB.out)); rintro e w11 ⟨rfl, hi, hb, hk⟩; refine ⟨_, rfl, ?_⟩; have n0_ := a_ (KeepBut.trans (by repeat (first | (with_reducible first | exact HK.out | apply KeepBut.set_ | apply keep_drewN | apply keep_drew | apply keep_alloc) | exact HK.out)) hk (.inl rfl)); have n1_ := a_ (hb); have n2_ := a_ (hi); clear HK; clear HB; clear HI0; have HK := n0_; have HB := n1_; have HI0 := n2_; clear n0_ n1_ n2_; (try clear hb); (try clear hb2); (try clear hk); (try clear hi)))
    go_ret
    exact ⟨by first | rfl | (simp [errW_none, errW_some] <;> rfl) | (simp [*, errW_none, errW_some] <;> rfl), by repeat (first | (with_reducible first | exact HI0.out | apply IsS94.alloc | apply IsS94.drewN | apply IsS94.drew | apply IsS94.set_1 | apply IsS94.set_2) | exact HI0.out), by repeat (first | (with_reducible first | exact HB.out | apply below_alloc | apply pw_below_drewN | apply below_drew1 | refine below_set ?_ (IsS94.ge HI0.out)) | exact HB.out), by repeat (first | (with_reducible first | exact HK.out | apply KeepBut.set_ | apply keep_drewN | apply keep_drew | apply keep_alloc) | exact HK.out)⟩

/-! ### spec_l1Cur_among: function 99 -/
def spec_l1Cur_among.f (s0_0 : List Int) (s0_1 : Int) (s0_2 : Int) (l1 : List Int) : Option (Int × Int × Int) := (spec_l1Cur_pick.f s0_0 s0_1 s0_2 (l1.length : Int)).bind fun bt359 => (if 0 ≤ bt359.1 then (if bt359.1 < (l1.length : Int) then (some (rd l1 bt359.1, bt359.2.1, bt359.2.2)) else (none)) else (none))
set_option maxHeartbeats 8000000 in
set_option maxRecDepth 100000 in
theorem spec_l1Cur_among.calls (g : Nat) (s0_0 : List Int) (s0_1 : Int) (s0_2 : Int) (A1 : Option Addr) (c1 : Nat) (l1 : List Int) (r1 : Int) (r2 : Int) (r3 : Int) (w0 w : World) (hI : IsS94 w0 w g s0_0 s0_1 s0_2) (hB : Below w0.heap.size w0 w) (hr1 : Kd.C (Kd.int .i64) w A1 l1.length l1) (hc1 : l1.length ≤ c1) (hf1 : ∀ ad, A1 = some ad → 0 < l1.length → ad.block ≠ g) (h : spec_l1Cur_among.f s0_0 s0_1 s0_2 l1 = some (r1, r2, r3)) :
  Calls Try.prog 99 #[.pointer (some ⟨g, 0, none⟩), .slice A1 l1.length c1] w fun e w' => e = .returned (.int .i64 r1) ∧ IsS94 w0 w' g s0_0 r2 r3 ∧ Below w0.heap.size w0 w' ∧ KeepBut w w' g none := by
 have HR1 := a_ hr1
 have HC1 := a_ hc1
 clear hr1 hc1
 have HI0 := a_ hI
 have HK := a_ (KeepBut.refl w g none)
 have HL := a_ hB.size
 clear hI
 have HW0 := a_ hB.size
 have HB := a_ hB
 clear hB
 have H : ((spec_l1Cur_pick.f s0_0 s0_1 s0_2 (l1.length : Int)).bind fun bt359 => (if 0 ≤ bt359.1 then (if bt359.1 < (l1.length : Int) then (some (rd l1 bt359.1, bt359.2.1, bt359.2.2)) else (none)) else (none))) = some (r1, r2, r3) := h
 clear h
 replace H := Option.bind_eq_some_iff.mp H
 obtain ⟨⟨t359, t360, t361⟩, A30, H⟩ := H
 try dsimp only at H
 have A3 := a_ A30
 clear A30
 by_cases c4 : 0 ≤ t359
 ·rw [if_pos c4] at H
  have c4b0 := decide_eq_true c4
  clear c4
  replace H := ig_ H
  obtain ⟨c5b0, H⟩ := H
  simp only [Option.some.injEq, Prod.mk.injEq] at H
  obtain ⟨rfl, rfl, rfl⟩ := H
  go_enter Try.func99, Try.ntmps99
  go_wp2_with (first | ((with_reducible refine gate_callee (f := 81) rfl ?_); refine goesL_ (some 9) rfl rfl Try.func81 (by kernel_rfl) rfl #[.pointer (some ⟨g, 0, none⟩), .int .i64 (l1.length : Int)] rfl la_ ?_; (with_reducible refine (spec_l1Cur_pick.calls g s0_0 s0_1 s0_2 (l1.length : Int) t359 t360 t361 w0 _ ?side1 ?side2 A3.out).mono ?_); (case side1 => repeat (first | (with_reducible first | exact HI0.out | apply IsS94.alloc | apply IsS94.drewN | apply IsS94.drew | apply IsS94.set_1 | apply IsS94.set_2) | exact HI0.out)); (case side2 => repeat (first | (with_reducible first | exact HB.out | apply below_alloc | apply pw_below_drewN | apply below_drew1 | refine below_set ?_ (IsS94.ge HI0.out)) | exact HB.out)); rintro e w6 ⟨rfl, hi, hb, hk⟩; refine ⟨_, rfl, ?_⟩; have n0_ := a_ (KeepBut.trans (by repeat (first | (with_reducible first | exact HK.out | apply KeepBut.set_ | apply keep_drewN | apply keep_drew | apply keep_alloc) | exact HK.out)) hk (.inl rfl)); have n1_ := a_ (hb); have n2_ := a_ (hi); clear HK; clear HB; clear HI0; have HK := n0_; have HB := n1_; have HI0 := n2_; clear n0_ n1_ n2_; (try clear hb); (try clear hb2); (try clear hk); (try clear hi); have p362 : 0 ≤ (t359 : Int) := od_; have q362 : t359 < (l1.length : Int) := od_; obtain ⟨ad362, e362, hx362_0⟩ := Kd.at_int HR1.out t359 p362 q362; cases e362; replace hx362_0 := keep_cell HK.out hx362_0 (by first | (rw [add_block]; exact hf1 _ rfl (by omega)) | exact hf1 _ rfl (by omega) | exact hf1 ad362 rfl (by omega)); replace p362 := eq_true p362; replace q362 := eq_true q362))
  go_ret
  exact ⟨by first | rfl | (simp [errW_none, errW_some] <;> rfl) | (simp [*, errW_none, errW_some] <;> rfl), by repeat (first | (with_reducible first | exact HI0.out | apply IsS94.alloc | apply IsS94.drewN | apply IsS94.drew | apply IsS94.set_1 | apply IsS94.set_2) | exact HI0.out), by repeat (first | (with_reducible first | exact HB.out | apply below_alloc | apply pw_below_drewN | apply below_drew1 | refine below_set ?_ (IsS94.ge HI0.out)) | exact HB.out), by repeat (first | (with_reducible first | exact HK.out | apply KeepBut.set_ | apply keep_drewN | apply keep_drew | apply keep_alloc) | exact HK.out)⟩
 ·rw [if_neg c4] at H
  exact absurd H (by simp)

/-! ### spec_l1Cur_kind: function 76 -/
def spec_l1Cur_kind.f (s0_0 : List Int) (s0_1 : Int) (s0_2 : Int) : Option (Int × Int × Int) := (spec_l1Cur_among.f s0_0 s0_1 s0_2 (([1, 1, 1, 2, 2, 2, 0, 3] : List Int))).bind fun bt366 => (some (bt366.1, bt366.2.1, bt366.2.2))
set_option maxHeartbeats 8000000 in
set_option maxRecDepth 100000 in
theorem spec_l1Cur_kind.calls (g : Nat) (s0_0 : List Int) (s0_1 : Int) (s0_2 : Int) (r1 : Int) (r2 : Int) (r3 : Int) (w0 w : World) (hI : IsS94 w0 w g s0_0 s0_1 s0_2) (hB : Below w0.heap.size w0 w) (h : spec_l1Cur_kind.f s0_0 s0_1 s0_2 = some (r1, r2, r3)) :
  Calls Try.prog 76 #[.pointer (some ⟨g, 0, none⟩)] w fun e w' => e = .returned (.int .i64 r1) ∧ IsS94 w0 w' g s0_0 r2 r3 ∧ Below w0.heap.size w0 w' ∧ KeepBut w w' g none := by
 have HI0 := a_ hI
 have HK := a_ (KeepBut.refl w g none)
 have HL := a_ hB.size
 clear hI
 have HW0 := a_ hB.size
 have HB := a_ hB
 clear hB
 have H : ((spec_l1Cur_among.f s0_0 s0_1 s0_2 (([1, 1, 1, 2, 2, 2, 0, 3] : List Int))).bind fun bt366 => (some (bt366.1, bt366.2.1, bt366.2.2))) = some (r1, r2, r3) := h
 clear h
 obtain ⟨y363, hy363⟩ : ∃ y_ : List Int, y_ = (([1, 1, 1, 2, 2, 2, 0, 3] : List Int)) := ⟨_, rfl⟩
 replace H : ((spec_l1Cur_among.f s0_0 s0_1 s0_2 y363).bind fun bt366 => (some (bt366.1, bt366.2.1, bt366.2.2))) = some (r1, r2, r3) := by first|(rw [hy363]; with_reducible exact H)|(rw [hy363]; exact (Option.bind_some _ _).symm.trans H)|(rw [hy363]; exact H)|exact H
 have Ny363 := a_ hy363
 clear hy363
 replace H := Option.bind_eq_some_iff.mp H
 obtain ⟨⟨t366, t367, t368⟩, A20, H⟩ := H
 try dsimp only at H
 have A2 := a_ A20
 clear A20
 simp only [Option.some.injEq, Prod.mk.injEq] at H
 obtain ⟨rfl, rfl, rfl⟩ := H
 go_enter Try.func76, Try.ntmps76
 go_wp2_with (first | ((with_reducible refine gate_dst (N := 4) rfl ?_); refine Kd.R_lit (Kd.int .i64) _ 3 ?hg (N := 4) ?hd (xs := ([1, 1, 1, 2, 2, 2, 0, 3] : List Int)) (inner := [.int .i64 1, .int .i64 1, .int .i64 1, .int .i64 2, .int .i64 2, .int .i64 2, .int .i64 0, .int .i64 3]) (ok := fun _ => True) (okp := fun _ => True) ?hr ?hp (fun _ hk => hk) trivial (Below.refl _ _) (Nat.le_refl _) (by simp) ?_; (case hd => rfl); (case hg => rfl); (case hr => first | (go_simp; done) | (go_simp; rfl)); (case hp => exact (Reps.one (show Kd.M (Kd.int .i64) _ _ _ 1 [.int .i64 1] from rfl) (Reps.one (show Kd.M (Kd.int .i64) _ _ _ 1 [.int .i64 1] from rfl) (Reps.one (show Kd.M (Kd.int .i64) _ _ _ 1 [.int .i64 1] from rfl) (Reps.one (show Kd.M (Kd.int .i64) _ _ _ 2 [.int .i64 2] from rfl) (Reps.one (show Kd.M (Kd.int .i64) _ _ _ 2 [.int .i64 2] from rfl) (Reps.one (show Kd.M (Kd.int .i64) _ _ _ 2 [.int .i64 2] from rfl) (Reps.one (show Kd.M (Kd.int .i64) _ _ _ 0 [.int .i64 0] from rfl) (Reps.one (show Kd.M (Kd.int .i64) _ _ _ 3 [.int .i64 3] from rfl) (Reps.none _ _)))))))))); intro v364 w3 ho4 hb hg_ hnew_; clear hg_ hnew_; (first | rw [← Ny363.out] at ho4 | (simp only [Int.reduceToNat] at ho4; rw [← Ny363.out] at ho4)); have n0_ := a_ (Kd.R_lower ho4 (keep_size (w := w) (g := g) (row := none) (by repeat (first | (with_reducible first | exact HK.out | apply KeepBut.set_ | apply keep_drewN | apply keep_drew | apply keep_alloc) | exact HK.out)))); have n1_ := a_ (IsS94.below (by repeat (first | (with_reducible first | exact HI0.out | apply IsS94.alloc | apply IsS94.drewN | apply IsS94.drew | apply IsS94.set_1 | apply IsS94.set_2) | exact HI0.out)) hb); have n2_ := a_ (KeepBut.trans (by repeat (first | (with_reducible first | exact HK.out | apply KeepBut.set_ | apply keep_drewN | apply keep_drew | apply keep_alloc) | exact HK.out)) (KeepBut.of_below hb g none) (.inl rfl)); have n3_ := a_ (below_step (by repeat (first | (with_reducible first | exact HB.out | apply below_alloc | apply pw_below_drewN | apply below_drew1 | refine below_set ?_ (IsS94.ge HI0.out)) | exact HB.out)) hb); clear HI0; clear HK; clear HB; have HO365 := n0_; have HI0 := n1_; have HK := n2_; have HB := n3_; clear n0_ n1_ n2_ n3_; clear hb ho4; obtain ⟨Ao5, co5, eo5⟩ := Kd.R_slice HO365.out; subst eo5) | ((with_reducible refine gate_callee (f := 99) rfl ?_); refine goesL_ (some 5) rfl rfl Try.func99 (by kernel_rfl) rfl #[.pointer (some ⟨g, 0, none⟩), .slice Ao5 y363.length co5] rfl la_ ?_; (with_reducible refine (spec_l1Cur_among.calls g s0_0 s0_1 s0_2 _ _ y363 t366 t367 t368 w0 _ ?side1 ?side2 ?side3 ?side4 ?side5 A2.out).mono ?_); (case side1 => repeat (first | (with_reducible first | exact HI0.out | apply IsS94.alloc | apply IsS94.drewN | apply IsS94.drew | apply IsS94.set_1 | apply IsS94.set_2) | exact HI0.out)); (case side2 => repeat (first | (with_reducible first | exact HB.out | apply below_alloc | apply pw_below_drewN | apply below_drew1 | refine below_set ?_ (IsS94.ge HI0.out)) | exact HB.out)); (case side3 => repeat (first | exact (Kd.R_reads' HO365.out).2.2 | (with_reducible refine Kd.C_alloc ?_ _) | (with_reducible refine Kd.C_drewN ?_ _) | (with_reducible refine Kd.C_drew ?_))); (case side4 => exact (Kd.R_reads' HO365.out).2.1); (case side5 => exact far_slice (IsS94.own_ne HI0.out HO365.out (by decide))); rintro e w6 ⟨rfl, hi, hb, hk⟩; refine ⟨_, rfl, ?_⟩; have n0_ := a_ (Kd.R_mono (Kd.R_keep (IsS94.apart (show IsS94 w0 _ g s0_0 s0_1 s0_2 from by repeat (first | (with_reducible first | exact HI0.out | apply IsS94.alloc | apply IsS94.drewN | apply IsS94.drew | apply IsS94.set_1 | apply IsS94.set_2) | exact HI0.out)) (r_ HO365.out) (by decide)) hk (fun _ h => h.2)) (fun _ h => h.1)); have n1_ := a_ (KeepBut.trans (by repeat (first | (with_reducible first | exact HK.out | apply KeepBut.set_ | apply keep_drewN | apply keep_drew | apply keep_alloc) | exact HK.out)) hk (.inl rfl)); have n2_ := a_ (hb); have n3_ := a_ (hi); clear HO365; clear HK; clear HB; clear HI0; have HO365 := n0_; have HK := n1_; have HB := n2_; have HI0 := n3_; clear n0_ n1_ n2_ n3_; (try clear hb); (try clear hb2); (try clear hk); (try clear hi)))
 go_ret
 exact ⟨by first | rfl | (simp [errW_none, errW_some] <;> rfl) | (simp [*, errW_none, errW_some] <;> rfl), by repeat (first | (with_reducible first | exact HI0.out | apply IsS94.alloc | apply IsS94.drewN | apply IsS94.drew | apply IsS94.set_1 | apply IsS94.set_2) | exact HI0.out), by repeat (first | (with_reducible first | exact HB.out | apply below_alloc | apply pw_below_drewN | apply below_drew1 | refine below_set ?_ (IsS94.ge HI0.out)) | exact HB.out), by repeat (first | (with_reducible first | exact HK.out | apply KeepBut.set_ | apply keep_drewN | apply keep_drew | apply keep_alloc) | exact HK.out)⟩

/-! ### spec_l1Scaled: function 100 -/
mutual
def spec_l1Scaled.l0 : Nat → Nat → Int → Option (Nat)
 | 0, _, _ => none
 | k + 1, x0, x1 => if x1 > 0 then (if fmulOk x0 4611686018427387904 = true then (spec_l1Scaled.l0 k (fmul x0 4611686018427387904) (wrap64 (x1 - 1))) else (none)) else (spec_l1Scaled.l1 k x0 x1)
def spec_l1Scaled.l1 : Nat → Nat → Int → Option (Nat)
 | 0, _, _ => none
 | k + 1, x0, x1 => if x1 < 0 then (if fdivOk x0 4611686018427387904 = true then (spec_l1Scaled.l1 k (fdiv x0 4611686018427387904) (wrap64 (x1 + 1))) else (none)) else (some x0)
end
def spec_l1Scaled.f (k : Nat) (a0 : Nat) (a1 : Int) : Option (Nat) := spec_l1Scaled.l0 k a0 a1
set_option maxHeartbeats 8000000 in
set_option maxRecDepth 100000 in
theorem spec_l1Scaled.calls (k : Nat) (a0 : Nat) (a1 : Int) (r : Nat) (w : World) (h : spec_l1Scaled.f k a0 a1 = some r) :
  Calls Try.prog 100 #[.float .f64 a0, .int .i64 a1] w fun e w' => e = .returned (.float .f64 r) ∧ Drawn0 w w' := by
 have H : (spec_l1Scaled.l0 k a0 a1) = some r := h
 clear h
 have H' := a_ H
 clear H
 go_enter Try.func100, Try.ntmps100
 go_wp2
 go_loopg [0, 1] k (fun kq v0 v1 w' => ∃ (x0_1 : Nat) (x1_1 : Int), v0 = .float .f64 x0_1 ∧ v1 = .int .i64 x1_1 ∧ Aside0 (spec_l1Scaled.l0 kq x0_1 x1_1 = some r) ∧ Aside0 (kq ≤ k) ∧ Drawn0 w w')
 case atStart => exact ⟨(a0), (a1), (by first | rfl | (simp; done) | (simp [*]; done)), (by first | rfl | (simp; done) | (simp [*]; done)), H', ⟨Nat.le_refl _⟩, by repeat (first | exact Drawn0.refl _ | apply Drawn0.step)⟩
 case round =>
  clear H'
  (try clear c1); (try clear p2)
  obtain ⟨x0_1, x1_1, rfl, rfl, HA, HK1, ⟨m1, rfl⟩⟩ := hrel
  cases gk with
  | zero => exact absurd HA.out (by simp [spec_l1Scaled.l0])
  | succ k1 =>
   have H := HA.out; clear HA
   simp only [spec_l1Scaled.l0] at H
   by_cases c3 : x1_1 > 0
   ·rw [if_pos c3] at H
    have c3b0 := decide_eq_true c3
    clear c3
    have c4 := it_ H
    rw [if_pos c4] at H
    have c4b0 := eq_true c4
    have c4b1 := decide_eq_true c4
    clear c4
    have H' := a_ H
    clear H
    go_wp2
    go_roundg k1
    case measure => have := HK1.out; omega
    case rel => exact ⟨(fmul x0_1 4611686018427387904), (wrap64 (x1_1 - 1)), (by first | rfl | (simp; done) | (simp [*]; done)), (by first | rfl | (simp; done) | (simp [*]; done)), H', ⟨by have := HK1.out; omega⟩, by repeat (first | exact Drawn0.refl _ | apply Drawn0.step)⟩
   ·rw [if_neg c3] at H
    have c3b0 := decide_eq_false c3
    clear c3
    have H' := a_ H
    clear H
    go_wp2
    go_loopg [0, 1] k1 (fun kq v0 v1 w' => ∃ (x0_2 : Nat) (x1_2 : Int), v0 = .float .f64 x0_2 ∧ v1 = .int .i64 x1_2 ∧ Aside0 (spec_l1Scaled.l1 kq x0_2 x1_2 = some r) ∧ Aside0 (kq ≤ k1) ∧ Drawn0 w w')
    case atStart => exact ⟨(x0_1), (x1_1), (by first | rfl | (simp; done) | (simp [*]; done)), (by first | rfl | (simp; done) | (simp [*]; done)), H', ⟨Nat.le_refl _⟩, by repeat (first | exact Drawn0.refl _ | apply Drawn0.step)⟩
    case round =>
     clear H'
     (try clear c1); (try clear p2); (try clear c3); (try clear c3b0); (try clear c4); (try clear c4b0); (try clear c4b1); (try clear p2)
     obtain ⟨x0_2, x1_2, rfl, rfl, HA, HK2, ⟨m2, rfl⟩⟩ := hrel
     cases gk with
     | zero => exact absurd HA.out (by simp [spec_l1Scaled.l1])
     | succ k2 =>
      have H := HA.out; clear HA
      simp only [spec_l1Scaled.l1] at H
      by_cases c5 : x1_2 < 0
      ·rw [if_pos c5] at H
       have c5b0 := decide_eq_true c5
       clear c5
       have c6 := it_ H
       rw [if_pos c6] at H
       have c6b0 := eq_true c6
       have c6b1 := decide_eq_true c6
       clear c6
       have H' := a_ H
       clear H
       go_wp2
       go_roundg k2
       case measure => have := HK1.out; have := HK2.out; omega
       case rel => exact ⟨(fdiv x0_2 4611686018427387904), (wrap64 (x1_2 + 1)), (by first | rfl | (simp; done) | (simp [*]; done)), (by first | rfl | (simp; done) | (simp [*]; done)), H', ⟨by have := HK1.out; have := HK2.out; omega⟩, by repeat (first | exact Drawn0.refl _ | apply Drawn0.step)⟩
      ·rw [if_neg c5] at H
       have c5b0 := decide_eq_false c5
       clear c5
       obtain rfl := Option.some.inj H
       go_wp2
       go_ret
       exact ⟨by first | rfl | (simp; done) | (simp [*]; done), by repeat (first | exact Drawn0.refl _ | apply Drawn0.step)⟩

/-! ### spec_l1NegZero: function 121 -/
def spec_l1NegZero.f  : Option (Nat) := some (fneg 0)
set_option maxHeartbeats 8000000 in
set_option maxRecDepth 100000 in
theorem spec_l1NegZero.calls  (r : Nat) (w : World) (h : spec_l1NegZero.f  = some r) :
  Calls Try.prog 121 #[] w fun e w' => e = .returned (.float .f64 r) ∧ Drawn0 w w' := by
 have H : (some (fneg 0)) = some r := h
 clear h
 obtain rfl := Option.some.inj H
 go_enter Try.func121, Try.ntmps121
 go_wp2
 go_ret
 exact ⟨by first | rfl | (simp; done) | (simp [*]; done), by repeat (first | exact Drawn0.refl _ | apply Drawn0.step)⟩

end Go.Proofs.Ythdpiceiemkjlaa.GFnOneOrder

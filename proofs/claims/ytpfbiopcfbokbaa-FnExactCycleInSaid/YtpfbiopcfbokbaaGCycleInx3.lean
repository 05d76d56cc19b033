-- Printed by wip/tools/print2.py out of the translation: walks and plain functions; Lean checks them.
import Derived.Test.YtpfbiopcfbokbaaGCycleInx0
import Derived.Test.YtpfbiopcfbokbaaGCycleInx1
namespace Go.Proofs.Ytpfbiopcfbokbaa.GCycleIn
open Go.RowKit Go.Proofs.YtpfbiopcfbokbaaW.PrintWords Go.Proofs.YtpfbiopcfbokbaaW.PrintLast Go.Proofs.YtpfbiopcfbokbaaW.PrintMore
attribute [local go_sem] max2_int min2_int max_two min_two max_three min_three max_four min_four   -- for this text's walks alone
set_option linter.unusedVariables false
set_option linter.unusedSimpArgs false

/-! ### A row of which the elements from i on are held, no two of which lead to one block -/
def late {α : Type} (f : Nat → Nat) (d : Kd α) (i : Nat) : Kd (α × Nat) where
  sz := d.sz
  E := d.E
  K := fun w x cs => (cs.length = d.sz ∧ ∀ u ∈ cs, u.oneCell' = true) ∧ (i ≤ x.2 → d.K w x.1 cs)
  M := fun w base ok x cs => (cs.length = d.sz ∧ ∀ u ∈ cs, u.oneCell' = true) ∧ (i ≤ x.2 → d.M w base (fun k => ok k ∧ f k = x.2) x.1 cs)
  K_len := fun h => h.1.1
  K_one := fun h => h.1.2
  K_below := fun hb h => ⟨h.1, fun hx => d.K_below hb (h.2 hx)⟩
  K_of_M := fun h => ⟨h.1, fun hx => d.K_of_M (h.2 hx)⟩
  M_mono := fun hok h => ⟨h.1, fun hx => d.M_mono (fun k hk => ⟨hok k hk.1, hk.2⟩) (h.2 hx)⟩
  M_bound := fun h => ⟨h.1, fun hx => d.M_mono (fun _ hk => ⟨⟨hk.1.1, hk.2⟩, hk.1.2⟩) (d.M_bound (h.2 hx))⟩
  M_move := fun hm h => ⟨h.1, fun hx => d.M_move (fun k hk => hm k hk.1) (h.2 hx)⟩
  M_lower := fun hb h => ⟨h.1, fun hx => d.M_lower hb (h.2 hx)⟩
def Tail {α : Type} (d : Kd α) (e : Nat) (w : World) (base : Nat) (ok : Nat → Prop) (v : Value) (xs : List α) (i : Nat) : Prop := ∃ f, (late f d i).R e w base ok v xs.zipIdx
section
variable {α : Type} {d : Kd α} {e : Nat} {w w1 W : World} {base : Nat} {ok ok' : Nat → Prop} {u v : Value} {xs : List α} {i : Nat}
theorem Tail_of_S (h : Kd.S d e w base ok v xs) : Tail d e w base ok v xs 0 := by
  obtain ⟨f, h0, inner, ho, hr⟩ := h
  exact ⟨f, h0, inner, ho, hr.imp_ (fun p c hp => ⟨⟨d.K_len (d.K_of_M hp), d.K_one (d.K_of_M hp)⟩, fun _ => hp⟩)⟩
theorem Tail_mono (h : Tail d e w base ok v xs i) (hok : ∀ k, ok k → ok' k) : Tail d e w base ok' v xs i := by
  obtain ⟨f, h⟩ := h
  exact ⟨f, Kd.R_mono h hok⟩
theorem Tail_step (h : Tail d e w base ok v xs i) (hm : ∀ k, ok k → k < w.heap.size → w1.heap[k]? = w.heap[k]?) : Tail d e w1 base ok v xs i := by
  obtain ⟨f, h⟩ := h
  exact ⟨f, Kd.R_step h hm⟩
theorem Tail_below (h : Tail d e w base ok v xs i) (hb : Below w.heap.size w w1) : Tail d e w1 base ok v xs i := Tail_step h (fun k _ hk => hb.block k hk)
theorem Tail_alloc (h : Tail d e w base ok v xs i) (o : Obj) : Tail d e (w.alloc o) base ok v xs i := Tail_below h (below_alloc (Below.refl _ _) o)
theorem Tail_drew (h : Tail d e w base ok v xs i) : Tail d e w.drew base ok v xs i := Tail_below h (below_drew (Below.refl _ _))
theorem Tail_drewN (h : Tail d e w base ok v xs i) (m : Nat) : Tail d e (w.drewN m) base ok v xs i := Tail_below h (pw_below_drewN (Below.refl _ _) m)
theorem Tail_grown (h : Tail d e w base ok v xs i) {row : Option Nat} (hg : w.grownBy w1 row) (hok : ∀ k, ok k → some k ≠ row) : Tail d e w1 base ok v xs i := Tail_step h (fun k ho hk => hg.block k hk (hok k ho))
theorem Tail_bound (h : Tail d e w base ok v xs i) : Tail d e w base (fun k => ok k ∧ base ≤ k ∧ k < w.heap.size) v xs i := by
  obtain ⟨f, h⟩ := h
  exact ⟨f, Kd.R_mono (Kd.R_bound h) (fun k hk => ⟨hk.1, hk.2.1, hk.2.2.1⟩)⟩
theorem Tail_types (h : Tail d e w base ok v xs i) : Tail d e w base (fun k => ok k ∧ base ≤ k ∧ k < w.heap.size ∧ ∃ q, q ∈ e :: d.E ∧ ∃ cells, w.heap[k]? = some (.cells cells q (0, 0))) v xs i := by
  obtain ⟨f, h⟩ := h
  exact ⟨f, Kd.R_bound h⟩
theorem Tail_slice (h : Tail d e w base ok v xs i) : ∃ A c, v = .slice A xs.length c := by
  obtain ⟨f, h⟩ := h
  obtain ⟨A, c, hv⟩ := Kd.R_slice h
  exact ⟨A, c, by rw [List.length_zipIdx] at hv; exact hv⟩
theorem Tail_form (h : Tail d e w base ok v xs i) (hp : 0 < xs.length) : ∃ g cap, v = .slice (some ⟨g, 0, none⟩) xs.length cap := by
  obtain ⟨f, h⟩ := h
  obtain ⟨g, cap, hv, _⟩ := Kd.R_form h (by rw [List.length_zipIdx]; exact hp)
  exact ⟨g, cap, by rw [List.length_zipIdx] at hv; exact hv⟩
/-- Element i, its blocks (oki), and the row from the next one on. -/
theorem Tail_elem {ad : Addr} {n cap : Nat} (h : Tail d e W base ok (.slice (some ad) n cap) xs i) (z : α) (h1 : i < n) :
    ∃ (oki : Nat → Prop) (c : List Value), c.length = d.sz ∧ d.M W base oki (xs.getD i z) c ∧ (∀ j u, c[j]? = some u → W.cell? (ad.add (i * d.sz + j)) = some u) ∧ (∀ k, oki k → ok k ∧ some k ≠ (Value.slice (some ad) n cap).ownBlock) ∧ Tail d e W base (fun k => ok k ∧ ¬ oki k) (.slice (some ad) n cap) xs (i + 1) := by
  obtain ⟨f, h⟩ := h
  have hn := (Kd.R_reads' h).1
  rw [List.length_zipIdx] at hn
  obtain ⟨c, hcl, hM, hcc⟩ := Kd.R_getA h (z, i) (i : Int) (by omega) (by omega)
  rw [Int.toNat_natCast] at hM hcc
  have hx : xs.zipIdx.getD i (z, i) = (xs.getD i z, i) := by
    rw [List.getD_eq_getElem?_getD, List.getD_eq_getElem?_getD, List.getElem?_zipIdx, Nat.zero_add]
    cases xs[i]? <;> rfl
  rw [hx] at hM
  obtain ⟨h0, inner, ho, hr⟩ := h
  refine ⟨fun k => (ok k ∧ some k ≠ (Value.slice (some ad) n cap).ownBlock) ∧ f k = i, c, hcl, hM.2 (Nat.le_refl _), hcc, fun k hk => hk.1, f, fun k hk => ⟨h0 k hk, fun h2 => h2.1.2 hk.symm⟩, inner, ho, hr.imp_ (fun p cs hp => ⟨hp.1, fun hpi => d.M_mono (fun k hk => ⟨⟨⟨hk.1.1, fun h2 => ?_⟩, hk.1.2⟩, hk.2⟩) (hp.2 (Nat.le_of_succ_le hpi))⟩)⟩
  have := h2.2.symm.trans hk.2
  omega
end
section
variable {α : Type} {d : Kd α} {e : Nat} {w : World} {base : Nat} {ok : Nat → Prop} {v : Value} {xs : List α} {i : Nat}
theorem Tail_len (h : Tail d e w base ok v xs i) : xs.length ≤ 9223372036854775807 := by
  obtain ⟨f, h⟩ := h
  obtain ⟨A, c, rfl⟩ := Kd.R_slice h
  have := (Kd.R_reads' h).2.2.2.1
  rwa [List.length_zipIdx] at this
theorem Tail_next {x : Int} (h : Tail d e w base ok v xs (x.toNat + 1)) (h0 : 0 ≤ x) (h1 : x < 9223372036854775807) : Tail d e w base ok v xs (wrap64 (x + 1)).toNat := by
  have hx : (wrap64 (x + 1)).toNat = x.toNat + 1 := by unfold wrap64; omega
  rw [hx]; exact h
end
/-! ### More of a row of which the elements from i on are held -/
section
variable {α : Type} {d : Kd α} {e : Nat} {w w1 W : World} {base : Nat} {ok ok' : Nat → Prop} {u v v1 : Value} {xs : List α} {i : Nat} {S : Nat → Prop}
theorem Tail_lt (h : Tail d e w base ok v xs i) : ∀ k, v.ownBlock = some k → k < w.heap.size := by
  obtain ⟨f, h⟩ := h
  exact Kd.R_lt h
theorem Tail_typed (h : Tail d e w base ok v xs i) : ∀ k, v.ownBlock = some k → ∃ cells, w.heap[k]? = some (.cells cells e (0, 0)) := by
  obtain ⟨f, h⟩ := h
  exact Kd.R_typed h
theorem Tail_lower {base' : Nat} (h : Tail d e w base ok v xs i) (hb : base' ≤ base) : Tail d e w base' ok v xs i := by
  obtain ⟨f, h⟩ := h
  exact ⟨f, Kd.R_lower h hb⟩
theorem Tail_elder' (h : Tail d e W base ok v xs i) (hbase : ∀ k, u.ownBlock = some k → W.heap.size ≤ k) (hb : Below W.heap.size W w1) : Tail d e w1 base (fun k => ok k ∧ some k ≠ u.ownBlock) v xs i := by
  obtain ⟨f, h⟩ := h
  exact ⟨f, Kd.R_elder' h hbase hb⟩
theorem Tail_keptB (h : Tail d e W base ok v xs i) (hk : Kept W w1 S) (hne : ∀ k, ok k → ¬ S k) : Tail d e w1 base (fun k => ok k ∧ (¬ S k ∧ k < W.heap.size)) v xs i := by
  obtain ⟨f, h⟩ := h
  exact ⟨f, Kd.R_keptB h hk hne⟩
theorem Tail_afterv (h : Tail d e W base (fun k => ok k ∧ some k ≠ v.ownBlock) u xs i) (hg : W.grownBy w1 v.ownBlock) (hat : v1.ownBlock = v.ownBlock ∨ ∃ b, v1.ownBlock = some b ∧ W.heap.size ≤ b) : Tail d e w1 base (fun k => ok k ∧ some k ≠ v1.ownBlock) u xs i := by
  obtain ⟨f, h⟩ := h
  exact ⟨f, Kd.R_after h hg hat⟩
end
section
open Classical
variable {P : Program} {ops : Array Oper} {rest : List Oper} {o : Oper} {a : Act} {Q : Exit → Act → World → Prop} {α : Type}
/-- append(v, x): x's blocks are okp, none of them the row's. -/
theorem Tail_append (d : Kd α) {w0 W : World} (base : Nat) {i : Nat} (hgd : o.guard = none) (s x : Operand) (t e : TypeId) (z : Value) (bytes : Nat)
    (ho : o.op = .call { callee := .builtin .append, args := #[s, x], argTypes := #[t, t] })
    (ht : P.underlying t = some (.slice e)) (hinfo : (P.info? e).map (fun i => (i.zero, i.size, i.bytes)) = some (some z, d.sz, bytes)) (hz : z.cells.size = d.sz) (hs0 : 0 < d.sz) (hb0 : 0 < bytes)
    (v : Value) (xs : List α) (p : α) (cs : List Value) (ok okp : Nat → Prop) (hs : a.eval s = v) (hx : a.eval x = .slice (some ⟨W.heap.size, 0, none⟩) 1 1) (hp : d.M W base okp p cs) (hokp : ∀ k, okp k → ok k ∧ some k ≠ v.ownBlock) (hfresh : ∀ k, W.heap.size ≤ k → ok k)
    (HO : Tail d e W base (fun k => ok k ∧ ¬ okp k) v xs i) (HB : Below base w0 W) (hbase : base ≤ W.heap.size) (hl : (xs.length + 1) * bytes ≤ 140737488355328)
    (h : ∀ v1 w1, Tail d e w1 base ok v1 (xs ++ [p]) i → Below base w0 w1 → W.grownBy w1 v.ownBlock → (v1.ownBlock = v.ownBlock ∨ ∃ b, v1.ownBlock = some b ∧ W.heap.size ≤ b) → wpList P ops Q rest (a.put o.dst v1) w1) :
    wpList P ops Q (o :: rest) a (W.alloc (.cells cs.toArray e)) := by
  obtain ⟨f, h0, inner, hown, hr⟩ := HO
  have hR : (late (fun k => if okp k then xs.length else f k) d i).R e W base ok v xs.zipIdx :=
    ⟨fun k hk => (h0 k hk).1, inner, hown, hr.imp_ (fun q c hq => ⟨hq.1, fun hi => d.M_mono (fun k hk => ⟨⟨hk.1.1.1, hk.1.2⟩, (if_neg hk.1.1.2).trans hk.2⟩) (hq.2 hi)⟩)⟩
  refine Kd.R_append (late (fun k => if okp k then xs.length else f k) d i) base hgd s x t e z bytes ho ht hinfo hz hs0 hb0 v xs.zipIdx (p, xs.length) cs ok okp hs hx ⟨⟨d.K_len (d.K_of_M hp), d.K_one (d.K_of_M hp)⟩, fun _ => d.M_mono (fun k hk => ⟨hk, if_pos hk⟩) hp⟩ hokp hfresh hR HB hbase (by rw [List.length_zipIdx]; exact hl) ?_
  intro v1 w1 hr
  rw [← Kd.zip_snoc] at hr
  exact h v1 w1 ⟨_, hr⟩
end
theorem leafT {A1 : Option Addr} {c1 base : Nat} {l1 : List Int} {w : World} {ok : Nat → Prop} (h : Kd.R (Kd.int .i64) 3 w base ok (.slice A1 l1.length c1) l1) : ∀ j x, ([l1] : List (List Int))[j]? = some x → (Kd.slice 3 (Kd.int .i64)).M w base (fun k_ => j = 0 ∧ some k_ = (.slice A1 l1.length c1 : Value).ownBlock) x ((([.slice A1 l1.length c1] : List Value).drop (j * (Kd.slice 3 (Kd.int .i64)).sz)).take (Kd.slice 3 (Kd.int .i64)).sz) := by
  intro j x hx
  cases j with
  | zero => obtain rfl := Option.some.inj hx; exact ⟨.slice A1 l1.length c1, rfl, Kd.R_mono (Kd.R_tight rfl h) (fun k hk => ⟨rfl, hk⟩)⟩
  | succ j => simp at hx
/-! ### spec_l3Way: function 111 -/
mutual
def spec_l3Way.l0 : Nat → List (List Int) → Int → List (List Int) → List Int → Int → Option (List Int)
  | 0, _, _, _, _, _ => none
  | k + 1, x0, x2, x7, x8, x9 => if x9 < (x7.length : Int) then (if 0 ≤ x9 then ((some (rd_L1 x7 x9)).bind fun t194 => (spec_l3Way.l1 k x0 x2 x7 x8 x9 t194 ([] : List Int) x0 (x0.length : Int) 0)) else (none)) else (some ([] : List Int))
def spec_l3Way.l1 : Nat → List (List Int) → Int → List (List Int) → List Int → Int → List Int → List Int → List (List Int) → Int → Int → Option (List Int)
  | 0, _, _, _, _, _, _, _, _, _, _ => none
  | k + 1, x0, x2, x7, x8, x9, x10, x11, x29, x30, x31 => if x31 < x30 then (if 0 ≤ x31 then (if x31 < (x29.length : Int) then (if 0 < ((rd_L1 x29 x31).length : Int) then (if 0 ≤ (wrap64 ((x10.length : Int) - 1)) then (if (wrap64 ((x10.length : Int) - 1)) < (x10.length : Int) then (if (rd (rd_L1 x29 x31) 0) = (rd x10 (wrap64 ((x10.length : Int) - 1))) then (if 1 < ((rd_L1 x29 x31).length : Int) then ((spec_l1Put.f k x11 (rd (rd_L1 x29 x31) 1)).bind fun t201 => (spec_l3Way.l1 k x0 x2 x7 x8 x9 x10 t201 x29 x30 (wrap64 (x31 + 1)))) else (none)) else (spec_l3Way.l1 k x0 x2 x7 x8 x9 x10 x11 x29 x30 (wrap64 (x31 + 1)))) else (none)) else (none)) else (none)) else (none)) else (none)) else (spec_l3Way.l2 k x0 x2 x7 x8 x9 x10 x11 (x11.length : Int) 0)
def spec_l3Way.l2 : Nat → List (List Int) → Int → List (List Int) → List Int → Int → List Int → List Int → Int → Int → Option (List Int)
  | 0, _, _, _, _, _, _, _, _, _ => none
  | k + 1, x0, x2, x7, x8, x9, x10, x51, x52, x53 => if x53 < x52 then (if 0 ≤ x53 then (if x53 < (x51.length : Int) then (if (rd x51 x53) = x2 then (some x10) else ((spec_l1Has.f k x8 (rd x51 x53)).bind fun t205 => (if t205 = true then (spec_l3Way.l2 k x0 x2 x7 x8 x9 x10 x51 x52 (wrap64 (x53 + 1))) else (if x8.length < 17592186044416 then ((spec_l1Own.f x10).bind fun t209 => (if t209.length < 17592186044416 then (if x7.length < 5864062014805 then (spec_l3Way.l2 k x0 x2 (x7 ++ [(t209 ++ [rd x51 x53])]) (x8 ++ [rd x51 x53]) x9 x10 x51 x52 (wrap64 (x53 + 1))) else (none)) else (none))) else (none))))) else (none)) else (none)) else (spec_l3Way.l0 k x0 x2 x7 x8 (wrap64 (x9 + 1)))
end
def spec_l3Way.f (k : Nat) (l0 : List (List Int)) (a1 : Int) (a2 : Int) : Option (List Int) := spec_l3Way.l0 k l0 a2 (([(([a1] : List Int))] : List (List Int))) ([] : List Int) 0
theorem spec_l3Way.mono_l : ∀ k, (∀ y0 y1 y2 y3 y4, LeO (spec_l3Way.l0 k y0 y1 y2 y3 y4) (spec_l3Way.l0 (k + 1) y0 y1 y2 y3 y4)) ∧ (∀ y0 y1 y2 y3 y4 y5 y6 y7 y8 y9, LeO (spec_l3Way.l1 k y0 y1 y2 y3 y4 y5 y6 y7 y8 y9) (spec_l3Way.l1 (k + 1) y0 y1 y2 y3 y4 y5 y6 y7 y8 y9)) ∧ (∀ y0 y1 y2 y3 y4 y5 y6 y7 y8, LeO (spec_l3Way.l2 k y0 y1 y2 y3 y4 y5 y6 y7 y8) (spec_l3Way.l2 (k + 1) y0 y1 y2 y3 y4 y5 y6 y7 y8))
  | 0 => ⟨fun _ _ _ _ _ r h => by simp [spec_l3Way.l0] at h, fun _ _ _ _ _ _ _ _ _ _ r h => by simp [spec_l3Way.l1] at h, fun _ _ _ _ _ _ _ _ _ r h => by simp [spec_l3Way.l2] at h⟩
  | k + 1 => by
    obtain ⟨ih0, ih1, ih2⟩ := spec_l3Way.mono_l k
    refine ⟨?_, ?_, ?_⟩
    · intro y0 y1 y2 y3 y4
      unfold spec_l3Way.l0
      repeat' first
      | (with_reducible exact ih0 _ _ _ _ _)
      | (with_reducible exact ih1 _ _ _ _ _ _ _ _ _ _)
      | (with_reducible exact ih2 _ _ _ _ _ _ _ _ _)
      | (with_reducible exact spec_l1Has.mono _ _ _)
      | (with_reducible exact spec_l1Put.mono _ _ _)
      | (with_reducible exact LeO.refl _)
      | (with_reducible exact LeO.none _)
      | (with_reducible refine LeO.ite ?_ ?_)
      | (with_reducible refine LeO.bind ?_ (fun _ => ?_))
      | exact ih0 _ _ _ _ _
      | exact ih1 _ _ _ _ _ _ _ _ _ _
      | exact ih2 _ _ _ _ _ _ _ _ _
      | exact spec_l1Has.mono _ _ _
      | exact spec_l1Put.mono _ _ _
      | exact LeO.none _
      | refine LeO.ite ?_ ?_
      | refine LeO.bind ?_ (fun _ => ?_)
    · intro y0 y1 y2 y3 y4 y5 y6 y7 y8 y9
      unfold spec_l3Way.l1
      repeat' first
      | (with_reducible exact ih0 _ _ _ _ _)
      | (with_reducible exact ih1 _ _ _ _ _ _ _ _ _ _)
      | (with_reducible exact ih2 _ _ _ _ _ _ _ _ _)
      | (with_reducible exact spec_l1Has.mono _ _ _)
      | (with_reducible exact spec_l1Put.mono _ _ _)
      | (with_reducible exact LeO.refl _)
      | (with_reducible exact LeO.none _)
      | (with_reducible refine LeO.ite ?_ ?_)
      | (with_reducible refine LeO.bind ?_ (fun _ => ?_))
      | exact ih0 _ _ _ _ _
      | exact ih1 _ _ _ _ _ _ _ _ _ _
      | exact ih2 _ _ _ _ _ _ _ _ _
      | exact spec_l1Has.mono _ _ _
      | exact spec_l1Put.mono _ _ _
      | exact LeO.none _
      | refine LeO.ite ?_ ?_
      | refine LeO.bind ?_ (fun _ => ?_)
    · intro y0 y1 y2 y3 y4 y5 y6 y7 y8
      unfold spec_l3Way.l2
      repeat' first
      | (with_reducible exact ih0 _ _ _ _ _)
      | (with_reducible exact ih1 _ _ _ _ _ _ _ _ _ _)
      | (with_reducible exact ih2 _ _ _ _ _ _ _ _ _)
      | (with_reducible exact spec_l1Has.mono _ _ _)
      | (with_reducible exact spec_l1Put.mono _ _ _)
      | (with_reducible exact LeO.refl _)
      | (with_reducible exact LeO.none _)
      | (with_reducible refine LeO.ite ?_ ?_)
      | (with_reducible refine LeO.bind ?_ (fun _ => ?_))
      | exact ih0 _ _ _ _ _
      | exact ih1 _ _ _ _ _ _ _ _ _ _
      | exact ih2 _ _ _ _ _ _ _ _ _
      | exact spec_l1Has.mono _ _ _
      | exact spec_l1Put.mono _ _ _
      | exact LeO.none _
      | refine LeO.ite ?_ ?_
      | refine LeO.bind ?_ (fun _ => ?_)
theorem spec_l3Way.mono : ∀ a0 a1 a2 k, LeO (spec_l3Way.f k a0 a1 a2) (spec_l3Way.f (k + 1) a0 a1 a2) := by
  intro a0 a1 a2 k
  obtain ⟨ih0, ih1, ih2⟩ := spec_l3Way.mono_l k
  unfold spec_l3Way.f
  repeat' first
      | (with_reducible exact ih0 _ _ _ _ _)
      | (with_reducible exact ih1 _ _ _ _ _ _ _ _ _ _)
      | (with_reducible exact ih2 _ _ _ _ _ _ _ _ _)
      | (with_reducible exact spec_l1Has.mono _ _ _)
      | (with_reducible exact spec_l1Put.mono _ _ _)
      | (with_reducible exact LeO.refl _)
      | (with_reducible exact LeO.none _)
      | (with_reducible refine LeO.ite ?_ ?_)
      | (with_reducible refine LeO.bind ?_ (fun _ => ?_))
      | exact ih0 _ _ _ _ _
      | exact ih1 _ _ _ _ _ _ _ _ _ _
      | exact ih2 _ _ _ _ _ _ _ _ _
      | exact spec_l1Has.mono _ _ _
      | exact spec_l1Put.mono _ _ _
      | exact LeO.none _
      | refine LeO.ite ?_ ?_
      | refine LeO.bind ?_ (fun _ => ?_)
set_option maxHeartbeats 8000000 in
set_option maxRecDepth 100000 in
theorem spec_l3Way.calls (k : Nat) (A0 : Option Addr) (c0 : Nat) (l0 : List (List Int)) (a1 : Int) (a2 : Int) (r : List Int) (w : World) (hr0 : Kd.C (Kd.slice 3 (Kd.int .i64)) w A0 l0.length l0) (hc0 : l0.length ≤ c0) (h : spec_l3Way.f k l0 a1 a2 = some r) :
    Calls Try.prog 111 #[.slice A0 l0.length c0, .int .i64 a1, .int .i64 a2] w fun e w' => ∃ v0_ : Value, e = .returned (v0_) ∧ Kd.R (Kd.int .i64) 3 w' w.heap.size (fun _ => True) v0_ r ∧ Below w.heap.size w w' := by
  have HR0 := Aside0.mk hr0
  have HC0 := Aside0.mk hc0
  clear hr0 hc0
  have HB := Aside0.mk (Below.refl w.heap.size w)
  have H : (spec_l3Way.l0 k l0 a2 (([(([a1] : List Int))] : List (List Int))) ([] : List Int) 0) = some r := h
  clear h
  obtain ⟨y187, hy187⟩ : ∃ y_ : List Int, y_ = (([a1] : List Int)) := ⟨_, rfl⟩
  replace H : (spec_l3Way.l0 k l0 a2 (([y187] : List (List Int))) ([] : List Int) 0) = some r := by first | (rw [hy187]; with_reducible exact H) | (have H2_ := (Option.bind_some _ _).symm.trans H; rw [hy187]; with_reducible exact H2_) | (have H2_ := (Option.bind_some _ _).symm.trans H; with_reducible exact H2_) | with_reducible exact H | (rw [hy187]; exact H) | exact H
  have Ny187 := Aside0.mk hy187
  clear hy187
  obtain ⟨y190, hy190⟩ : ∃ y_ : List (List Int), y_ = (([y187] : List (List Int))) := ⟨_, rfl⟩
  replace H : (spec_l3Way.l0 k l0 a2 y190 ([] : List Int) 0) = some r := by first | (rw [hy190]; with_reducible exact H) | (have H2_ := (Option.bind_some _ _).symm.trans H; rw [hy190]; with_reducible exact H2_) | (have H2_ := (Option.bind_some _ _).symm.trans H; with_reducible exact H2_) | with_reducible exact H | (rw [hy190]; exact H) | exact H
  have Ny190 := Aside0.mk hy190
  clear hy190
  have H' := Aside0.mk H
  clear H
  go_enter Try.func111, Try.ntmps111
  go_wp2_with (first | ((with_reducible refine gate_dst (N := 17) rfl ?_); refine Kd.R_lit (Kd.int .i64) _ 3 ?hg (N := 17) ?hd (xs := ([a1] : List Int)) (inner := [.int .i64 a1]) (ok := fun _ => True) (okp := fun _ => True) ?hr ?hp (fun _ hk => hk) trivial (Below.refl _ _) (Nat.le_refl _) (by simp) ?_; (case hd => rfl); (case hg => rfl); (case hr => first | (go_simp; done) | (go_simp; rfl)); (case hp => exact (Reps.one (show Kd.M (Kd.int .i64) _ _ _ a1 [.int .i64 a1] from rfl) (Reps.none _ _))); intro v188 w4 ho5 hb hg_ hnew_; clear hg_ hnew_; (first | rw [← Ny187.out] at ho5 | (simp only [Int.reduceToNat] at ho5; rw [← Ny187.out] at ho5)); have n0_ := Aside0.mk (Kd.R_lower ho5 (below_size (by repeat (first | (with_reducible first|exact HB.out|apply vA_|apply vN_|apply vD_) | exact HB.out)))); have n1_ := Aside0.mk (below_step (by repeat (first | (with_reducible first|exact HB.out|apply vA_|apply vN_|apply vD_) | exact HB.out)) hb); clear HB; have HO189 := n0_; have HB := n1_; clear n0_ n1_; clear hb ho5; obtain ⟨Ao6, co6, eo6⟩ := Kd.R_slice HO189.out; subst eo6) | ((with_reducible refine gate_dst (N := 18) rfl ?_); refine Kd.S_lits (Kd.slice 3 (Kd.int .i64)) (w0 := w) w.heap.size 22 ?hg (N := 18) ?hd (xs := ([y187] : List (List Int))) (inner := [.slice Ao6 y187.length co6]) (ok := (fun _ => True)) (fun j_ k_ => j_ = 0 ∧ some k_ = (.slice Ao6 y187.length co6 : Value).ownBlock) ?hr ?hl ?hp ?ha (fun _ _ _ => trivial) trivial HB.out (below_size HB.out) (by simp) ?_; (case hd => rfl); (case hg => rfl); (case hl => rfl); (case ha => exact fun i_ j_ k_ h1_ h2_ => h1_.1.trans h2_.1.symm); (case hr => first | (go_simp; done) | (go_simp; rfl)); (case hp => exact leafT HO189.out); intro v191 w7 ho8 hb hg_ hnew_; clear hg_ hnew_; (first | rw [← Ny190.out] at ho8 | (simp only [Int.reduceToNat] at ho8; rw [← Ny190.out] at ho8)); have n0_ := Aside0.mk (Tail_of_S ho8); have n1_ := Aside0.mk hb; clear HB; clear HO189; have HO192 := n0_; have HB := n1_; clear n0_ n1_; clear hb ho8))
  repeat (go_quiet (first | ((with_reducible refine gate_dst (N := 17) rfl ?_); refine Kd.R_lit (Kd.int .i64) _ 3 ?hg (N := 17) ?hd (xs := ([a1] : List Int)) (inner := [.int .i64 a1]) (ok := fun _ => True) (okp := fun _ => True) ?hr ?hp (fun _ hk => hk) trivial (Below.refl _ _) (Nat.le_refl _) (by simp) ?_; (case hd => rfl); (case hg => rfl); (case hr => first | (go_simp; done) | (go_simp; rfl)); (case hp => exact (Reps.one (show Kd.M (Kd.int .i64) _ _ _ a1 [.int .i64 a1] from rfl) (Reps.none _ _))); intro v188 w4 ho5 hb hg_ hnew_; clear hg_ hnew_; (first | rw [← Ny187.out] at ho5 | (simp only [Int.reduceToNat] at ho5; rw [← Ny187.out] at ho5)); have n0_ := Aside0.mk (Kd.R_lower ho5 (below_size (by repeat (first | (with_reducible first|exact HB.out|apply vA_|apply vN_|apply vD_) | exact HB.out)))); have n1_ := Aside0.mk (below_step (by repeat (first | (with_reducible first|exact HB.out|apply vA_|apply vN_|apply vD_) | exact HB.out)) hb); clear HB; have HO189 := n0_; have HB := n1_; clear n0_ n1_; clear hb ho5; obtain ⟨Ao6, co6, eo6⟩ := Kd.R_slice HO189.out; subst eo6) | ((with_reducible refine gate_dst (N := 18) rfl ?_); refine Kd.S_lits (Kd.slice 3 (Kd.int .i64)) (w0 := w) w.heap.size 22 ?hg (N := 18) ?hd (xs := ([y187] : List (List Int))) (inner := [.slice Ao6 y187.length co6]) (ok := (fun _ => True)) (fun j_ k_ => j_ = 0 ∧ some k_ = (.slice Ao6 y187.length co6 : Value).ownBlock) ?hr ?hl ?hp ?ha (fun _ _ _ => trivial) trivial HB.out (below_size HB.out) (by simp) ?_; (case hd => rfl); (case hg => rfl); (case hl => rfl); (case ha => exact fun i_ j_ k_ h1_ h2_ => h1_.1.trans h2_.1.symm); (case hr => first | (go_simp; done) | (go_simp; rfl)); (case hp => exact leafT HO189.out); intro v191 w7 ho8 hb hg_ hnew_; clear hg_ hnew_; (first | rw [← Ny190.out] at ho8 | (simp only [Int.reduceToNat] at ho8; rw [← Ny190.out] at ho8)); have n0_ := Aside0.mk (Tail_of_S ho8); have n1_ := Aside0.mk hb; clear HB; clear HO189; have HO192 := n0_; have HB := n1_; clear n0_ n1_; clear hb ho8)); try go_wp2_with (first | ((with_reducible refine gate_dst (N := 17) rfl ?_); refine Kd.R_lit (Kd.int .i64) _ 3 ?hg (N := 17) ?hd (xs := ([a1] : List Int)) (inner := [.int .i64 a1]) (ok := fun _ => True) (okp := fun _ => True) ?hr ?hp (fun _ hk => hk) trivial (Below.refl _ _) (Nat.le_refl _) (by simp) ?_; (case hd => rfl); (case hg => rfl); (case hr => first | (go_simp; done) | (go_simp; rfl)); (case hp => exact (Reps.one (show Kd.M (Kd.int .i64) _ _ _ a1 [.int .i64 a1] from rfl) (Reps.none _ _))); intro v188 w4 ho5 hb hg_ hnew_; clear hg_ hnew_; (first | rw [← Ny187.out] at ho5 | (simp only [Int.reduceToNat] at ho5; rw [← Ny187.out] at ho5)); have n0_ := Aside0.mk (Kd.R_lower ho5 (below_size (by repeat (first | (with_reducible first|exact HB.out|apply vA_|apply vN_|apply vD_) | exact HB.out)))); have n1_ := Aside0.mk (below_step (by repeat (first | (with_reducible first|exact HB.out|apply vA_|apply vN_|apply vD_) | exact HB.out)) hb); clear HB; have HO189 := n0_; have HB := n1_; clear n0_ n1_; clear hb ho5; obtain ⟨Ao6, co6, eo6⟩ := Kd.R_slice HO189.out; subst eo6) | ((with_reducible refine gate_dst (N := 18) rfl ?_); refine Kd.S_lits (Kd.slice 3 (Kd.int .i64)) (w0 := w) w.heap.size 22 ?hg (N := 18) ?hd (xs := ([y187] : List (List Int))) (inner := [.slice Ao6 y187.length co6]) (ok := (fun _ => True)) (fun j_ k_ => j_ = 0 ∧ some k_ = (.slice Ao6 y187.length co6 : Value).ownBlock) ?hr ?hl ?hp ?ha (fun _ _ _ => trivial) trivial HB.out (below_size HB.out) (by simp) ?_; (case hd => rfl); (case hg => rfl); (case hl => rfl); (case ha => exact fun i_ j_ k_ h1_ h2_ => h1_.1.trans h2_.1.symm); (case hr => first | (go_simp; done) | (go_simp; rfl)); (case hp => exact leafT HO189.out); intro v191 w7 ho8 hb hg_ hnew_; clear hg_ hnew_; (first | rw [← Ny190.out] at ho8 | (simp only [Int.reduceToNat] at ho8; rw [← Ny190.out] at ho8)); have n0_ := Aside0.mk (Tail_of_S ho8); have n1_ := Aside0.mk hb; clear HB; clear HO189; have HO192 := n0_; have HB := n1_; clear n0_ n1_; clear hb ho8)))
  go_loopg [7, 8, 9] k (fun kq v7 v8 v9 w' => ∃ (x7_1 : List (List Int)) (x8_1 : List Int) (x9_1 : Int), v9 = .int .i64 x9_1 ∧ Aside0 (spec_l3Way.l0 kq l0 a2 x7_1 x8_1 x9_1 = some r) ∧ Aside0 (kq ≤ k) ∧ Aside0 (Tail (Kd.slice 3 (Kd.int .i64)) 22 w' w.heap.size (fun k_ => some k_ ≠ (v8 : Value).ownBlock) v7 x7_1 x9_1.toNat) ∧ Aside0 (Kd.R (Kd.int .i64) 3 w' w.heap.size (fun _ => True) v8 x8_1) ∧ Aside0 (Below w.heap.size w w'))
  case atStart => exact ⟨(y190), (([] : List Int)), (0), (by first | rfl | (simp; done) | (simp [*]; done)), H', ⟨Nat.le_refl _⟩, ⟨by (with_reducible repeat (first | apply Tail_alloc | apply Tail_drewN | apply Tail_drew)); exact Tail_mono HO192.out (fun _ hk => (by simp [Value.ownBlock]))⟩, ⟨by first | exact Kd.R_nil _ _ _ _ _ | exact Kd.N_nil _ _ _ _ _ | exact Kd.V_nil _ _ _ _ _ | exact Kd.Q_nil _ _ _ _ _ | exact Kd.S_nil _ _ _ _ _⟩, ⟨by repeat (first | (with_reducible first|exact HB.out|apply vA_|apply vN_|apply vD_) | exact HB.out)⟩⟩
  case round =>
    clear H'
    try clear c1
    try clear p2
    obtain ⟨x7_1, x8_1, x9_1, rfl, HA, HK1, HO_7, HO_8, HB⟩ := hrel
    cases gk with
    | zero => exact absurd HA.out (by simp [spec_l3Way.l0])
    | succ k1 =>
      have H := HA.out
      clear HA
      simp only [spec_l3Way.l0] at H
      by_cases c9 : x9_1 < (x7_1.length : Int)
      · rw [if_pos c9] at H
        have c9b0 : decide (x9_1 < (x7_1.length : Int)) = true := decide_eq_true c9
        clear c9
        by_cases c10 : 0 ≤ x9_1
        · rw [if_pos c10] at H
          have c10b0 : decide (0 ≤ x9_1) = true := decide_eq_true c10
          clear c10
          replace H := Option.bind_eq_some_iff.mp H
          obtain ⟨t194, A110, H⟩ := H
          have e194 : rd_L1 x7_1 x9_1 = t194 := Option.some.inj A110
          replace H : (spec_l3Way.l1 k1 l0 a2 x7_1 x8_1 x9_1 t194 ([] : List Int) l0 (l0.length : Int) 0) = some r := H
          have A11 := Aside0.mk A110
          clear A110
          have H' := Aside0.mk H
          clear H
          obtain ⟨Ao12, co12, eo12⟩ := Tail_slice HO_7.out
          subst eo12
          have p193 : 0 ≤ (x9_1 : Int) := of_decide_eq_true (by first | (with_reducible assumption) | assumption)
          have q193 : x9_1 < (x7_1.length : Int) := of_decide_eq_true (by first | (with_reducible assumption) | assumption)
          have HX := Aside0.mk (show 0 ≤ x9_1 ∧ x9_1 < 9223372036854775807 from ⟨p193, by have := Tail_len HO_7.out; omega⟩)
          obtain ⟨ad193, e193⟩ : ∃ ad, Ao12 = some ad := by
            obtain ⟨g_, cap_, eg_⟩ := Tail_form HO_7.out (by omega)
            injection eg_ with ea_ _ _
            exact ⟨_, ea_⟩
          cases e193
          obtain ⟨oki, c193, hcl193, hM193, hcc193, hoki193, HT193⟩ := Tail_elem HO_7.out ([] : List Int) (show x9_1.toNat < x7_1.length by omega)
          obtain ⟨v195, rfl, hR193⟩ := hM193
          have hx193_0 := hcc193 0 _ rfl
          rw [Nat.add_zero, show ((Kd.slice 3 (Kd.int .i64))).sz = 1 from rfl, Nat.mul_one] at hx193_0
          rw [show x7_1.getD x9_1.toNat ([] : List Int) = t194 from e194] at hR193
          have n0_ := Aside0.mk (Tail_mono (ok' := fun k_ => (some k_ ≠ (u8 : Value).ownBlock) ∧ some k_ ≠ (v195 : Value).ownBlock) HT193 (fun k_ hk_ => ⟨hk_.1, fun e_ => hk_.2 (hR193.1 k_ e_.symm)⟩))
          have n1_ := Aside0.mk (Kd.R_mono (ok' := fun k_ => True ∧ some k_ ≠ (v195 : Value).ownBlock) (Kd.R_tight rfl HO_8.out) (fun k_ hk_ => ⟨trivial, fun e_ => (hoki193 k_ (hR193.1 k_ e_.symm)).1 hk_⟩))
          have HO196 := Aside0.mk (Kd.R_mono (ok' := fun k_ => True ∧ some k_ ≠ (u8 : Value).ownBlock) hR193 (fun k_ hk_ => ⟨trivial, (hoki193 k_ hk_).1⟩))
          clear HO_7 HO_8 hcl193 hcc193 hoki193 hR193 HT193 e194
          have HO_7 := n0_
          have HO_8 := n1_
          clear n0_ n1_
          replace p193 := eq_true p193
          replace q193 := eq_true q193
          go_wp2
          repeat (go_quiet (fail); try go_wp2)
          go_loopg [11, 31] k1 (fun kq v11 v31 w' => ∃ (x11_2 : List Int) (x31_2 : Int), v31 = .int .i64 x31_2 ∧ Aside0 (spec_l3Way.l1 kq l0 a2 x7_1 x8_1 x9_1 t194 x11_2 l0 (l0.length : Int) x31_2 = some r) ∧ Aside0 (kq ≤ k1) ∧ Aside0 (Tail (Kd.slice 3 (Kd.int .i64)) 22 w' w.heap.size (fun k_ => some k_ ≠ (u8 : Value).ownBlock ∧ some k_ ≠ (v195 : Value).ownBlock ∧ some k_ ≠ (v11 : Value).ownBlock) (.slice (some ad193) x7_1.length co12) x7_1 (x9_1.toNat + 1)) ∧ Aside0 (Kd.R (Kd.int .i64) 3 w' w.heap.size (fun k_ => some k_ ≠ (v195 : Value).ownBlock ∧ some k_ ≠ (v11 : Value).ownBlock) u8 x8_1) ∧ Aside0 (Kd.R (Kd.int .i64) 3 w' w.heap.size (fun k_ => some k_ ≠ (u8 : Value).ownBlock ∧ some k_ ≠ (v11 : Value).ownBlock) v195 t194) ∧ Aside0 (Kd.R (Kd.int .i64) 3 w' w.heap.size (fun k_ => some k_ ≠ (u8 : Value).ownBlock ∧ some k_ ≠ (v195 : Value).ownBlock) v11 x11_2) ∧ Aside0 (Below w.heap.size w w'))
          case atStart => exact ⟨(([] : List Int)), (0), (by first | rfl | (simp; done) | (simp [*]; done)), H', ⟨Nat.le_refl _⟩, ⟨by (with_reducible repeat (first | apply Tail_alloc | apply Tail_drewN | apply Tail_drew)); exact Tail_mono HO_7.out (fun _ hk => ⟨hk.1, ⟨hk.2, (by simp [Value.ownBlock])⟩⟩)⟩, ⟨by (with_reducible repeat first|apply rA_|apply rN_|apply rD_); exact Kd.R_mono HO_8.out (fun _ hk => ⟨hk.2, (by simp [Value.ownBlock])⟩)⟩, ⟨by (with_reducible repeat first|apply rA_|apply rN_|apply rD_); exact Kd.R_mono HO196.out (fun _ hk => ⟨hk.2, (by simp [Value.ownBlock])⟩)⟩, ⟨by first | exact Kd.R_nil _ _ _ _ _ | exact Kd.N_nil _ _ _ _ _ | exact Kd.V_nil _ _ _ _ _ | exact Kd.Q_nil _ _ _ _ _ | exact Kd.S_nil _ _ _ _ _⟩, ⟨by repeat (first | (with_reducible first|exact HB.out|apply vA_|apply vN_|apply vD_) | exact HB.out)⟩⟩
          case round =>
            clear H'
            try clear c1
            try clear p1
            try clear q1
            try clear hx1
            try clear p2
            try clear c9
            try clear c9b0
            try clear c10
            try clear c10b0
            try clear c11
            try clear hx193_0
            try clear p193
            try clear p2
            try clear q193
            obtain ⟨x11_2, x31_2, rfl, HA, HK2, HO_7, HO_8, HO_10, HO_11, HB⟩ := hrel
            cases gk with
            | zero => exact absurd HA.out (by simp [spec_l3Way.l1])
            | succ k2 =>
              have H := HA.out
              clear HA
              simp only [spec_l3Way.l1] at H
              by_cases c14 : x31_2 < (l0.length : Int)
              · rw [if_pos c14] at H
                have c14b0 : decide (x31_2 < (l0.length : Int)) = true := decide_eq_true c14
                clear c14
                by_cases c15 : 0 ≤ x31_2
                · rw [if_pos c15] at H
                  have c15b0 : decide (0 ≤ x31_2) = true := decide_eq_true c15
                  clear c15
                  by_cases c16 : x31_2 < (l0.length : Int)
                  · rw [if_pos c16] at H
                    have c16b0 : decide (x31_2 < (l0.length : Int)) = true := decide_eq_true c16
                    clear c16
                    by_cases c17 : 0 < ((rd_L1 l0 x31_2).length : Int)
                    · rw [if_pos c17] at H
                      have c17b0 : decide (0 < ((rd_L1 l0 x31_2).length : Int)) = true := decide_eq_true c17
                      have c17b1 : decide (0 < (rd_L1 l0 x31_2).length) = true := decide_eq_true (by omega)
                      clear c17
                      obtain ⟨ji18, hji18⟩ : ∃ j_ : Int, (wrap64 ((t194.length : Int) - 1)) = j_ := ⟨_, rfl⟩
                      replace H : (if 0 ≤ (ji18) then (if (ji18) < (t194.length : Int) then (if (rd (rd_L1 l0 x31_2) 0) = (rd t194 (ji18)) then (if 1 < ((rd_L1 l0 x31_2).length : Int) then ((spec_l1Put.f k2 x11_2 (rd (rd_L1 l0 x31_2) 1)).bind fun t201 => (spec_l3Way.l1 k2 l0 a2 x7_1 x8_1 x9_1 t194 t201 l0 (l0.length : Int) (wrap64 (x31_2 + 1)))) else (none)) else (spec_l3Way.l1 k2 l0 a2 x7_1 x8_1 x9_1 t194 x11_2 l0 (l0.length : Int) (wrap64 (x31_2 + 1)))) else (none)) else (none)) = some r := by first | (rw [hji18] at H; exact H) | (simp only [hji18] at H ⊢; exact H)
                      have hji18w : (IntKind.i64.wrap ((t194.length : Int) - 1)) = ji18 := (i64_w _).trans hji18
                      by_cases c19 : 0 ≤ (ji18)
                      · rw [if_pos c19] at H
                        have c19b0 : decide (0 ≤ (ji18)) = true := decide_eq_true c19
                        clear c19
                        by_cases c20 : (ji18) < (t194.length : Int)
                        · rw [if_pos c20] at H
                          have c20b0 : decide ((ji18) < (t194.length : Int)) = true := decide_eq_true c20
                          clear c20
                          by_cases c21 : (rd (rd_L1 l0 x31_2) 0) = (rd t194 (ji18))
                          · rw [if_pos c21] at H
                            have c21b0 : ((rd (rd_L1 l0 x31_2) 0) == (rd t194 (ji18))) = true := beq_iff_eq.mpr c21
                            have c21b1 : ((rd (rd_L1 l0 x31_2) 0) != (rd t194 (ji18))) = false := bne_eq_false_iff_eq.mpr c21
                            clear c21
                            by_cases c22 : 1 < ((rd_L1 l0 x31_2).length : Int)
                            · rw [if_pos c22] at H
                              have c22b0 : decide (1 < ((rd_L1 l0 x31_2).length : Int)) = true := decide_eq_true c22
                              have c22b1 : decide (1 < (rd_L1 l0 x31_2).length) = true := decide_eq_true (by omega)
                              clear c22
                              replace H := Option.bind_eq_some_iff.mp H
                              obtain ⟨t201, A230, H⟩ := H
                              replace H : (spec_l3Way.l1 k2 l0 a2 x7_1 x8_1 x9_1 t194 t201 l0 (l0.length : Int) (wrap64 (x31_2 + 1))) = some r := H
                              have A23 := Aside0.mk A230
                              clear A230
                              have H' := Aside0.mk H
                              clear H
                              have p197 : 0 ≤ (x31_2 : Int) := of_decide_eq_true (by first | (with_reducible assumption) | assumption)
                              have q197 : x31_2 < (l0.length : Int) := of_decide_eq_true (by first | (with_reducible assumption) | assumption)
                              obtain ⟨ad197, A197_0, c197_0, e197, hx197_0, hl197_0, hi197_0⟩ := at_L1 HR0.out x31_2 p197 q197
                              cases e197
                              try replace hx197_0 := (HB.out.cell (World.block_lt_of_cell? w _ hx197_0)).trans hx197_0
                              have HR197_0 := Aside0.mk hi197_0
                              have HC197_0 := Aside0.mk hl197_0
                              clear hi197_0 hl197_0
                              replace p197 := eq_true p197
                              replace q197 := eq_true q197
                              have p198 : 0 ≤ (0 : Int) := (by omega)
                              have q198 : 0 < ((rd_L1 l0 x31_2).length : Int) := of_decide_eq_true (by first | (with_reducible assumption) | assumption)
                              obtain ⟨ad198, e198, hx198_0⟩ := Kd.at_int HR197_0.out 0 p198 q198
                              cases e198
                              have qi198 : (0 < (rd_L1 l0 x31_2).length) = True := eq_true (by omega)
                              (try rw [show ((0 : Int)).toNat = 0 from rfl] at hx198_0)
                              (try rw [Addr.add_zero'] at hx198_0)
                              try replace hx198_0 := (HB.out.cell (World.block_lt_of_cell? w _ hx198_0)).trans hx198_0
                              replace p198 := eq_true p198
                              replace q198 := eq_true q198
                              obtain ⟨Ao24, co24, eo24⟩ := Kd.R_slice HO_10.out
                              subst eo24
                              have p199 : 0 ≤ ((ji18) : Int) := of_decide_eq_true (by first | (with_reducible assumption) | assumption)
                              have q199 : (ji18) < (t194.length : Int) := of_decide_eq_true (by first | (with_reducible assumption) | assumption)
                              obtain ⟨ad199, e199, hx199_0⟩ := Kd.at_int (Kd.R_reads' HO_10.out).2.2 (ji18) p199 q199
                              cases e199
                              replace p199 := eq_true p199
                              replace q199 := eq_true q199
                              have p200 : 0 ≤ (1 : Int) := (by omega)
                              have q200 : 1 < ((rd_L1 l0 x31_2).length : Int) := of_decide_eq_true (by first | (with_reducible assumption) | assumption)
                              obtain ⟨ad200, e200, hx200_0⟩ := Kd.at_int HR197_0.out 1 p200 q200
                              obtain rfl : ad198 = ad200 := (by injection e200)
                              (try simp only [show (1 : Int).toNat = 1 from rfl, Nat.reduceMul, Nat.reduceEqDiff, Go.Addr.add, ↓reduceIte] at hx200_0)
                              have qi200 : (1 < (rd_L1 l0 x31_2).length) = True := eq_true (by omega)
                              (try rw [show ((1 : Int)).toNat = 1 from rfl] at hx200_0)
                              try replace hx200_0 := (HB.out.cell (World.block_lt_of_cell? w _ hx200_0)).trans hx200_0
                              replace p200 := eq_true p200
                              replace q200 := eq_true q200
                              obtain ⟨Ao25, co25, eo25⟩ := Kd.R_slice HO_11.out
                              subst eo25
                              go_wp2_with (first | (go_at_call 57; (with_reducible refine (spec_l1Put.calls k2 (fun k_ => some k_ = (.slice Ao25 x11_2.length co25 : Value).ownBlock) (.slice Ao25 x11_2.length co25) x11_2 (rd (rd_L1 l0 x31_2) 1) t201 w _ ?side1 ?side2 A23.out).mono ?_); (case side1 => repeat (first | (with_reducible first|exact HB.out|apply vA_|apply vN_|apply vD_) | exact HB.out)); (case side2 => exact Kd.R_tight rfl HO_11.out); rintro e w26 ⟨v202, rfl, ho0, hb, hkp⟩; have n0_ := Aside0.mk (Tail_mono (ok' := fun k_ => some k_ ≠ (u8 : Value).ownBlock ∧ some k_ ≠ (.slice (some ad199) t194.length co24 : Value).ownBlock ∧ some k_ ≠ (v202 : Value).ownBlock) (Tail_keptB (HO_7.out) hkp (fun k_ hk_ hs_ => (hk_.2.2) hs_)) (fun k_ hk_ => ⟨hk_.1.1, hk_.1.2.1, fun e_ => Or.elim (ho0.1 k_ e_.symm) (fun hs_ => hk_.2.1 hs_) (fun hn_ => Nat.not_le.2 hk_.2.2 hn_)⟩)); have n1_ := Aside0.mk (Kd.R_mono (ok' := fun k_ => some k_ ≠ (.slice (some ad199) t194.length co24 : Value).ownBlock ∧ some k_ ≠ (v202 : Value).ownBlock) (Kd.R_keptB (HO_8.out) hkp (fun k_ hk_ hs_ => (hk_.2) hs_)) (fun k_ hk_ => ⟨hk_.1.1, fun e_ => Or.elim (ho0.1 k_ e_.symm) (fun hs_ => hk_.2.1 hs_) (fun hn_ => Nat.not_le.2 hk_.2.2 hn_)⟩)); have n2_ := Aside0.mk (Kd.R_mono (ok' := fun k_ => some k_ ≠ (u8 : Value).ownBlock ∧ some k_ ≠ (v202 : Value).ownBlock) (Kd.R_keptB (HO_10.out) hkp (fun k_ hk_ hs_ => (hk_.2) hs_)) (fun k_ hk_ => ⟨hk_.1.1, fun e_ => Or.elim (ho0.1 k_ e_.symm) (fun hs_ => hk_.2.1 hs_) (fun hn_ => Nat.not_le.2 hk_.2.2 hn_)⟩)); have n3_ := Aside0.mk (Kd.R_mono (ok' := fun k_ => some k_ ≠ (u8 : Value).ownBlock ∧ some k_ ≠ (.slice (some ad199) t194.length co24 : Value).ownBlock) ho0 (fun k_ hk_ => ⟨Or.elim hk_ (fun hs_ => fun e_ => (((HO_8.out).1 k_ e_.symm).2) hs_) (fun hn_ => (Kd.fresh' (Kd.R_lt (by (with_reducible repeat first|apply rA_|apply rN_|apply rD_); exact HO_8.out)) k_ hn_)), Or.elim hk_ (fun hs_ => fun e_ => (((HO_10.out).1 k_ e_.symm).2) hs_) (fun hn_ => (Kd.fresh' (Kd.R_lt (by (with_reducible repeat first|apply rA_|apply rN_|apply rD_); exact HO_10.out)) k_ hn_))⟩)); have n4_ := Aside0.mk (hb); clear HO_7; clear HO_8; clear HO_10; clear HB; clear HO_11; have HO_7 := n0_; have HO_8 := n1_; have HO_10 := n2_; have HO203 := n3_; have HB := n4_; clear n0_ n1_ n2_ n3_ n4_; (try clear hb); (try clear hkp); (try clear ho0)))
                              repeat (go_quiet (first | (go_at_call 57; (with_reducible refine (spec_l1Put.calls k2 (fun k_ => some k_ = (.slice Ao25 x11_2.length co25 : Value).ownBlock) (.slice Ao25 x11_2.length co25) x11_2 (rd (rd_L1 l0 x31_2) 1) t201 w _ ?side1 ?side2 A23.out).mono ?_); (case side1 => repeat (first | (with_reducible first|exact HB.out|apply vA_|apply vN_|apply vD_) | exact HB.out)); (case side2 => exact Kd.R_tight rfl HO_11.out); rintro e w26 ⟨v202, rfl, ho0, hb, hkp⟩; have n0_ := Aside0.mk (Tail_mono (ok' := fun k_ => some k_ ≠ (u8 : Value).ownBlock ∧ some k_ ≠ (.slice (some ad199) t194.length co24 : Value).ownBlock ∧ some k_ ≠ (v202 : Value).ownBlock) (Tail_keptB (HO_7.out) hkp (fun k_ hk_ hs_ => (hk_.2.2) hs_)) (fun k_ hk_ => ⟨hk_.1.1, hk_.1.2.1, fun e_ => Or.elim (ho0.1 k_ e_.symm) (fun hs_ => hk_.2.1 hs_) (fun hn_ => Nat.not_le.2 hk_.2.2 hn_)⟩)); have n1_ := Aside0.mk (Kd.R_mono (ok' := fun k_ => some k_ ≠ (.slice (some ad199) t194.length co24 : Value).ownBlock ∧ some k_ ≠ (v202 : Value).ownBlock) (Kd.R_keptB (HO_8.out) hkp (fun k_ hk_ hs_ => (hk_.2) hs_)) (fun k_ hk_ => ⟨hk_.1.1, fun e_ => Or.elim (ho0.1 k_ e_.symm) (fun hs_ => hk_.2.1 hs_) (fun hn_ => Nat.not_le.2 hk_.2.2 hn_)⟩)); have n2_ := Aside0.mk (Kd.R_mono (ok' := fun k_ => some k_ ≠ (u8 : Value).ownBlock ∧ some k_ ≠ (v202 : Value).ownBlock) (Kd.R_keptB (HO_10.out) hkp (fun k_ hk_ hs_ => (hk_.2) hs_)) (fun k_ hk_ => ⟨hk_.1.1, fun e_ => Or.elim (ho0.1 k_ e_.symm) (fun hs_ => hk_.2.1 hs_) (fun hn_ => Nat.not_le.2 hk_.2.2 hn_)⟩)); have n3_ := Aside0.mk (Kd.R_mono (ok' := fun k_ => some k_ ≠ (u8 : Value).ownBlock ∧ some k_ ≠ (.slice (some ad199) t194.length co24 : Value).ownBlock) ho0 (fun k_ hk_ => ⟨Or.elim hk_ (fun hs_ => fun e_ => (((HO_8.out).1 k_ e_.symm).2) hs_) (fun hn_ => (Kd.fresh' (Kd.R_lt (by (with_reducible repeat first|apply rA_|apply rN_|apply rD_); exact HO_8.out)) k_ hn_)), Or.elim hk_ (fun hs_ => fun e_ => (((HO_10.out).1 k_ e_.symm).2) hs_) (fun hn_ => (Kd.fresh' (Kd.R_lt (by (with_reducible repeat first|apply rA_|apply rN_|apply rD_); exact HO_10.out)) k_ hn_))⟩)); have n4_ := Aside0.mk (hb); clear HO_7; clear HO_8; clear HO_10; clear HB; clear HO_11; have HO_7 := n0_; have HO_8 := n1_; have HO_10 := n2_; have HO203 := n3_; have HB := n4_; clear n0_ n1_ n2_ n3_ n4_; (try clear hb); (try clear hkp); (try clear ho0))); try go_wp2_with (first | (go_at_call 57; (with_reducible refine (spec_l1Put.calls k2 (fun k_ => some k_ = (.slice Ao25 x11_2.length co25 : Value).ownBlock) (.slice Ao25 x11_2.length co25) x11_2 (rd (rd_L1 l0 x31_2) 1) t201 w _ ?side1 ?side2 A23.out).mono ?_); (case side1 => repeat (first | (with_reducible first|exact HB.out|apply vA_|apply vN_|apply vD_) | exact HB.out)); (case side2 => exact Kd.R_tight rfl HO_11.out); rintro e w26 ⟨v202, rfl, ho0, hb, hkp⟩; have n0_ := Aside0.mk (Tail_mono (ok' := fun k_ => some k_ ≠ (u8 : Value).ownBlock ∧ some k_ ≠ (.slice (some ad199) t194.length co24 : Value).ownBlock ∧ some k_ ≠ (v202 : Value).ownBlock) (Tail_keptB (HO_7.out) hkp (fun k_ hk_ hs_ => (hk_.2.2) hs_)) (fun k_ hk_ => ⟨hk_.1.1, hk_.1.2.1, fun e_ => Or.elim (ho0.1 k_ e_.symm) (fun hs_ => hk_.2.1 hs_) (fun hn_ => Nat.not_le.2 hk_.2.2 hn_)⟩)); have n1_ := Aside0.mk (Kd.R_mono (ok' := fun k_ => some k_ ≠ (.slice (some ad199) t194.length co24 : Value).ownBlock ∧ some k_ ≠ (v202 : Value).ownBlock) (Kd.R_keptB (HO_8.out) hkp (fun k_ hk_ hs_ => (hk_.2) hs_)) (fun k_ hk_ => ⟨hk_.1.1, fun e_ => Or.elim (ho0.1 k_ e_.symm) (fun hs_ => hk_.2.1 hs_) (fun hn_ => Nat.not_le.2 hk_.2.2 hn_)⟩)); have n2_ := Aside0.mk (Kd.R_mono (ok' := fun k_ => some k_ ≠ (u8 : Value).ownBlock ∧ some k_ ≠ (v202 : Value).ownBlock) (Kd.R_keptB (HO_10.out) hkp (fun k_ hk_ hs_ => (hk_.2) hs_)) (fun k_ hk_ => ⟨hk_.1.1, fun e_ => Or.elim (ho0.1 k_ e_.symm) (fun hs_ => hk_.2.1 hs_) (fun hn_ => Nat.not_le.2 hk_.2.2 hn_)⟩)); have n3_ := Aside0.mk (Kd.R_mono (ok' := fun k_ => some k_ ≠ (u8 : Value).ownBlock ∧ some k_ ≠ (.slice (some ad199) t194.length co24 : Value).ownBlock) ho0 (fun k_ hk_ => ⟨Or.elim hk_ (fun hs_ => fun e_ => (((HO_8.out).1 k_ e_.symm).2) hs_) (fun hn_ => (Kd.fresh' (Kd.R_lt (by (with_reducible repeat first|apply rA_|apply rN_|apply rD_); exact HO_8.out)) k_ hn_)), Or.elim hk_ (fun hs_ => fun e_ => (((HO_10.out).1 k_ e_.symm).2) hs_) (fun hn_ => (Kd.fresh' (Kd.R_lt (by (with_reducible repeat first|apply rA_|apply rN_|apply rD_); exact HO_10.out)) k_ hn_))⟩)); have n4_ := Aside0.mk (hb); clear HO_7; clear HO_8; clear HO_10; clear HB; clear HO_11; have HO_7 := n0_; have HO_8 := n1_; have HO_10 := n2_; have HO203 := n3_; have HB := n4_; clear n0_ n1_ n2_ n3_ n4_; (try clear hb); (try clear hkp); (try clear ho0))))
                              go_roundg k2
                              case measure => have := HK1.out; have := HK2.out; omega
                              case rel => exact ⟨(t201), (wrap64 (x31_2 + 1)), (by first | rfl | (simp; done) | (simp [*]; done)), H', ⟨by have := HK1.out; have := HK2.out; omega⟩, ⟨by (with_reducible repeat (first | apply Tail_alloc | apply Tail_drewN | apply Tail_drew)); exact HO_7.out⟩, ⟨by (with_reducible repeat first|apply rA_|apply rN_|apply rD_); exact HO_8.out⟩, ⟨by (with_reducible repeat first|apply rA_|apply rN_|apply rD_); exact HO_10.out⟩, ⟨by (with_reducible repeat first|apply rA_|apply rN_|apply rD_); exact HO203.out⟩, ⟨by repeat (first | (with_reducible first|exact HB.out|apply vA_|apply vN_|apply vD_) | exact HB.out)⟩⟩
                            · rw [if_neg c22] at H
                              exact absurd H (by simp)
                          · rw [if_neg c21] at H
                            have c21b0 : ((rd (rd_L1 l0 x31_2) 0) == (rd t194 (ji18))) = false := beq_eq_false_iff_ne.mpr c21
                            have c21b1 : ((rd (rd_L1 l0 x31_2) 0) != (rd t194 (ji18))) = true := bne_iff_ne.mpr c21
                            have H' := Aside0.mk H
                            clear H
                            have p197 : 0 ≤ (x31_2 : Int) := of_decide_eq_true (by first | (with_reducible assumption) | assumption)
                            have q197 : x31_2 < (l0.length : Int) := of_decide_eq_true (by first | (with_reducible assumption) | assumption)
                            obtain ⟨ad197, A197_0, c197_0, e197, hx197_0, hl197_0, hi197_0⟩ := at_L1 HR0.out x31_2 p197 q197
                            cases e197
                            try replace hx197_0 := (HB.out.cell (World.block_lt_of_cell? w _ hx197_0)).trans hx197_0
                            have HR197_0 := Aside0.mk hi197_0
                            have HC197_0 := Aside0.mk hl197_0
                            clear hi197_0 hl197_0
                            replace p197 := eq_true p197
                            replace q197 := eq_true q197
                            have p198 : 0 ≤ (0 : Int) := (by omega)
                            have q198 : 0 < ((rd_L1 l0 x31_2).length : Int) := of_decide_eq_true (by first | (with_reducible assumption) | assumption)
                            obtain ⟨ad198, e198, hx198_0⟩ := Kd.at_int HR197_0.out 0 p198 q198
                            cases e198
                            have qi198 : (0 < (rd_L1 l0 x31_2).length) = True := eq_true (by omega)
                            (try rw [show ((0 : Int)).toNat = 0 from rfl] at hx198_0)
                            (try rw [Addr.add_zero'] at hx198_0)
                            try replace hx198_0 := (HB.out.cell (World.block_lt_of_cell? w _ hx198_0)).trans hx198_0
                            replace p198 := eq_true p198
                            replace q198 := eq_true q198
                            obtain ⟨Ao27, co27, eo27⟩ := Kd.R_slice HO_10.out
                            subst eo27
                            have p199 : 0 ≤ ((ji18) : Int) := of_decide_eq_true (by first | (with_reducible assumption) | assumption)
                            have q199 : (ji18) < (t194.length : Int) := of_decide_eq_true (by first | (with_reducible assumption) | assumption)
                            obtain ⟨ad199, e199, hx199_0⟩ := Kd.at_int (Kd.R_reads' HO_10.out).2.2 (ji18) p199 q199
                            cases e199
                            replace p199 := eq_true p199
                            replace q199 := eq_true q199
                            go_wp2
                            repeat (go_quiet (fail); try go_wp2)
                            go_roundg k2
                            case measure => have := HK1.out; have := HK2.out; omega
                            case rel => exact ⟨(x11_2), (wrap64 (x31_2 + 1)), (by first | rfl | (simp; done) | (simp [*]; done)), H', ⟨by have := HK1.out; have := HK2.out; omega⟩, ⟨by (with_reducible repeat (first | apply Tail_alloc | apply Tail_drewN | apply Tail_drew)); exact HO_7.out⟩, ⟨by (with_reducible repeat first|apply rA_|apply rN_|apply rD_); exact HO_8.out⟩, ⟨by (with_reducible repeat first|apply rA_|apply rN_|apply rD_); exact HO_10.out⟩, ⟨by (with_reducible repeat first|apply rA_|apply rN_|apply rD_); exact HO_11.out⟩, ⟨by repeat (first | (with_reducible first|exact HB.out|apply vA_|apply vN_|apply vD_) | exact HB.out)⟩⟩
                        · rw [if_neg c20] at H
                          exact absurd H (by simp)
                      · rw [if_neg c19] at H
                        exact absurd H (by simp)
                    · rw [if_neg c17] at H
                      exact absurd H (by simp)
                  · rw [if_neg c16] at H
                    exact absurd H (by simp)
                · rw [if_neg c15] at H
                  exact absurd H (by simp)
              · rw [if_neg c14] at H
                have c14b0 : decide (x31_2 < (l0.length : Int)) = false := decide_eq_false c14
                clear c14
                have H' := Aside0.mk H
                clear H
                obtain ⟨Ao28, co28, eo28⟩ := Kd.R_slice HO_11.out
                subst eo28
                go_wp2
                repeat (go_quiet (fail); try go_wp2)
                go_loopg [7, 8, 53] k2 (fun kq v7 v8 v53 w' => ∃ (x7_3 : List (List Int)) (x8_3 : List Int) (x53_3 : Int), v53 = .int .i64 x53_3 ∧ Aside0 (spec_l3Way.l2 kq l0 a2 x7_3 x8_3 x9_1 t194 x11_2 (x11_2.length : Int) x53_3 = some r) ∧ Aside0 (kq ≤ k2) ∧ Aside0 (Tail (Kd.slice 3 (Kd.int .i64)) 22 w' w.heap.size (fun k_ => some k_ ≠ (v8 : Value).ownBlock ∧ some k_ ≠ (v195 : Value).ownBlock ∧ some k_ ≠ ((.slice Ao28 x11_2.length co28) : Value).ownBlock) v7 x7_3 (x9_1.toNat + 1)) ∧ Aside0 (Kd.R (Kd.int .i64) 3 w' w.heap.size (fun k_ => some k_ ≠ (v195 : Value).ownBlock ∧ some k_ ≠ ((.slice Ao28 x11_2.length co28) : Value).ownBlock) v8 x8_3) ∧ Aside0 (Kd.R (Kd.int .i64) 3 w' w.heap.size (fun k_ => some k_ ≠ (v8 : Value).ownBlock ∧ some k_ ≠ ((.slice Ao28 x11_2.length co28) : Value).ownBlock) v195 t194) ∧ Aside0 (Kd.R (Kd.int .i64) 3 w' w.heap.size (fun k_ => some k_ ≠ (v8 : Value).ownBlock ∧ some k_ ≠ (v195 : Value).ownBlock) (.slice Ao28 x11_2.length co28) x11_2) ∧ Aside0 (Below w.heap.size w w'))
                case atStart => exact ⟨(x7_1), (x8_1), (0), (by first | rfl | (simp; done) | (simp [*]; done)), H', ⟨Nat.le_refl _⟩, ⟨by (with_reducible repeat (first | apply Tail_alloc | apply Tail_drewN | apply Tail_drew)); exact HO_7.out⟩, ⟨by (with_reducible repeat first|apply rA_|apply rN_|apply rD_); exact HO_8.out⟩, ⟨by (with_reducible repeat first|apply rA_|apply rN_|apply rD_); exact HO_10.out⟩, ⟨by (with_reducible repeat first|apply rA_|apply rN_|apply rD_); exact HO_11.out⟩, ⟨by repeat (first | (with_reducible first|exact HB.out|apply vA_|apply vN_|apply vD_) | exact HB.out)⟩⟩
                case round =>
                  clear H'
                  try clear c1
                  try clear p1
                  try clear q1
                  try clear hx1
                  try clear qi1
                  try clear c2
                  try clear p2
                  try clear q2
                  try clear hx2
                  try clear qi2
                  try clear p6
                  try clear c9
                  try clear c9b0
                  try clear c10
                  try clear c10b0
                  try clear c11
                  try clear c14
                  try clear c14b0
                  try clear c15
                  try clear c15b0
                  try clear c16
                  try clear c16b0
                  try clear c17
                  try clear c17b0
                  try clear c17b1
                  try clear c19
                  try clear c19b0
                  try clear p19
                  try clear q19
                  try clear hx19
                  try clear qi19
                  try clear c20
                  try clear c20b0
                  try clear p20
                  try clear q20
                  try clear hx20
                  try clear qi20
                  try clear c21
                  try clear c21b0
                  try clear c21b1
                  try clear c22
                  try clear c22b0
                  try clear c22b1
                  try clear hx193_0
                  try clear hx197_0
                  try clear hx198_0
                  try clear hx199_0
                  try clear hx200_0
                  try clear p1
                  try clear p193
                  try clear p197
                  try clear p198
                  try clear p199
                  try clear p2
                  try clear p200
                  try clear q1
                  try clear q193
                  try clear q197
                  try clear q198
                  try clear q199
                  try clear q200
                  obtain ⟨x7_3, x8_3, x53_3, rfl, HA, HK3, HO_7, HO_8, HO_10, HO_51, HB⟩ := hrel
                  cases gk with
                  | zero => exact absurd HA.out (by simp [spec_l3Way.l2])
                  | succ k3 =>
                    have H := HA.out
                    clear HA
                    simp only [spec_l3Way.l2] at H
                    by_cases c29 : x53_3 < (x11_2.length : Int)
                    · rw [if_pos c29] at H
                      have c29b0 : decide (x53_3 < (x11_2.length : Int)) = true := decide_eq_true c29
                      clear c29
                      by_cases c30 : 0 ≤ x53_3
                      · rw [if_pos c30] at H
                        have c30b0 : decide (0 ≤ x53_3) = true := decide_eq_true c30
                        clear c30
                        by_cases c31 : x53_3 < (x11_2.length : Int)
                        · rw [if_pos c31] at H
                          have c31b0 : decide (x53_3 < (x11_2.length : Int)) = true := decide_eq_true c31
                          clear c31
                          by_cases c32 : (rd x11_2 x53_3) = a2
                          · rw [if_pos c32] at H
                            have c32b0 : ((rd x11_2 x53_3) == a2) = true := beq_iff_eq.mpr c32
                            have c32b1 : ((rd x11_2 x53_3) != a2) = false := bne_eq_false_iff_eq.mpr c32
                            clear c32
                            obtain rfl := Option.some.inj H
                            have p204 : 0 ≤ (x53_3 : Int) := of_decide_eq_true (by first | (with_reducible assumption) | assumption)
                            have q204 : x53_3 < (x11_2.length : Int) := of_decide_eq_true (by first | (with_reducible assumption) | assumption)
                            obtain ⟨ad204, e204, hx204_0⟩ := Kd.at_int (Kd.R_reads' HO_51.out).2.2 x53_3 p204 q204
                            cases e204
                            replace p204 := eq_true p204
                            replace q204 := eq_true q204
                            go_wp2
                            repeat (go_quiet (fail); try go_wp2)
                            go_ret
                            exact ⟨_, by first | rfl | (simp [errW_none, errW_some] <;> rfl) | (simp [*, errW_none, errW_some] <;> rfl), by (with_reducible repeat first|apply rA_|apply rN_|apply rD_); exact Kd.R_mono HO_10.out (fun _ hk => trivial), by repeat (first | (with_reducible first|exact HB.out|apply vA_|apply vN_|apply vD_) | exact HB.out)⟩
                          · rw [if_neg c32] at H
                            have c32b0 : ((rd x11_2 x53_3) == a2) = false := beq_eq_false_iff_ne.mpr c32
                            have c32b1 : ((rd x11_2 x53_3) != a2) = true := bne_iff_ne.mpr c32
                            replace H := Option.bind_eq_some_iff.mp H
                            obtain ⟨t205, A330, H⟩ := H
                            replace H : (if t205 = true then (spec_l3Way.l2 k3 l0 a2 x7_3 x8_3 x9_1 t194 x11_2 (x11_2.length : Int) (wrap64 (x53_3 + 1))) else (if x8_3.length < 17592186044416 then ((spec_l1Own.f t194).bind fun t209 => (if t209.length < 17592186044416 then (if x7_3.length < 5864062014805 then (spec_l3Way.l2 k3 l0 a2 (x7_3 ++ [(t209 ++ [rd x11_2 x53_3])]) (x8_3 ++ [rd x11_2 x53_3]) x9_1 t194 x11_2 (x11_2.length : Int) (wrap64 (x53_3 + 1))) else (none)) else (none))) else (none))) = some r := H
                            have A33 := Aside0.mk A330
                            clear A330
                            by_cases c34 : t205 = true
                            · subst c34
                              have H1 : (spec_l3Way.l2 k3 l0 a2 x7_3 x8_3 x9_1 t194 x11_2 (x11_2.length : Int) (wrap64 (x53_3 + 1))) = some r := by rw [if_pos rfl] at H; exact H
                              clear H
                              have H := H1
                              clear H1
                              have H' := Aside0.mk H
                              clear H
                              have p204 : 0 ≤ (x53_3 : Int) := of_decide_eq_true (by first | (with_reducible assumption) | assumption)
                              have q204 : x53_3 < (x11_2.length : Int) := of_decide_eq_true (by first | (with_reducible assumption) | assumption)
                              obtain ⟨ad204, e204, hx204_0⟩ := Kd.at_int (Kd.R_reads' HO_51.out).2.2 x53_3 p204 q204
                              cases e204
                              replace p204 := eq_true p204
                              replace q204 := eq_true q204
                              obtain ⟨Ao35, co35, eo35⟩ := Kd.R_slice HO_8.out
                              subst eo35
                              go_wp2_with (first | (go_at_call 56; (with_reducible refine (spec_l1Has.calls k3 _ _ x8_3 (rd x11_2 x53_3) true _ ?side1 ?side2 A33.out).mono ?_); (case side1 => repeat (first | exact (Kd.R_reads' HO_8.out).2.2 | with_reducible apply cA_|with_reducible apply cN_|with_reducible apply cD_)); (case side2 => exact (Kd.R_reads' HO_8.out).2.1); rintro e w' ⟨rfl, ⟨nd, rfl⟩⟩; (try first | exact ⟨rfl, _, World.drewN_drewN _ _ _⟩ | exact ⟨rfl, _, Eq.trans (World.drewN_drewN _ _ _) (congrArg (World.drewN _) (Nat.add_assoc _ _ _))⟩)))
                              repeat (go_quiet (first | (go_at_call 56; (with_reducible refine (spec_l1Has.calls k3 _ _ x8_3 (rd x11_2 x53_3) true _ ?side1 ?side2 A33.out).mono ?_); (case side1 => repeat (first | exact (Kd.R_reads' HO_8.out).2.2 | with_reducible apply cA_|with_reducible apply cN_|with_reducible apply cD_)); (case side2 => exact (Kd.R_reads' HO_8.out).2.1); rintro e w' ⟨rfl, ⟨nd, rfl⟩⟩; (try first | exact ⟨rfl, _, World.drewN_drewN _ _ _⟩ | exact ⟨rfl, _, Eq.trans (World.drewN_drewN _ _ _) (congrArg (World.drewN _) (Nat.add_assoc _ _ _))⟩))); try go_wp2_with (first | (go_at_call 56; (with_reducible refine (spec_l1Has.calls k3 _ _ x8_3 (rd x11_2 x53_3) true _ ?side1 ?side2 A33.out).mono ?_); (case side1 => repeat (first | exact (Kd.R_reads' HO_8.out).2.2 | with_reducible apply cA_|with_reducible apply cN_|with_reducible apply cD_)); (case side2 => exact (Kd.R_reads' HO_8.out).2.1); rintro e w' ⟨rfl, ⟨nd, rfl⟩⟩; (try first | exact ⟨rfl, _, World.drewN_drewN _ _ _⟩ | exact ⟨rfl, _, Eq.trans (World.drewN_drewN _ _ _) (congrArg (World.drewN _) (Nat.add_assoc _ _ _))⟩))))
                              go_roundg k3
                              case measure => have := HK1.out; have := HK2.out; have := HK3.out; omega
                              case rel => exact ⟨(x7_3), (x8_3), (wrap64 (x53_3 + 1)), (by first | rfl | (simp; done) | (simp [*]; done)), H', ⟨by have := HK1.out; have := HK2.out; have := HK3.out; omega⟩, ⟨by (with_reducible repeat (first | apply Tail_alloc | apply Tail_drewN | apply Tail_drew)); exact HO_7.out⟩, ⟨by (with_reducible repeat first|apply rA_|apply rN_|apply rD_); exact HO_8.out⟩, ⟨by (with_reducible repeat first|apply rA_|apply rN_|apply rD_); exact HO_10.out⟩, ⟨by (with_reducible repeat first|apply rA_|apply rN_|apply rD_); exact HO_51.out⟩, ⟨by repeat (first | (with_reducible first|exact HB.out|apply vA_|apply vN_|apply vD_) | exact HB.out)⟩⟩
                            · replace c34 := Bool.eq_false_iff.mpr c34
                              subst c34
                              have H1 : (if x8_3.length < 17592186044416 then ((spec_l1Own.f t194).bind fun t209 => (if t209.length < 17592186044416 then (if x7_3.length < 5864062014805 then (spec_l3Way.l2 k3 l0 a2 (x7_3 ++ [(t209 ++ [rd x11_2 x53_3])]) (x8_3 ++ [rd x11_2 x53_3]) x9_1 t194 x11_2 (x11_2.length : Int) (wrap64 (x53_3 + 1))) else (none)) else (none))) else (none)) = some r := by rw [if_neg (show ¬ (false = true) by decide)] at H; exact H
                              clear H
                              have H := H1
                              clear H1
                              by_cases c36 : x8_3.length < 17592186044416
                              · rw [if_pos c36] at H
                                have LMc36 := Aside0.mk c36
                                clear c36
                                obtain ⟨y206, hy206⟩ : ∃ y_ : List Int, y_ = (x8_3 ++ [rd x11_2 x53_3]) := ⟨_, rfl⟩
                                replace H : ((spec_l1Own.f t194).bind fun t209 => (if t209.length < 17592186044416 then (if x7_3.length < 5864062014805 then (spec_l3Way.l2 k3 l0 a2 (x7_3 ++ [(t209 ++ [rd x11_2 x53_3])]) y206 x9_1 t194 x11_2 (x11_2.length : Int) (wrap64 (x53_3 + 1))) else (none)) else (none))) = some r := by first | (rw [hy206]; with_reducible exact H) | (have H2_ := (Option.bind_some _ _).symm.trans H; rw [hy206]; with_reducible exact H2_) | (have H2_ := (Option.bind_some _ _).symm.trans H; with_reducible exact H2_) | with_reducible exact H | (rw [hy206]; exact H) | exact H
                                have Ny206 := Aside0.mk hy206
                                clear hy206
                                replace H := Option.bind_eq_some_iff.mp H
                                obtain ⟨t209, A370, H⟩ := H
                                replace H : (if t209.length < 17592186044416 then (if x7_3.length < 5864062014805 then (spec_l3Way.l2 k3 l0 a2 (x7_3 ++ [(t209 ++ [rd x11_2 x53_3])]) y206 x9_1 t194 x11_2 (x11_2.length : Int) (wrap64 (x53_3 + 1))) else (none)) else (none)) = some r := H
                                have A37 := Aside0.mk A370
                                clear A370
                                by_cases c38 : t209.length < 17592186044416
                                · rw [if_pos c38] at H
                                  have LMc38 := Aside0.mk c38
                                  clear c38
                                  obtain ⟨y212, hy212⟩ : ∃ y_ : List Int, y_ = (t209 ++ [rd x11_2 x53_3]) := ⟨_, rfl⟩
                                  replace H : (if x7_3.length < 5864062014805 then (spec_l3Way.l2 k3 l0 a2 (x7_3 ++ [y212]) y206 x9_1 t194 x11_2 (x11_2.length : Int) (wrap64 (x53_3 + 1))) else (none)) = some r := by first | (rw [hy212]; with_reducible exact H) | (have H2_ := (Option.bind_some _ _).symm.trans H; rw [hy212]; with_reducible exact H2_) | (have H2_ := (Option.bind_some _ _).symm.trans H; with_reducible exact H2_) | with_reducible exact H | (rw [hy212]; exact H) | exact H
                                  have Ny212 := Aside0.mk hy212
                                  clear hy212
                                  by_cases c39 : x7_3.length < 5864062014805
                                  · rw [if_pos c39] at H
                                    have LMc39 := Aside0.mk c39
                                    clear c39
                                    obtain ⟨y215, hy215⟩ : ∃ y_ : List (List Int), y_ = (x7_3 ++ [y212]) := ⟨_, rfl⟩
                                    replace H : (spec_l3Way.l2 k3 l0 a2 y215 y206 x9_1 t194 x11_2 (x11_2.length : Int) (wrap64 (x53_3 + 1))) = some r := by first | (rw [hy215]; with_reducible exact H) | (have H2_ := (Option.bind_some _ _).symm.trans H; rw [hy215]; with_reducible exact H2_) | (have H2_ := (Option.bind_some _ _).symm.trans H; with_reducible exact H2_) | with_reducible exact H | (rw [hy215]; exact H) | exact H
                                    have Ny215 := Aside0.mk hy215
                                    clear hy215
                                    have H' := Aside0.mk H
                                    clear H
                                    have p204 : 0 ≤ (x53_3 : Int) := of_decide_eq_true (by first | (with_reducible assumption) | assumption)
                                    have q204 : x53_3 < (x11_2.length : Int) := of_decide_eq_true (by first | (with_reducible assumption) | assumption)
                                    obtain ⟨ad204, e204, hx204_0⟩ := Kd.at_int (Kd.R_reads' HO_51.out).2.2 x53_3 p204 q204
                                    cases e204
                                    replace p204 := eq_true p204
                                    replace q204 := eq_true q204
                                    obtain ⟨Ao40, co40, eo40⟩ := Kd.R_slice HO_8.out
                                    subst eo40
                                    go_wp2_with (first | (go_at_call 56; (with_reducible refine (spec_l1Has.calls k3 _ _ x8_3 (rd x11_2 x53_3) false _ ?side1 ?side2 A33.out).mono ?_); (case side1 => repeat (first | exact (Kd.R_reads' HO_8.out).2.2 | with_reducible apply cA_|with_reducible apply cN_|with_reducible apply cD_)); (case side2 => exact (Kd.R_reads' HO_8.out).2.1); rintro e w' ⟨rfl, ⟨nd, rfl⟩⟩; (try first | exact ⟨rfl, _, World.drewN_drewN _ _ _⟩ | exact ⟨rfl, _, Eq.trans (World.drewN_drewN _ _ _) (congrArg (World.drewN _) (Nat.add_assoc _ _ _))⟩)) | ((with_reducible refine gate_builtin (b := .append) (xs := #[.tmp 65, .tmp 67]) rfl ?_); at_builtin; refine Kd.R_append (Kd.int .i64) (w0 := w) w.heap.size rfl (.tmp 65) (.tmp 67) 22 3 (.int .i64 0) 8 rfl Try.underlying22 info3 rfl (by decide) (by omega) (.slice Ao40 x8_3.length co40) x8_3 (rd x11_2 x53_3) [.int .i64 (rd x11_2 x53_3)] (fun k_ => some k_ ≠ (v195 : Value).ownBlock ∧ some k_ ≠ (.slice (some ad204) x11_2.length co28 : Value).ownBlock) (fun _ => False) rfl rfl ?aP (fun _ hk => hk.elim) ?aF ?aO ?aB ?aS ?aL ?_; (case aP => exact rfl); (case aB => exact (by repeat (first | (with_reducible first|exact HB.out|apply vA_|apply vN_|apply vD_) | exact HB.out))); (case aF => exact (fun k_ hk => ⟨Kd.fresh' (Kd.R_lt (by (with_reducible repeat first|apply rA_|apply rN_|apply rD_); exact HO_10.out)) k_ hk, Kd.fresh' (Kd.R_lt (by (with_reducible repeat first|apply rA_|apply rN_|apply rD_); exact HO_51.out)) k_ hk⟩)); (case aO => exact (by (with_reducible repeat first|apply rA_|apply rN_|apply rD_); exact HO_8.out)); (case aS => exact (below_size (by repeat (first | (with_reducible first|exact HB.out|apply vA_|apply vN_|apply vD_) | exact HB.out)))); (case aL => have := LMc36.out; omega); intro v207 w41 ho hb hg hat; rw [← Ny206.out] at ho; have n0_ := Aside0.mk (Tail_afterv (ok := (fun k_ => some k_ ≠ (v195 : Value).ownBlock ∧ some k_ ≠ (.slice (some ad204) x11_2.length co28 : Value).ownBlock)) (by (with_reducible repeat (first | apply Tail_alloc | apply Tail_drewN | apply Tail_drew)); exact Tail_mono HO_7.out (fun _ hk => ⟨⟨hk.2.1, hk.2.2⟩, hk.1⟩)) hg hat); have n1_ := Aside0.mk (Kd.R_after (ok := (fun k_ => some k_ ≠ (.slice (some ad204) x11_2.length co28 : Value).ownBlock)) (by (with_reducible repeat first|apply rA_|apply rN_|apply rD_); exact Kd.R_mono HO_10.out (fun _ hk => ⟨hk.2, hk.1⟩)) hg hat); have n2_ := Aside0.mk (Kd.R_after (ok := (fun k_ => some k_ ≠ (v195 : Value).ownBlock)) (by (with_reducible repeat first|apply rA_|apply rN_|apply rD_); exact Kd.R_mono HO_51.out (fun _ hk => ⟨hk.2, hk.1⟩)) hg hat); have n3_ := Aside0.mk (hb); have n4_ := Aside0.mk (ho); clear HO_7; clear HO_10; clear HO_51; clear HB; clear HO_8; have HO_7 := n0_; have HO_10 := n1_; have HO_51 := n2_; have HB := n3_; have HO208 := n4_; clear n0_ n1_ n2_ n3_ n4_; clear ho hb hg hat; obtain ⟨Ao42, co42, eo42⟩ := Kd.R_slice HO_10.out; subst eo42) | (go_at_call 104; (with_reducible refine (spec_l1Own.calls _ _ t194 t209 _ ?side1 ?side2 A37.out).mono ?_); (case side1 => repeat (first | exact (Kd.R_reads' HO_10.out).2.2 | with_reducible apply cA_|with_reducible apply cN_|with_reducible apply cD_)); (case side2 => exact (Kd.R_reads' HO_10.out).2.1); rintro e w43 ⟨v210, rfl, ho0, hb⟩; have n0_ := Aside0.mk (Tail_elder' (by (with_reducible repeat (first | apply Tail_alloc | apply Tail_drewN | apply Tail_drew)); exact HO_7.out) (by first | exact Kd.R_base ho0 | exact Kd.S_base ho0 | exact Kd.R_base ho0) hb); have n1_ := Aside0.mk (Kd.R_elder' (by (with_reducible repeat first|apply rA_|apply rN_|apply rD_); exact HO_10.out) (by first | exact Kd.R_base ho0 | exact Kd.S_base ho0 | exact Kd.R_base ho0) hb); have n2_ := Aside0.mk (Kd.R_elder' (by (with_reducible repeat first|apply rA_|apply rN_|apply rD_); exact HO_51.out) (by first | exact Kd.R_base ho0 | exact Kd.S_base ho0 | exact Kd.R_base ho0) hb); have n3_ := Aside0.mk (Kd.R_elder' (by (with_reducible repeat first|apply rA_|apply rN_|apply rD_); exact HO208.out) (by first | exact Kd.R_base ho0 | exact Kd.S_base ho0 | exact Kd.R_base ho0) hb); have n4_ := Aside0.mk (Kd.R_lower (Kd.R_new' (Kd.R_new' (Kd.R_new' ho0 (Kd.R_lt (by (with_reducible repeat first|apply rA_|apply rN_|apply rD_); exact HO_10.out))) (Kd.R_lt (by (with_reducible repeat first|apply rA_|apply rN_|apply rD_); exact HO_51.out))) (Kd.R_lt (by (with_reducible repeat first|apply rA_|apply rN_|apply rD_); exact HO208.out))) (below_size (by repeat (first | (with_reducible first|exact HB.out|apply vA_|apply vN_|apply vD_) | exact HB.out)))); have n5_ := Aside0.mk (below_step (by repeat (first | (with_reducible first|exact HB.out|apply vA_|apply vN_|apply vD_) | exact HB.out)) hb); clear HO_7; clear HO_10; clear HO_51; clear HO208; clear HB; have HO_7 := n0_; have HO_10 := n1_; have HO_51 := n2_; have HO208 := n3_; have HO211 := n4_; have HB := n5_; clear n0_ n1_ n2_ n3_ n4_ n5_; (try clear hb); (try clear hb2); (try clear hk); (try clear hi); (try clear ho0)) | ((with_reducible refine gate_builtin (b := .append) (xs := #[.tmp 71, .tmp 73]) rfl ?_); at_builtin; refine Kd.R_append (Kd.int .i64) (w0 := w) w.heap.size rfl (.tmp 71) (.tmp 73) 22 3 (.int .i64 0) 8 rfl Try.underlying22 info3 rfl (by decide) (by omega) v210 t209 (rd x11_2 x53_3) [.int .i64 (rd x11_2 x53_3)] (fun k_ => some k_ ≠ (.slice Ao42 t194.length co42 : Value).ownBlock ∧ some k_ ≠ (.slice (some ad204) x11_2.length co28 : Value).ownBlock ∧ some k_ ≠ (v207 : Value).ownBlock) (fun _ => False) rfl rfl ?aP (fun _ hk => hk.elim) ?aF ?aO ?aB ?aS ?aL ?_; (case aP => exact rfl); (case aB => exact (by repeat (first | (with_reducible first|exact HB.out|apply vA_|apply vN_|apply vD_) | exact HB.out))); (case aF => exact (fun k_ hk => ⟨Kd.fresh' (Kd.R_lt (by (with_reducible repeat first|apply rA_|apply rN_|apply rD_); exact HO_10.out)) k_ hk, Kd.fresh' (Kd.R_lt (by (with_reducible repeat first|apply rA_|apply rN_|apply rD_); exact HO_51.out)) k_ hk, Kd.fresh' (Kd.R_lt (by (with_reducible repeat first|apply rA_|apply rN_|apply rD_); exact HO208.out)) k_ hk⟩)); (case aO => exact (by (with_reducible repeat first|apply rA_|apply rN_|apply rD_); exact Kd.R_mono HO211.out (fun _ hk => ⟨hk.1.1.2, ⟨hk.1.2, hk.2⟩⟩))); (case aS => exact (below_size (by repeat (first | (with_reducible first|exact HB.out|apply vA_|apply vN_|apply vD_) | exact HB.out)))); (case aL => have := LMc38.out; omega); intro v213 w44 ho hb hg hat; rw [← Ny212.out] at ho; have n0_ := Aside0.mk (Tail_afterv (ok := (fun k_ => some k_ ≠ (.slice Ao42 t194.length co42 : Value).ownBlock ∧ some k_ ≠ (.slice (some ad204) x11_2.length co28 : Value).ownBlock ∧ some k_ ≠ (v207 : Value).ownBlock)) (by (with_reducible repeat (first | apply Tail_alloc | apply Tail_drewN | apply Tail_drew)); exact Tail_mono HO_7.out (fun _ hk => ⟨⟨hk.1.1.1, ⟨hk.1.1.2, hk.1.2⟩⟩, hk.2⟩)) hg hat); have n1_ := Aside0.mk (Kd.R_after (ok := (fun k_ => some k_ ≠ (.slice (some ad204) x11_2.length co28 : Value).ownBlock ∧ some k_ ≠ (v207 : Value).ownBlock)) (by (with_reducible repeat first|apply rA_|apply rN_|apply rD_); exact HO_10.out) hg hat); have n2_ := Aside0.mk (Kd.R_after (ok := (fun k_ => some k_ ≠ (.slice Ao42 t194.length co42 : Value).ownBlock ∧ some k_ ≠ (v207 : Value).ownBlock)) (by (with_reducible repeat first|apply rA_|apply rN_|apply rD_); exact HO_51.out) hg hat); have n3_ := Aside0.mk (Kd.R_after (ok := (fun k_ => some k_ ≠ (.slice Ao42 t194.length co42 : Value).ownBlock ∧ some k_ ≠ (.slice (some ad204) x11_2.length co28 : Value).ownBlock)) (by (with_reducible repeat first|apply rA_|apply rN_|apply rD_); exact HO208.out) hg hat); have n4_ := Aside0.mk (hb); have n5_ := Aside0.mk (ho); clear HO_7; clear HO_10; clear HO_51; clear HO208; clear HB; clear HO211; have HO_7 := n0_; have HO_10 := n1_; have HO_51 := n2_; have HO208 := n3_; have HB := n4_; have HO214 := n5_; clear n0_ n1_ n2_ n3_ n4_ n5_; clear ho hb hg hat; obtain ⟨Ao46, co46, eo46⟩ := Kd.R_slice HO214.out; subst eo46) | ((with_reducible refine gate_builtin (b := .append) (xs := #[.tmp 69, .tmp 75]) rfl ?_); at_builtin; refine Tail_append (i := x9_1.toNat + 1) (Kd.slice 3 (Kd.int .i64)) (w0 := w) w.heap.size rfl (.tmp 69) (.tmp 75) 33 22 (.slice none 0 0) 24 rfl Try.underlying33 info22 rfl (by decide) (by omega) u7 x7_3 y212 [.slice Ao46 y212.length co46] (fun k_ => some k_ ≠ (.slice Ao42 t194.length co42 : Value).ownBlock ∧ some k_ ≠ (.slice (some ad204) x11_2.length co28 : Value).ownBlock ∧ some k_ ≠ (v207 : Value).ownBlock) (fun k_ => some k_ = (.slice Ao46 y212.length co46 : Value).ownBlock) rfl rfl ?aP ?aQ ?aF ?aO ?aB ?aS ?aL ?_; (case aP => exact ⟨_, rfl, Kd.R_tight rfl HO214.out⟩); (case aQ => exact fun k_ hk_ => (Kd.R_mono (ok' := fun k_ => ((fun k_ => some k_ ≠ (.slice Ao42 t194.length co42 : Value).ownBlock ∧ some k_ ≠ (.slice (some ad204) x11_2.length co28 : Value).ownBlock ∧ some k_ ≠ (v207 : Value).ownBlock)) k_ ∧ some k_ ≠ (u7 : Value).ownBlock) (Kd.R_apart' HO214.out (Tail_typed HO_7.out) (by decide)) (fun k_ hk => ⟨⟨hk.1.1, ⟨hk.1.2.1, hk.1.2.2⟩⟩, hk.2⟩)).1 k_ hk_.symm); (case aB => exact (by repeat (first | (with_reducible first|exact HB.out|apply vA_|apply vN_|apply vD_) | exact HB.out))); (case aF => exact (fun k_ hk => ⟨Kd.fresh' (Kd.R_lt (by (with_reducible repeat first|apply rA_|apply rN_|apply rD_); exact HO_10.out)) k_ hk, Kd.fresh' (Kd.R_lt (by (with_reducible repeat first|apply rA_|apply rN_|apply rD_); exact HO_51.out)) k_ hk, Kd.fresh' (Kd.R_lt (by (with_reducible repeat first|apply rA_|apply rN_|apply rD_); exact HO208.out)) k_ hk⟩)); (case aO => exact (by (with_reducible repeat (first | apply Tail_alloc | apply Tail_drewN | apply Tail_drew)); exact Tail_mono HO_7.out (fun _ hk => ⟨⟨hk.1.1, ⟨hk.1.2.1, hk.1.2.2⟩⟩, fun e_ => hk.2 e_⟩))); (case aS => exact (below_size (by repeat (first | (with_reducible first|exact HB.out|apply vA_|apply vN_|apply vD_) | exact HB.out)))); (case aL => have := LMc39.out; omega); intro v216 w45 ho hb hg hat; rw [← Ny215.out] at ho; have n0_ := Aside0.mk (Kd.R_over' (by (with_reducible repeat first|apply rA_|apply rN_|apply rD_); exact HO_10.out) (Tail_typed (by (with_reducible repeat (first | apply Tail_alloc | apply Tail_drewN | apply Tail_drew)); exact HO_7.out)) (by decide) hg); have n1_ := Aside0.mk (Kd.R_over' (by (with_reducible repeat first|apply rA_|apply rN_|apply rD_); exact HO_51.out) (Tail_typed (by (with_reducible repeat (first | apply Tail_alloc | apply Tail_drewN | apply Tail_drew)); exact HO_7.out)) (by decide) hg); have n2_ := Aside0.mk (Kd.R_over' (by (with_reducible repeat first|apply rA_|apply rN_|apply rD_); exact HO208.out) (Tail_typed (by (with_reducible repeat (first | apply Tail_alloc | apply Tail_drewN | apply Tail_drew)); exact HO_7.out)) (by decide) hg); have n3_ := Aside0.mk (hb); have n4_ := Aside0.mk (ho); clear HO_10; clear HO_51; clear HO208; clear HB; clear HO_7; clear HO214; have HO_10 := n0_; have HO_51 := n1_; have HO208 := n2_; have HB := n3_; have HO217 := n4_; clear n0_ n1_ n2_ n3_ n4_; clear ho hb hg hat))
                                    repeat (go_quiet (first | (go_at_call 56; (with_reducible refine (spec_l1Has.calls k3 _ _ x8_3 (rd x11_2 x53_3) false _ ?side1 ?side2 A33.out).mono ?_); (case side1 => repeat (first | exact (Kd.R_reads' HO_8.out).2.2 | with_reducible apply cA_|with_reducible apply cN_|with_reducible apply cD_)); (case side2 => exact (Kd.R_reads' HO_8.out).2.1); rintro e w' ⟨rfl, ⟨nd, rfl⟩⟩; (try first | exact ⟨rfl, _, World.drewN_drewN _ _ _⟩ | exact ⟨rfl, _, Eq.trans (World.drewN_drewN _ _ _) (congrArg (World.drewN _) (Nat.add_assoc _ _ _))⟩)) | ((with_reducible refine gate_builtin (b := .append) (xs := #[.tmp 65, .tmp 67]) rfl ?_); at_builtin; refine Kd.R_append (Kd.int .i64) (w0 := w) w.heap.size rfl (.tmp 65) (.tmp 67) 22 3 (.int .i64 0) 8 rfl Try.underlying22 info3 rfl (by decide) (by omega) (.slice Ao40 x8_3.length co40) x8_3 (rd x11_2 x53_3) [.int .i64 (rd x11_2 x53_3)] (fun k_ => some k_ ≠ (v195 : Value).ownBlock ∧ some k_ ≠ (.slice (some ad204) x11_2.length co28 : Value).ownBlock) (fun _ => False) rfl rfl ?aP (fun _ hk => hk.elim) ?aF ?aO ?aB ?aS ?aL ?_; (case aP => exact rfl); (case aB => exact (by repeat (first | (with_reducible first|exact HB.out|apply vA_|apply vN_|apply vD_) | exact HB.out))); (case aF => exact (fun k_ hk => ⟨Kd.fresh' (Kd.R_lt (by (with_reducible repeat first|apply rA_|apply rN_|apply rD_); exact HO_10.out)) k_ hk, Kd.fresh' (Kd.R_lt (by (with_reducible repeat first|apply rA_|apply rN_|apply rD_); exact HO_51.out)) k_ hk⟩)); (case aO => exact (by (with_reducible repeat first|apply rA_|apply rN_|apply rD_); exact HO_8.out)); (case aS => exact (below_size (by repeat (first | (with_reducible first|exact HB.out|apply vA_|apply vN_|apply vD_) | exact HB.out)))); (case aL => have := LMc36.out; omega); intro v207 w41 ho hb hg hat; rw [← Ny206.out] at ho; have n0_ := Aside0.mk (Tail_afterv (ok := (fun k_ => some k_ ≠ (v195 : Value).ownBlock ∧ some k_ ≠ (.slice (some ad204) x11_2.length co28 : Value).ownBlock)) (by (with_reducible repeat (first | apply Tail_alloc | apply Tail_drewN | apply Tail_drew)); exact Tail_mono HO_7.out (fun _ hk => ⟨⟨hk.2.1, hk.2.2⟩, hk.1⟩)) hg hat); have n1_ := Aside0.mk (Kd.R_after (ok := (fun k_ => some k_ ≠ (.slice (some ad204) x11_2.length co28 : Value).ownBlock)) (by (with_reducible repeat first|apply rA_|apply rN_|apply rD_); exact Kd.R_mono HO_10.out (fun _ hk => ⟨hk.2, hk.1⟩)) hg hat); have n2_ := Aside0.mk (Kd.R_after (ok := (fun k_ => some k_ ≠ (v195 : Value).ownBlock)) (by (with_reducible repeat first|apply rA_|apply rN_|apply rD_); exact Kd.R_mono HO_51.out (fun _ hk => ⟨hk.2, hk.1⟩)) hg hat); have n3_ := Aside0.mk (hb); have n4_ := Aside0.mk (ho); clear HO_7; clear HO_10; clear HO_51; clear HB; clear HO_8; have HO_7 := n0_; have HO_10 := n1_; have HO_51 := n2_; have HB := n3_; have HO208 := n4_; clear n0_ n1_ n2_ n3_ n4_; clear ho hb hg hat; obtain ⟨Ao42, co42, eo42⟩ := Kd.R_slice HO_10.out; subst eo42) | (go_at_call 104; (with_reducible refine (spec_l1Own.calls _ _ t194 t209 _ ?side1 ?side2 A37.out).mono ?_); (case side1 => repeat (first | exact (Kd.R_reads' HO_10.out).2.2 | with_reducible apply cA_|with_reducible apply cN_|with_reducible apply cD_)); (case side2 => exact (Kd.R_reads' HO_10.out).2.1); rintro e w43 ⟨v210, rfl, ho0, hb⟩; have n0_ := Aside0.mk (Tail_elder' (by (with_reducible repeat (first | apply Tail_alloc | apply Tail_drewN | apply Tail_drew)); exact HO_7.out) (by first | exact Kd.R_base ho0 | exact Kd.S_base ho0 | exact Kd.R_base ho0) hb); have n1_ := Aside0.mk (Kd.R_elder' (by (with_reducible repeat first|apply rA_|apply rN_|apply rD_); exact HO_10.out) (by first | exact Kd.R_base ho0 | exact Kd.S_base ho0 | exact Kd.R_base ho0) hb); have n2_ := Aside0.mk (Kd.R_elder' (by (with_reducible repeat first|apply rA_|apply rN_|apply rD_); exact HO_51.out) (by first | exact Kd.R_base ho0 | exact Kd.S_base ho0 | exact Kd.R_base ho0) hb); have n3_ := Aside0.mk (Kd.R_elder' (by (with_reducible repeat first|apply rA_|apply rN_|apply rD_); exact HO208.out) (by first | exact Kd.R_base ho0 | exact Kd.S_base ho0 | exact Kd.R_base ho0) hb); have n4_ := Aside0.mk (Kd.R_lower (Kd.R_new' (Kd.R_new' (Kd.R_new' ho0 (Kd.R_lt (by (with_reducible repeat first|apply rA_|apply rN_|apply rD_); exact HO_10.out))) (Kd.R_lt (by (with_reducible repeat first|apply rA_|apply rN_|apply rD_); exact HO_51.out))) (Kd.R_lt (by (with_reducible repeat first|apply rA_|apply rN_|apply rD_); exact HO208.out))) (below_size (by repeat (first | (with_reducible first|exact HB.out|apply vA_|apply vN_|apply vD_) | exact HB.out)))); have n5_ := Aside0.mk (below_step (by repeat (first | (with_reducible first|exact HB.out|apply vA_|apply vN_|apply vD_) | exact HB.out)) hb); clear HO_7; clear HO_10; clear HO_51; clear HO208; clear HB; have HO_7 := n0_; have HO_10 := n1_; have HO_51 := n2_; have HO208 := n3_; have HO211 := n4_; have HB := n5_; clear n0_ n1_ n2_ n3_ n4_ n5_; (try clear hb); (try clear hb2); (try clear hk); (try clear hi); (try clear ho0)) | ((with_reducible refine gate_builtin (b := .append) (xs := #[.tmp 71, .tmp 73]) rfl ?_); at_builtin; refine Kd.R_append (Kd.int .i64) (w0 := w) w.heap.size rfl (.tmp 71) (.tmp 73) 22 3 (.int .i64 0) 8 rfl Try.underlying22 info3 rfl (by decide) (by omega) v210 t209 (rd x11_2 x53_3) [.int .i64 (rd x11_2 x53_3)] (fun k_ => some k_ ≠ (.slice Ao42 t194.length co42 : Value).ownBlock ∧ some k_ ≠ (.slice (some ad204) x11_2.length co28 : Value).ownBlock ∧ some k_ ≠ (v207 : Value).ownBlock) (fun _ => False) rfl rfl ?aP (fun _ hk => hk.elim) ?aF ?aO ?aB ?aS ?aL ?_; (case aP => exact rfl); (case aB => exact (by repeat (first | (with_reducible first|exact HB.out|apply vA_|apply vN_|apply vD_) | exact HB.out))); (case aF => exact (fun k_ hk => ⟨Kd.fresh' (Kd.R_lt (by (with_reducible repeat first|apply rA_|apply rN_|apply rD_); exact HO_10.out)) k_ hk, Kd.fresh' (Kd.R_lt (by (with_reducible repeat first|apply rA_|apply rN_|apply rD_); exact HO_51.out)) k_ hk, Kd.fresh' (Kd.R_lt (by (with_reducible repeat first|apply rA_|apply rN_|apply rD_); exact HO208.out)) k_ hk⟩)); (case aO => exact (by (with_reducible repeat first|apply rA_|apply rN_|apply rD_); exact Kd.R_mono HO211.out (fun _ hk => ⟨hk.1.1.2, ⟨hk.1.2, hk.2⟩⟩))); (case aS => exact (below_size (by repeat (first | (with_reducible first|exact HB.out|apply vA_|apply vN_|apply vD_) | exact HB.out)))); (case aL => have := LMc38.out; omega); intro v213 w44 ho hb hg hat; rw [← Ny212.out] at ho; have n0_ := Aside0.mk (Tail_afterv (ok := (fun k_ => some k_ ≠ (.slice Ao42 t194.length co42 : Value).ownBlock ∧ some k_ ≠ (.slice (some ad204) x11_2.length co28 : Value).ownBlock ∧ some k_ ≠ (v207 : Value).ownBlock)) (by (with_reducible repeat (first | apply Tail_alloc | apply Tail_drewN | apply Tail_drew)); exact Tail_mono HO_7.out (fun _ hk => ⟨⟨hk.1.1.1, ⟨hk.1.1.2, hk.1.2⟩⟩, hk.2⟩)) hg hat); have n1_ := Aside0.mk (Kd.R_after (ok := (fun k_ => some k_ ≠ (.slice (some ad204) x11_2.length co28 : Value).ownBlock ∧ some k_ ≠ (v207 : Value).ownBlock)) (by (with_reducible repeat first|apply rA_|apply rN_|apply rD_); exact HO_10.out) hg hat); have n2_ := Aside0.mk (Kd.R_after (ok := (fun k_ => some k_ ≠ (.slice Ao42 t194.length co42 : Value).ownBlock ∧ some k_ ≠ (v207 : Value).ownBlock)) (by (with_reducible repeat first|apply rA_|apply rN_|apply rD_); exact HO_51.out) hg hat); have n3_ := Aside0.mk (Kd.R_after (ok := (fun k_ => some k_ ≠ (.slice Ao42 t194.length co42 : Value).ownBlock ∧ some k_ ≠ (.slice (some ad204) x11_2.length co28 : Value).ownBlock)) (by (with_reducible repeat first|apply rA_|apply rN_|apply rD_); exact HO208.out) hg hat); have n4_ := Aside0.mk (hb); have n5_ := Aside0.mk (ho); clear HO_7; clear HO_10; clear HO_51; clear HO208; clear HB; clear HO211; have HO_7 := n0_; have HO_10 := n1_; have HO_51 := n2_; have HO208 := n3_; have HB := n4_; have HO214 := n5_; clear n0_ n1_ n2_ n3_ n4_ n5_; clear ho hb hg hat; obtain ⟨Ao46, co46, eo46⟩ := Kd.R_slice HO214.out; subst eo46) | ((with_reducible refine gate_builtin (b := .append) (xs := #[.tmp 69, .tmp 75]) rfl ?_); at_builtin; refine Tail_append (i := x9_1.toNat + 1) (Kd.slice 3 (Kd.int .i64)) (w0 := w) w.heap.size rfl (.tmp 69) (.tmp 75) 33 22 (.slice none 0 0) 24 rfl Try.underlying33 info22 rfl (by decide) (by omega) u7 x7_3 y212 [.slice Ao46 y212.length co46] (fun k_ => some k_ ≠ (.slice Ao42 t194.length co42 : Value).ownBlock ∧ some k_ ≠ (.slice (some ad204) x11_2.length co28 : Value).ownBlock ∧ some k_ ≠ (v207 : Value).ownBlock) (fun k_ => some k_ = (.slice Ao46 y212.length co46 : Value).ownBlock) rfl rfl ?aP ?aQ ?aF ?aO ?aB ?aS ?aL ?_; (case aP => exact ⟨_, rfl, Kd.R_tight rfl HO214.out⟩); (case aQ => exact fun k_ hk_ => (Kd.R_mono (ok' := fun k_ => ((fun k_ => some k_ ≠ (.slice Ao42 t194.length co42 : Value).ownBlock ∧ some k_ ≠ (.slice (some ad204) x11_2.length co28 : Value).ownBlock ∧ some k_ ≠ (v207 : Value).ownBlock)) k_ ∧ some k_ ≠ (u7 : Value).ownBlock) (Kd.R_apart' HO214.out (Tail_typed HO_7.out) (by decide)) (fun k_ hk => ⟨⟨hk.1.1, ⟨hk.1.2.1, hk.1.2.2⟩⟩, hk.2⟩)).1 k_ hk_.symm); (case aB => exact (by repeat (first | (with_reducible first|exact HB.out|apply vA_|apply vN_|apply vD_) | exact HB.out))); (case aF => exact (fun k_ hk => ⟨Kd.fresh' (Kd.R_lt (by (with_reducible repeat first|apply rA_|apply rN_|apply rD_); exact HO_10.out)) k_ hk, Kd.fresh' (Kd.R_lt (by (with_reducible repeat first|apply rA_|apply rN_|apply rD_); exact HO_51.out)) k_ hk, Kd.fresh' (Kd.R_lt (by (with_reducible repeat first|apply rA_|apply rN_|apply rD_); exact HO208.out)) k_ hk⟩)); (case aO => exact (by (with_reducible repeat (first | apply Tail_alloc | apply Tail_drewN | apply Tail_drew)); exact Tail_mono HO_7.out (fun _ hk => ⟨⟨hk.1.1, ⟨hk.1.2.1, hk.1.2.2⟩⟩, fun e_ => hk.2 e_⟩))); (case aS => exact (below_size (by repeat (first | (with_reducible first|exact HB.out|apply vA_|apply vN_|apply vD_) | exact HB.out)))); (case aL => have := LMc39.out; omega); intro v216 w45 ho hb hg hat; rw [← Ny215.out] at ho; have n0_ := Aside0.mk (Kd.R_over' (by (with_reducible repeat first|apply rA_|apply rN_|apply rD_); exact HO_10.out) (Tail_typed (by (with_reducible repeat (first | apply Tail_alloc | apply Tail_drewN | apply Tail_drew)); exact HO_7.out)) (by decide) hg); have n1_ := Aside0.mk (Kd.R_over' (by (with_reducible repeat first|apply rA_|apply rN_|apply rD_); exact HO_51.out) (Tail_typed (by (with_reducible repeat (first | apply Tail_alloc | apply Tail_drewN | apply Tail_drew)); exact HO_7.out)) (by decide) hg); have n2_ := Aside0.mk (Kd.R_over' (by (with_reducible repeat first|apply rA_|apply rN_|apply rD_); exact HO208.out) (Tail_typed (by (with_reducible repeat (first | apply Tail_alloc | apply Tail_drewN | apply Tail_drew)); exact HO_7.out)) (by decide) hg); have n3_ := Aside0.mk (hb); have n4_ := Aside0.mk (ho); clear HO_10; clear HO_51; clear HO208; clear HB; clear HO_7; clear HO214; have HO_10 := n0_; have HO_51 := n1_; have HO208 := n2_; have HB := n3_; have HO217 := n4_; clear n0_ n1_ n2_ n3_ n4_; clear ho hb hg hat)); try go_wp2_with (first | (go_at_call 56; (with_reducible refine (spec_l1Has.calls k3 _ _ x8_3 (rd x11_2 x53_3) false _ ?side1 ?side2 A33.out).mono ?_); (case side1 => repeat (first | exact (Kd.R_reads' HO_8.out).2.2 | with_reducible apply cA_|with_reducible apply cN_|with_reducible apply cD_)); (case side2 => exact (Kd.R_reads' HO_8.out).2.1); rintro e w' ⟨rfl, ⟨nd, rfl⟩⟩; (try first | exact ⟨rfl, _, World.drewN_drewN _ _ _⟩ | exact ⟨rfl, _, Eq.trans (World.drewN_drewN _ _ _) (congrArg (World.drewN _) (Nat.add_assoc _ _ _))⟩)) | ((with_reducible refine gate_builtin (b := .append) (xs := #[.tmp 65, .tmp 67]) rfl ?_); at_builtin; refine Kd.R_append (Kd.int .i64) (w0 := w) w.heap.size rfl (.tmp 65) (.tmp 67) 22 3 (.int .i64 0) 8 rfl Try.underlying22 info3 rfl (by decide) (by omega) (.slice Ao40 x8_3.length co40) x8_3 (rd x11_2 x53_3) [.int .i64 (rd x11_2 x53_3)] (fun k_ => some k_ ≠ (v195 : Value).ownBlock ∧ some k_ ≠ (.slice (some ad204) x11_2.length co28 : Value).ownBlock) (fun _ => False) rfl rfl ?aP (fun _ hk => hk.elim) ?aF ?aO ?aB ?aS ?aL ?_; (case aP => exact rfl); (case aB => exact (by repeat (first | (with_reducible first|exact HB.out|apply vA_|apply vN_|apply vD_) | exact HB.out))); (case aF => exact (fun k_ hk => ⟨Kd.fresh' (Kd.R_lt (by (with_reducible repeat first|apply rA_|apply rN_|apply rD_); exact HO_10.out)) k_ hk, Kd.fresh' (Kd.R_lt (by (with_reducible repeat first|apply rA_|apply rN_|apply rD_); exact HO_51.out)) k_ hk⟩)); (case aO => exact (by (with_reducible repeat first|apply rA_|apply rN_|apply rD_); exact HO_8.out)); (case aS => exact (below_size (by repeat (first | (with_reducible first|exact HB.out|apply vA_|apply vN_|apply vD_) | exact HB.out)))); (case aL => have := LMc36.out; omega); intro v207 w41 ho hb hg hat; rw [← Ny206.out] at ho; have n0_ := Aside0.mk (Tail_afterv (ok := (fun k_ => some k_ ≠ (v195 : Value).ownBlock ∧ some k_ ≠ (.slice (some ad204) x11_2.length co28 : Value).ownBlock)) (by (with_reducible repeat (first | apply Tail_alloc | apply Tail_drewN | apply Tail_drew)); exact Tail_mono HO_7.out (fun _ hk => ⟨⟨hk.2.1, hk.2.2⟩, hk.1⟩)) hg hat); have n1_ := Aside0.mk (Kd.R_after (ok := (fun k_ => some k_ ≠ (.slice (some ad204) x11_2.length co28 : Value).ownBlock)) (by (with_reducible repeat first|apply rA_|apply rN_|apply rD_); exact Kd.R_mono HO_10.out (fun _ hk => ⟨hk.2, hk.1⟩)) hg hat); have n2_ := Aside0.mk (Kd.R_after (ok := (fun k_ => some k_ ≠ (v195 : Value).ownBlock)) (by (with_reducible repeat first|apply rA_|apply rN_|apply rD_); exact Kd.R_mono HO_51.out (fun _ hk => ⟨hk.2, hk.1⟩)) hg hat); have n3_ := Aside0.mk (hb); have n4_ := Aside0.mk (ho); clear HO_7; clear HO_10; clear HO_51; clear HB; clear HO_8; have HO_7 := n0_; have HO_10 := n1_; have HO_51 := n2_; have HB := n3_; have HO208 := n4_; clear n0_ n1_ n2_ n3_ n4_; clear ho hb hg hat; obtain ⟨Ao42, co42, eo42⟩ := Kd.R_slice HO_10.out; subst eo42) | (go_at_call 104; (with_reducible refine (spec_l1Own.calls _ _ t194 t209 _ ?side1 ?side2 A37.out).mono ?_); (case side1 => repeat (first | exact (Kd.R_reads' HO_10.out).2.2 | with_reducible apply cA_|with_reducible apply cN_|with_reducible apply cD_)); (case side2 => exact (Kd.R_reads' HO_10.out).2.1); rintro e w43 ⟨v210, rfl, ho0, hb⟩; have n0_ := Aside0.mk (Tail_elder' (by (with_reducible repeat (first | apply Tail_alloc | apply Tail_drewN | apply Tail_drew)); exact HO_7.out) (by first | exact Kd.R_base ho0 | exact Kd.S_base ho0 | exact Kd.R_base ho0) hb); have n1_ := Aside0.mk (Kd.R_elder' (by (with_reducible repeat first|apply rA_|apply rN_|apply rD_); exact HO_10.out) (by first | exact Kd.R_base ho0 | exact Kd.S_base ho0 | exact Kd.R_base ho0) hb); have n2_ := Aside0.mk (Kd.R_elder' (by (with_reducible repeat first|apply rA_|apply rN_|apply rD_); exact HO_51.out) (by first | exact Kd.R_base ho0 | exact Kd.S_base ho0 | exact Kd.R_base ho0) hb); have n3_ := Aside0.mk (Kd.R_elder' (by (with_reducible repeat first|apply rA_|apply rN_|apply rD_); exact HO208.out) (by first | exact Kd.R_base ho0 | exact Kd.S_base ho0 | exact Kd.R_base ho0) hb); have n4_ := Aside0.mk (Kd.R_lower (Kd.R_new' (Kd.R_new' (Kd.R_new' ho0 (Kd.R_lt (by (with_reducible repeat first|apply rA_|apply rN_|apply rD_); exact HO_10.out))) (Kd.R_lt (by (with_reducible repeat first|apply rA_|apply rN_|apply rD_); exact HO_51.out))) (Kd.R_lt (by (with_reducible repeat first|apply rA_|apply rN_|apply rD_); exact HO208.out))) (below_size (by repeat (first | (with_reducible first|exact HB.out|apply vA_|apply vN_|apply vD_) | exact HB.out)))); have n5_ := Aside0.mk (below_step (by repeat (first | (with_reducible first|exact HB.out|apply vA_|apply vN_|apply vD_) | exact HB.out)) hb); clear HO_7; clear HO_10; clear HO_51; clear HO208; clear HB; have HO_7 := n0_; have HO_10 := n1_; have HO_51 := n2_; have HO208 := n3_; have HO211 := n4_; have HB := n5_; clear n0_ n1_ n2_ n3_ n4_ n5_; (try clear hb); (try clear hb2); (try clear hk); (try clear hi); (try clear ho0)) | ((with_reducible refine gate_builtin (b := .append) (xs := #[.tmp 71, .tmp 73]) rfl ?_); at_builtin; refine Kd.R_append (Kd.int .i64) (w0 := w) w.heap.size rfl (.tmp 71) (.tmp 73) 22 3 (.int .i64 0) 8 rfl Try.underlying22 info3 rfl (by decide) (by omega) v210 t209 (rd x11_2 x53_3) [.int .i64 (rd x11_2 x53_3)] (fun k_ => some k_ ≠ (.slice Ao42 t194.length co42 : Value).ownBlock ∧ some k_ ≠ (.slice (some ad204) x11_2.length co28 : Value).ownBlock ∧ some k_ ≠ (v207 : Value).ownBlock) (fun _ => False) rfl rfl ?aP (fun _ hk => hk.elim) ?aF ?aO ?aB ?aS ?aL ?_; (case aP => exact rfl); (case aB => exact (by repeat (first | (with_reducible first|exact HB.out|apply vA_|apply vN_|apply vD_) | exact HB.out))); (case aF => exact (fun k_ hk => ⟨Kd.fresh' (Kd.R_lt (by (with_reducible repeat first|apply rA_|apply rN_|apply rD_); exact HO_10.out)) k_ hk, Kd.fresh' (Kd.R_lt (by (with_reducible repeat first|apply rA_|apply rN_|apply rD_); exact HO_51.out)) k_ hk, Kd.fresh' (Kd.R_lt (by (with_reducible repeat first|apply rA_|apply rN_|apply rD_); exact HO208.out)) k_ hk⟩)); (case aO => exact (by (with_reducible repeat first|apply rA_|apply rN_|apply rD_); exact Kd.R_mono HO211.out (fun _ hk => ⟨hk.1.1.2, ⟨hk.1.2, hk.2⟩⟩))); (case aS => exact (below_size (by repeat (first | (with_reducible first|exact HB.out|apply vA_|apply vN_|apply vD_) | exact HB.out)))); (case aL => have := LMc38.out; omega); intro v213 w44 ho hb hg hat; rw [← Ny212.out] at ho; have n0_ := Aside0.mk (Tail_afterv (ok := (fun k_ => some k_ ≠ (.slice Ao42 t194.length co42 : Value).ownBlock ∧ some k_ ≠ (.slice (some ad204) x11_2.length co28 : Value).ownBlock ∧ some k_ ≠ (v207 : Value).ownBlock)) (by (with_reducible repeat (first | apply Tail_alloc | apply Tail_drewN | apply Tail_drew)); exact Tail_mono HO_7.out (fun _ hk => ⟨⟨hk.1.1.1, ⟨hk.1.1.2, hk.1.2⟩⟩, hk.2⟩)) hg hat); have n1_ := Aside0.mk (Kd.R_after (ok := (fun k_ => some k_ ≠ (.slice (some ad204) x11_2.length co28 : Value).ownBlock ∧ some k_ ≠ (v207 : Value).ownBlock)) (by (with_reducible repeat first|apply rA_|apply rN_|apply rD_); exact HO_10.out) hg hat); have n2_ := Aside0.mk (Kd.R_after (ok := (fun k_ => some k_ ≠ (.slice Ao42 t194.length co42 : Value).ownBlock ∧ some k_ ≠ (v207 : Value).ownBlock)) (by (with_reducible repeat first|apply rA_|apply rN_|apply rD_); exact HO_51.out) hg hat); have n3_ := Aside0.mk (Kd.R_after (ok := (fun k_ => some k_ ≠ (.slice Ao42 t194.length co42 : Value).ownBlock ∧ some k_ ≠ (.slice (some ad204) x11_2.length co28 : Value).ownBlock)) (by (with_reducible repeat first|apply rA_|apply rN_|apply rD_); exact HO208.out) hg hat); have n4_ := Aside0.mk (hb); have n5_ := Aside0.mk (ho); clear HO_7; clear HO_10; clear HO_51; clear HO208; clear HB; clear HO211; have HO_7 := n0_; have HO_10 := n1_; have HO_51 := n2_; have HO208 := n3_; have HB := n4_; have HO214 := n5_; clear n0_ n1_ n2_ n3_ n4_ n5_; clear ho hb hg hat; obtain ⟨Ao46, co46, eo46⟩ := Kd.R_slice HO214.out; subst eo46) | ((with_reducible refine gate_builtin (b := .append) (xs := #[.tmp 69, .tmp 75]) rfl ?_); at_builtin; refine Tail_append (i := x9_1.toNat + 1) (Kd.slice 3 (Kd.int .i64)) (w0 := w) w.heap.size rfl (.tmp 69) (.tmp 75) 33 22 (.slice none 0 0) 24 rfl Try.underlying33 info22 rfl (by decide) (by omega) u7 x7_3 y212 [.slice Ao46 y212.length co46] (fun k_ => some k_ ≠ (.slice Ao42 t194.length co42 : Value).ownBlock ∧ some k_ ≠ (.slice (some ad204) x11_2.length co28 : Value).ownBlock ∧ some k_ ≠ (v207 : Value).ownBlock) (fun k_ => some k_ = (.slice Ao46 y212.length co46 : Value).ownBlock) rfl rfl ?aP ?aQ ?aF ?aO ?aB ?aS ?aL ?_; (case aP => exact ⟨_, rfl, Kd.R_tight rfl HO214.out⟩); (case aQ => exact fun k_ hk_ => (Kd.R_mono (ok' := fun k_ => ((fun k_ => some k_ ≠ (.slice Ao42 t194.length co42 : Value).ownBlock ∧ some k_ ≠ (.slice (some ad204) x11_2.length co28 : Value).ownBlock ∧ some k_ ≠ (v207 : Value).ownBlock)) k_ ∧ some k_ ≠ (u7 : Value).ownBlock) (Kd.R_apart' HO214.out (Tail_typed HO_7.out) (by decide)) (fun k_ hk => ⟨⟨hk.1.1, ⟨hk.1.2.1, hk.1.2.2⟩⟩, hk.2⟩)).1 k_ hk_.symm); (case aB => exact (by repeat (first | (with_reducible first|exact HB.out|apply vA_|apply vN_|apply vD_) | exact HB.out))); (case aF => exact (fun k_ hk => ⟨Kd.fresh' (Kd.R_lt (by (with_reducible repeat first|apply rA_|apply rN_|apply rD_); exact HO_10.out)) k_ hk, Kd.fresh' (Kd.R_lt (by (with_reducible repeat first|apply rA_|apply rN_|apply rD_); exact HO_51.out)) k_ hk, Kd.fresh' (Kd.R_lt (by (with_reducible repeat first|apply rA_|apply rN_|apply rD_); exact HO208.out)) k_ hk⟩)); (case aO => exact (by (with_reducible repeat (first | apply Tail_alloc | apply Tail_drewN | apply Tail_drew)); exact Tail_mono HO_7.out (fun _ hk => ⟨⟨hk.1.1, ⟨hk.1.2.1, hk.1.2.2⟩⟩, fun e_ => hk.2 e_⟩))); (case aS => exact (below_size (by repeat (first | (with_reducible first|exact HB.out|apply vA_|apply vN_|apply vD_) | exact HB.out)))); (case aL => have := LMc39.out; omega); intro v216 w45 ho hb hg hat; rw [← Ny215.out] at ho; have n0_ := Aside0.mk (Kd.R_over' (by (with_reducible repeat first|apply rA_|apply rN_|apply rD_); exact HO_10.out) (Tail_typed (by (with_reducible repeat (first | apply Tail_alloc | apply Tail_drewN | apply Tail_drew)); exact HO_7.out)) (by decide) hg); have n1_ := Aside0.mk (Kd.R_over' (by (with_reducible repeat first|apply rA_|apply rN_|apply rD_); exact HO_51.out) (Tail_typed (by (with_reducible repeat (first | apply Tail_alloc | apply Tail_drewN | apply Tail_drew)); exact HO_7.out)) (by decide) hg); have n2_ := Aside0.mk (Kd.R_over' (by (with_reducible repeat first|apply rA_|apply rN_|apply rD_); exact HO208.out) (Tail_typed (by (with_reducible repeat (first | apply Tail_alloc | apply Tail_drewN | apply Tail_drew)); exact HO_7.out)) (by decide) hg); have n3_ := Aside0.mk (hb); have n4_ := Aside0.mk (ho); clear HO_10; clear HO_51; clear HO208; clear HB; clear HO_7; clear HO214; have HO_10 := n0_; have HO_51 := n1_; have HO208 := n2_; have HB := n3_; have HO217 := n4_; clear n0_ n1_ n2_ n3_ n4_; clear ho hb hg hat)))
                                    go_roundg k3
                                    case measure => have := HK1.out; have := HK2.out; have := HK3.out; omega
                                    case rel => exact ⟨(y215), (y206), (wrap64 (x53_3 + 1)), (by first | rfl | (simp; done) | (simp [*]; done)), H', ⟨by have := HK1.out; have := HK2.out; have := HK3.out; omega⟩, ⟨by (with_reducible repeat (first | apply Tail_alloc | apply Tail_drewN | apply Tail_drew)); exact Tail_mono HO217.out (fun _ hk => ⟨hk.2.2, ⟨hk.1, hk.2.1⟩⟩)⟩, ⟨by (with_reducible repeat first|apply rA_|apply rN_|apply rD_); exact Kd.R_mono HO208.out (fun _ hk => ⟨hk.1.1, hk.1.2⟩)⟩, ⟨by (with_reducible repeat first|apply rA_|apply rN_|apply rD_); exact Kd.R_mono HO_10.out (fun _ hk => ⟨hk.1.2, hk.1.1⟩)⟩, ⟨by (with_reducible repeat first|apply rA_|apply rN_|apply rD_); exact Kd.R_mono HO_51.out (fun _ hk => ⟨hk.1.2, hk.1.1⟩)⟩, ⟨by repeat (first | (with_reducible first|exact HB.out|apply vA_|apply vN_|apply vD_) | exact HB.out)⟩⟩
                                  · rw [if_neg c39] at H
                                    exact absurd H (by simp)
                                · rw [if_neg c38] at H
                                  exact absurd H (by simp)
                              · rw [if_neg c36] at H
                                exact absurd H (by simp)
                        · rw [if_neg c31] at H
                          exact absurd H (by simp)
                      · rw [if_neg c30] at H
                        exact absurd H (by simp)
                    · rw [if_neg c29] at H
                      have c29b0 : decide (x53_3 < (x11_2.length : Int)) = false := decide_eq_false c29
                      clear c29
                      have H' := Aside0.mk H
                      clear H
                      go_wp2
                      repeat (go_quiet (fail); try go_wp2)
                      go_roundg k3
                      case measure => have := HK1.out; have := HK2.out; have := HK3.out; omega
                      case rel => exact ⟨(x7_3), (x8_3), (wrap64 (x9_1 + 1)), (by first | rfl | (simp; done) | (simp [*]; done)), H', ⟨by have := HK1.out; have := HK2.out; have := HK3.out; omega⟩, ⟨Tail_next (by (with_reducible repeat (first | apply Tail_alloc | apply Tail_drewN | apply Tail_drew)); exact Tail_mono HO_7.out (fun _ hk => hk.1)) HX.out.1 HX.out.2⟩, ⟨by (with_reducible repeat first|apply rA_|apply rN_|apply rD_); exact Kd.R_mono HO_8.out (fun _ hk => trivial)⟩, ⟨by repeat (first | (with_reducible first|exact HB.out|apply vA_|apply vN_|apply vD_) | exact HB.out)⟩⟩
        · rw [if_neg c10] at H
          exact absurd H (by simp)
      · rw [if_neg c9] at H
        have c9b0 : decide (x9_1 < (x7_1.length : Int)) = false := decide_eq_false c9
        clear c9
        obtain rfl := Option.some.inj H
        obtain ⟨Ao47, co47, eo47⟩ := Tail_slice HO_7.out
        subst eo47
        go_wp2
        repeat (go_quiet (fail); try go_wp2)
        go_ret
        exact ⟨_, by first | rfl | (simp [errW_none, errW_some] <;> rfl) | (simp [*, errW_none, errW_some] <;> rfl), by first | exact Kd.R_nil _ _ _ _ _ | exact Kd.N_nil _ _ _ _ _ | exact Kd.V_nil _ _ _ _ _ | exact Kd.Q_nil _ _ _ _ _ | exact Kd.S_nil _ _ _ _ _, by repeat (first | (with_reducible first|exact HB.out|apply vA_|apply vN_|apply vD_) | exact HB.out)⟩

/-! ### spec_l3Cycle: function 66 -/
def spec_l3Cycle.l0 : Nat → List (List Int) → Int → Option (List Int)
  | 0, _, _ => none
  | k + 1, x0, x3 => if x3 < 100 then ((spec_l3Way.f k x0 x3 x3).bind fun t218 => (if (t218.length : Int) > 0 then (some t218) else (spec_l3Cycle.l0 k x0 (wrap64 (x3 + 1))))) else (some ([] : List Int))
def spec_l3Cycle.f (k : Nat) (l0 : List (List Int)) : Option (List Int) := spec_l3Cycle.l0 k l0 0
theorem spec_l3Cycle.mono_l : ∀ k, (∀ y0 y1, LeO (spec_l3Cycle.l0 k y0 y1) (spec_l3Cycle.l0 (k + 1) y0 y1))
  | 0 => fun _ _ r h => by simp [spec_l3Cycle.l0] at h
  | k + 1 => by
    have ih0 := spec_l3Cycle.mono_l k
    · intro y0 y1
      unfold spec_l3Cycle.l0
      repeat' first
      | (with_reducible exact ih0 _ _)
      | (with_reducible exact spec_l3Way.mono _ _ _ _)
      | (with_reducible exact LeO.refl _)
      | (with_reducible exact LeO.none _)
      | (with_reducible refine LeO.ite ?_ ?_)
      | (with_reducible refine LeO.bind ?_ (fun _ => ?_))
      | exact ih0 _ _
      | exact spec_l3Way.mono _ _ _ _
      | exact LeO.none _
      | refine LeO.ite ?_ ?_
      | refine LeO.bind ?_ (fun _ => ?_)
theorem spec_l3Cycle.mono : ∀ a0 k, LeO (spec_l3Cycle.f k a0) (spec_l3Cycle.f (k + 1) a0) := by
  intro a0 k
  have ih0 := spec_l3Cycle.mono_l k
  unfold spec_l3Cycle.f
  repeat' first
      | (with_reducible exact ih0 _ _)
      | (with_reducible exact spec_l3Way.mono _ _ _ _)
      | (with_reducible exact LeO.refl _)
      | (with_reducible exact LeO.none _)
      | (with_reducible refine LeO.ite ?_ ?_)
      | (with_reducible refine LeO.bind ?_ (fun _ => ?_))
      | exact ih0 _ _
      | exact spec_l3Way.mono _ _ _ _
      | exact LeO.none _
      | refine LeO.ite ?_ ?_
      | refine LeO.bind ?_ (fun _ => ?_)
set_option maxHeartbeats 8000000 in
set_option maxRecDepth 100000 in
theorem spec_l3Cycle.calls (k : Nat) (A0 : Option Addr) (c0 : Nat) (l0 : List (List Int)) (r : List Int) (w : World) (hr0 : Kd.C (Kd.slice 3 (Kd.int .i64)) w A0 l0.length l0) (hc0 : l0.length ≤ c0) (h : spec_l3Cycle.f k l0 = some r) :
    Calls Try.prog 66 #[.slice A0 l0.length c0] w fun e w' => ∃ v0_ : Value, e = .returned (v0_) ∧ Kd.R (Kd.int .i64) 3 w' w.heap.size (fun _ => True) v0_ r ∧ Below w.heap.size w w' := by
  have HR0 := Aside0.mk hr0
  have HC0 := Aside0.mk hc0
  clear hr0 hc0
  have HB := Aside0.mk (Below.refl w.heap.size w)
  have H : (spec_l3Cycle.l0 k l0 0) = some r := h
  clear h
  have H' := Aside0.mk H
  clear H
  go_enter Try.func66, Try.ntmps66
  go_wp2
  go_loopg [3] k (fun kq v3 w' => ∃ (x3_1 : Int), v3 = .int .i64 x3_1 ∧ Aside0 (spec_l3Cycle.l0 kq l0 x3_1 = some r) ∧ Aside0 (kq ≤ k) ∧ Aside0 (Below w.heap.size w w'))
  case atStart => exact ⟨(0), (by first | rfl | (simp; done) | (simp [*]; done)), H', ⟨Nat.le_refl _⟩, ⟨by repeat (first | (with_reducible first|exact HB.out|apply vA_|apply vN_|apply vD_) | exact HB.out)⟩⟩
  case round =>
    clear H'
    obtain ⟨x3_1, rfl, HA, HK1, HB⟩ := hrel
    cases gk with
    | zero => exact absurd HA.out (by simp [spec_l3Cycle.l0])
    | succ k1 =>
      have H := HA.out
      clear HA
      simp only [spec_l3Cycle.l0] at H
      by_cases c2 : x3_1 < 100
      · rw [if_pos c2] at H
        have c2b0 : decide (x3_1 < 100) = true := decide_eq_true c2
        clear c2
        replace H := Option.bind_eq_some_iff.mp H
        obtain ⟨t218, A30, H⟩ := H
        replace H : (if (t218.length : Int) > 0 then (some t218) else (spec_l3Cycle.l0 k1 l0 (wrap64 (x3_1 + 1)))) = some r := H
        have A3 := Aside0.mk A30
        clear A30
        by_cases c4 : (t218.length : Int) > 0
        · rw [if_pos c4] at H
          have c4b0 : decide (0 < (t218.length : Int)) = true := decide_eq_true c4
          have c4b1 : decide (0 < t218.length) = true := decide_eq_true (by omega)
          clear c4
          obtain rfl := Option.some.inj H
          go_wp2_with (first | ((with_reducible refine gate_callee (f := 111) rfl ?_); refine goesL_ (some 12) rfl rfl Try.func111 (by kernel_rfl) rfl #[.slice A0 l0.length c0, .int .i64 x3_1, .int .i64 x3_1] rfl (by (try simp only [List.map_toArray, List.map_cons, List.map_nil]); first | done | rfl | (simp only [List.length_drop, List.length_take]; rfl)) ?_; (with_reducible refine (spec_l3Way.calls k1 _ _ l0 x3_1 x3_1 t218 _ ?side1 ?side2 A3.out).mono ?_); (case side1 => repeat (first | exact (Kd.C_below HR0.out HB.out) | with_reducible apply cA_|with_reducible apply cN_|with_reducible apply cD_)); (case side2 => exact HC0.out); rintro e w5 ⟨v219, rfl, ho0, hb⟩; refine ⟨_, rfl, ?_⟩; have n0_ := Aside0.mk (Kd.R_lower ho0 (below_size (by repeat (first | (with_reducible first|exact HB.out|apply vA_|apply vN_|apply vD_) | exact HB.out)))); have n1_ := Aside0.mk (below_step (by repeat (first | (with_reducible first|exact HB.out|apply vA_|apply vN_|apply vD_) | exact HB.out)) hb); clear HB; have HO220 := n0_; have HB := n1_; clear n0_ n1_; (try clear hb); (try clear hb2); (try clear hk); (try clear hi); (try clear ho0); obtain ⟨Ao6, co6, eo6⟩ := Kd.R_slice HO220.out; subst eo6))
          go_ret
          exact ⟨_, by first | rfl | (simp [errW_none, errW_some] <;> rfl) | (simp [*, errW_none, errW_some] <;> rfl), by (with_reducible repeat first|apply rA_|apply rN_|apply rD_); exact HO220.out, by repeat (first | (with_reducible first|exact HB.out|apply vA_|apply vN_|apply vD_) | exact HB.out)⟩
        · rw [if_neg c4] at H
          have c4b0 : decide (0 < (t218.length : Int)) = false := decide_eq_false c4
          have c4b1 : decide (0 < t218.length) = false := decide_eq_false (by omega)
          clear c4
          have H' := Aside0.mk H
          clear H
          go_wp2_with (first | ((with_reducible refine gate_callee (f := 111) rfl ?_); refine goesL_ (some 12) rfl rfl Try.func111 (by kernel_rfl) rfl #[.slice A0 l0.length c0, .int .i64 x3_1, .int .i64 x3_1] rfl (by (try simp only [List.map_toArray, List.map_cons, List.map_nil]); first | done | rfl | (simp only [List.length_drop, List.length_take]; rfl)) ?_; (with_reducible refine (spec_l3Way.calls k1 _ _ l0 x3_1 x3_1 t218 _ ?side1 ?side2 A3.out).mono ?_); (case side1 => repeat (first | exact (Kd.C_below HR0.out HB.out) | with_reducible apply cA_|with_reducible apply cN_|with_reducible apply cD_)); (case side2 => exact HC0.out); rintro e w7 ⟨v219, rfl, ho0, hb⟩; refine ⟨_, rfl, ?_⟩; have n0_ := Aside0.mk (Kd.R_lower ho0 (below_size (by repeat (first | (with_reducible first|exact HB.out|apply vA_|apply vN_|apply vD_) | exact HB.out)))); have n1_ := Aside0.mk (below_step (by repeat (first | (with_reducible first|exact HB.out|apply vA_|apply vN_|apply vD_) | exact HB.out)) hb); clear HB; have HO220 := n0_; have HB := n1_; clear n0_ n1_; (try clear hb); (try clear hb2); (try clear hk); (try clear hi); (try clear ho0); obtain ⟨Ao8, co8, eo8⟩ := Kd.R_slice HO220.out; subst eo8))
          go_roundg k1
          case measure => have := HK1.out; omega
          case rel => exact ⟨(wrap64 (x3_1 + 1)), (by first | rfl | (simp; done) | (simp [*]; done)), H', ⟨by have := HK1.out; omega⟩, ⟨by repeat (first | (with_reducible first|exact HB.out|apply vA_|apply vN_|apply vD_) | exact HB.out)⟩⟩
      · rw [if_neg c2] at H
        have c2b0 : decide (x3_1 < 100) = false := decide_eq_false c2
        clear c2
        obtain rfl := Option.some.inj H
        go_wp2
        go_ret
        exact ⟨_, by first | rfl | (simp [errW_none, errW_some] <;> rfl) | (simp [*, errW_none, errW_some] <;> rfl), by first | exact Kd.R_nil _ _ _ _ _ | exact Kd.N_nil _ _ _ _ _ | exact Kd.V_nil _ _ _ _ _ | exact Kd.Q_nil _ _ _ _ _ | exact Kd.S_nil _ _ _ _ _, by repeat (first | (with_reducible first|exact HB.out|apply vA_|apply vN_|apply vD_) | exact HB.out)⟩

/-! ### spec_CycleIn: function 18 -/
def spec_CycleIn.f (k : Nat) (l0 : List (List Int)) : Option (List Int × Bool) := (spec_l3Pairs.f k l0).bind fun t221 => (if t221 = true then ((spec_l3Cycle.f k l0).bind fun t222 => (if (t222.length : Int) = 0 then (some (([] : List Int), false)) else ((spec_l3Cycle.f k l0).bind fun t225 => (some (t225, true))))) else (some (([] : List Int), false)))
theorem spec_CycleIn.mono : ∀ a0 k, LeO (spec_CycleIn.f k a0) (spec_CycleIn.f (k + 1) a0) := by
  intro a0 k
  unfold spec_CycleIn.f
  repeat' first
      | (with_reducible exact spec_l3Cycle.mono _ _)
      | (with_reducible exact spec_l3Pairs.mono _ _)
      | (with_reducible exact LeO.refl _)
      | (with_reducible exact LeO.none _)
      | (with_reducible refine LeO.ite ?_ ?_)
      | (with_reducible refine LeO.bind ?_ (fun _ => ?_))
      | exact spec_l3Cycle.mono _ _
      | exact spec_l3Pairs.mono _ _
      | exact LeO.none _
      | refine LeO.ite ?_ ?_
      | refine LeO.bind ?_ (fun _ => ?_)
set_option maxHeartbeats 8000000 in
set_option maxRecDepth 100000 in
theorem spec_CycleIn.calls (k : Nat) (A0 : Option Addr) (c0 : Nat) (l0 : List (List Int)) (r1 : List Int) (r2 : Bool) (w : World) (hr0 : Kd.C (Kd.slice 3 (Kd.int .i64)) w A0 l0.length l0) (hc0 : l0.length ≤ c0) (h : spec_CycleIn.f k l0 = some (r1, r2)) :
    Calls Try.prog 18 #[.slice A0 l0.length c0] w fun e w' => ∃ v0_ : Value, e = .returned (.tuple #[v0_, .bool r2]) ∧ Kd.R (Kd.int .i64) 3 w' w.heap.size (fun _ => True) v0_ r1 ∧ Below w.heap.size w w' := by
  have HR0 := Aside0.mk hr0
  have HC0 := Aside0.mk hc0
  clear hr0 hc0
  have HB := Aside0.mk (Below.refl w.heap.size w)
  have H : ((spec_l3Pairs.f k l0).bind fun t221 => (if t221 = true then ((spec_l3Cycle.f k l0).bind fun t222 => (if (t222.length : Int) = 0 then (some (([] : List Int), false)) else ((spec_l3Cycle.f k l0).bind fun t225 => (some (t225, true))))) else (some (([] : List Int), false)))) = some (r1, r2) := h
  clear h
  replace H := Option.bind_eq_some_iff.mp H
  obtain ⟨t221, A20, H⟩ := H
  replace H : (if t221 = true then ((spec_l3Cycle.f k l0).bind fun t222 => (if (t222.length : Int) = 0 then (some (([] : List Int), false)) else ((spec_l3Cycle.f k l0).bind fun t225 => (some (t225, true))))) else (some (([] : List Int), false))) = some (r1, r2) := H
  have A2 := Aside0.mk A20
  clear A20
  by_cases c3 : t221 = true
  · subst c3
    have H1 : ((spec_l3Cycle.f k l0).bind fun t222 => (if (t222.length : Int) = 0 then (some (([] : List Int), false)) else ((spec_l3Cycle.f k l0).bind fun t225 => (some (t225, true))))) = some (r1, r2) := by rw [if_pos rfl] at H; exact H
    clear H
    have H := H1
    clear H1
    replace H := Option.bind_eq_some_iff.mp H
    obtain ⟨t222, A40, H⟩ := H
    replace H : (if (t222.length : Int) = 0 then (some (([] : List Int), false)) else ((spec_l3Cycle.f k l0).bind fun t225 => (some (t225, true)))) = some (r1, r2) := H
    have A4 := Aside0.mk A40
    clear A40
    by_cases c5 : (t222.length : Int) = 0
    · rw [if_pos c5] at H
      have c5b0 : ((t222.length : Int) == 0) = true := beq_iff_eq.mpr c5
      have c5b1 : ((t222.length : Int) != 0) = false := bne_eq_false_iff_eq.mpr c5
      clear c5
      simp only [Option.some.injEq, Prod.mk.injEq] at H
      obtain ⟨rfl, rfl⟩ := H
      go_enter Try.func18, Try.ntmps18
      go_wp2_with (first | ((with_reducible refine gate_callee (f := 65) rfl ?_); refine goesL_ (some 5) rfl rfl Try.func65 (by kernel_rfl) rfl #[.slice A0 l0.length c0] rfl (by (try simp only [List.map_toArray, List.map_cons, List.map_nil]); first | done | rfl | (simp only [List.length_drop, List.length_take]; rfl)) ?_; (with_reducible refine (spec_l3Pairs.calls k _ _ l0 true _ ?side1 ?side2 A2.out).mono ?_); (case side1 => repeat (first | exact HR0.out | with_reducible apply cA_|with_reducible apply cN_|with_reducible apply cD_)); (case side2 => exact HC0.out); rintro e w' ⟨rfl, ⟨nd, rfl⟩⟩; refine ⟨_, rfl, ?_⟩) | (go_at_call 66; (with_reducible refine (spec_l3Cycle.calls k _ _ l0 t222 _ ?side1 ?side2 A4.out).mono ?_); (case side1 => repeat (first | exact HR0.out | with_reducible apply cA_|with_reducible apply cN_|with_reducible apply cD_)); (case side2 => exact HC0.out); rintro e w6 ⟨v223, rfl, ho0, hb⟩; have n0_ := Aside0.mk (Kd.R_lower ho0 (below_size (by repeat (first | (with_reducible first|exact HB.out|apply vA_|apply vN_|apply vD_) | exact HB.out)))); have n1_ := Aside0.mk (below_step (by repeat (first | (with_reducible first|exact HB.out|apply vA_|apply vN_|apply vD_) | exact HB.out)) hb); clear HB; have HO224 := n0_; have HB := n1_; clear n0_ n1_; (try clear hb); (try clear hb2); (try clear hk); (try clear hi); (try clear ho0); obtain ⟨Ao7, co7, eo7⟩ := Kd.R_slice HO224.out; subst eo7))
      go_ret2
      exact ⟨_, by first | rfl | (simp [errW_none, errW_some] <;> rfl) | (simp [*, errW_none, errW_some] <;> rfl), by first | exact Kd.R_nil _ _ _ _ _ | exact Kd.N_nil _ _ _ _ _ | exact Kd.V_nil _ _ _ _ _ | exact Kd.Q_nil _ _ _ _ _ | exact Kd.S_nil _ _ _ _ _, by repeat (first | (with_reducible first|exact HB.out|apply vA_|apply vN_|apply vD_) | exact HB.out)⟩
    · rw [if_neg c5] at H
      have c5b0 : ((t222.length : Int) == 0) = false := beq_eq_false_iff_ne.mpr c5
      have c5b1 : ((t222.length : Int) != 0) = true := bne_iff_ne.mpr c5
      have c5b2 : ¬ (t222 = []) := fun h_ => c5 (by rw [h_]; rfl)
      replace H := Option.bind_eq_some_iff.mp H
      obtain ⟨t225, A80, H⟩ := H
      replace H : (some (t225, true)) = some (r1, r2) := H
      have A8 := Aside0.mk A80
      clear A80
      simp only [Option.some.injEq, Prod.mk.injEq] at H
      obtain ⟨rfl, rfl⟩ := H
      go_enter Try.func18, Try.ntmps18
      go_wp2_with (first | ((with_reducible refine gate_callee (f := 65) rfl ?_); refine goesL_ (some 5) rfl rfl Try.func65 (by kernel_rfl) rfl #[.slice A0 l0.length c0] rfl (by (try simp only [List.map_toArray, List.map_cons, List.map_nil]); first | done | rfl | (simp only [List.length_drop, List.length_take]; rfl)) ?_; (with_reducible refine (spec_l3Pairs.calls k _ _ l0 true _ ?side1 ?side2 A2.out).mono ?_); (case side1 => repeat (first | exact HR0.out | with_reducible apply cA_|with_reducible apply cN_|with_reducible apply cD_)); (case side2 => exact HC0.out); rintro e w' ⟨rfl, ⟨nd, rfl⟩⟩; refine ⟨_, rfl, ?_⟩) | (go_at_call 66; (with_reducible refine (spec_l3Cycle.calls k _ _ l0 t222 _ ?side1 ?side2 A4.out).mono ?_); (case side1 => repeat (first | exact HR0.out | with_reducible apply cA_|with_reducible apply cN_|with_reducible apply cD_)); (case side2 => exact HC0.out); rintro e w9 ⟨v223, rfl, ho0, hb⟩; have n0_ := Aside0.mk (Kd.R_lower ho0 (below_size (by repeat (first | (with_reducible first|exact HB.out|apply vA_|apply vN_|apply vD_) | exact HB.out)))); have n1_ := Aside0.mk (below_step (by repeat (first | (with_reducible first|exact HB.out|apply vA_|apply vN_|apply vD_) | exact HB.out)) hb); clear HB; have HO224 := n0_; have HB := n1_; clear n0_ n1_; (try clear hb); (try clear hb2); (try clear hk); (try clear hi); (try clear ho0); obtain ⟨Ao10, co10, eo10⟩ := Kd.R_slice HO224.out; subst eo10) | ((with_reducible refine gate_callee (f := 66) rfl ?_); refine goesL_ (some 14) rfl rfl Try.func66 (by kernel_rfl) rfl #[.slice A0 l0.length c0] rfl (by (try simp only [List.map_toArray, List.map_cons, List.map_nil]); first | done | rfl | (simp only [List.length_drop, List.length_take]; rfl)) ?_; (with_reducible refine (spec_l3Cycle.calls k _ _ l0 t225 _ ?side1 ?side2 A8.out).mono ?_); (case side1 => repeat (first | exact (Kd.C_below HR0.out HB.out) | with_reducible apply cA_|with_reducible apply cN_|with_reducible apply cD_)); (case side2 => exact HC0.out); rintro e w11 ⟨v226, rfl, ho0, hb⟩; refine ⟨_, rfl, ?_⟩; have n0_ := Aside0.mk (Kd.R_elder' (by (with_reducible repeat first|apply rA_|apply rN_|apply rD_); exact HO224.out) (by first | exact Kd.R_base ho0 | exact Kd.S_base ho0 | exact Kd.R_base ho0) hb); have n1_ := Aside0.mk (Kd.R_lower (Kd.R_new' ho0 (Kd.R_lt (by (with_reducible repeat first|apply rA_|apply rN_|apply rD_); exact HO224.out))) (below_size (by repeat (first | (with_reducible first|exact HB.out|apply vA_|apply vN_|apply vD_) | exact HB.out)))); have n2_ := Aside0.mk (below_step (by repeat (first | (with_reducible first|exact HB.out|apply vA_|apply vN_|apply vD_) | exact HB.out)) hb); clear HO224; clear HB; have HO224 := n0_; have HO227 := n1_; have HB := n2_; clear n0_ n1_ n2_; (try clear hb); (try clear hb2); (try clear hk); (try clear hi); (try clear ho0)))
      go_ret2
      exact ⟨_, by first | rfl | (simp [errW_none, errW_some] <;> rfl) | (simp [*, errW_none, errW_some] <;> rfl), by (with_reducible repeat first|apply rA_|apply rN_|apply rD_); exact Kd.R_mono HO227.out (fun _ hk => trivial), by repeat (first | (with_reducible first|exact HB.out|apply vA_|apply vN_|apply vD_) | exact HB.out)⟩
  · replace c3 := Bool.eq_false_iff.mpr c3
    subst c3
    have H1 : (some (([] : List Int), false)) = some (r1, r2) := by rw [if_neg (show ¬ (false = true) by decide)] at H; exact H
    clear H
    have H := H1
    clear H1
    simp only [Option.some.injEq, Prod.mk.injEq] at H
    obtain ⟨rfl, rfl⟩ := H
    go_enter Try.func18, Try.ntmps18
    go_wp2_with (first | ((with_reducible refine gate_callee (f := 65) rfl ?_); refine goesL_ (some 5) rfl rfl Try.func65 (by kernel_rfl) rfl #[.slice A0 l0.length c0] rfl (by (try simp only [List.map_toArray, List.map_cons, List.map_nil]); first | done | rfl | (simp only [List.length_drop, List.length_take]; rfl)) ?_; (with_reducible refine (spec_l3Pairs.calls k _ _ l0 false _ ?side1 ?side2 A2.out).mono ?_); (case side1 => repeat (first | exact HR0.out | with_reducible apply cA_|with_reducible apply cN_|with_reducible apply cD_)); (case side2 => exact HC0.out); rintro e w' ⟨rfl, ⟨nd, rfl⟩⟩; refine ⟨_, rfl, ?_⟩))
    go_ret2
    exact ⟨_, by first | rfl | (simp [errW_none, errW_some] <;> rfl) | (simp [*, errW_none, errW_some] <;> rfl), by first | exact Kd.R_nil _ _ _ _ _ | exact Kd.N_nil _ _ _ _ _ | exact Kd.V_nil _ _ _ _ _ | exact Kd.Q_nil _ _ _ _ _ | exact Kd.S_nil _ _ _ _ _, by repeat (first | (with_reducible first|exact HB.out|apply vA_|apply vN_|apply vD_) | exact HB.out)⟩

/-! ### laws_toIntS: function 58 -/
def laws_toIntS.l0 : Nat → List Int → List Int → Int → Option (List Int)
  | 0, _, _, _ => none
  | k + 1, x0, x3, x4 => if x4 < (x0.length : Int) then (if 0 ≤ x4 then (if x4 < (x3.length : Int) then (laws_toIntS.l0 k x0 (x3.set (x4 : Int).toNat (rd x0 x4)) (wrap64 (x4 + 1))) else (none)) else (none)) else (some x3)
def laws_toIntS.f (k : Nat) (l0 : List Int) : Option (List Int) := if 0 ≤ (l0.length : Int) then (if ((l0.length : Int) : Int).toNat ≤ 35184372088832 then (laws_toIntS.l0 k l0 (List.replicate ((l0.length : Int) : Int).toNat 0) 0) else (none)) else (none)
theorem laws_toIntS.mono_l : ∀ k, (∀ y0 y1 y2, LeO (laws_toIntS.l0 k y0 y1 y2) (laws_toIntS.l0 (k + 1) y0 y1 y2))
  | 0 => fun _ _ _ r h => by simp [laws_toIntS.l0] at h
  | k + 1 => by
    have ih0 := laws_toIntS.mono_l k
    · intro y0 y1 y2
      unfold laws_toIntS.l0
      repeat' first
      | (with_reducible exact ih0 _ _ _)
      | (with_reducible exact LeO.refl _)
      | (with_reducible exact LeO.none _)
      | (with_reducible refine LeO.ite ?_ ?_)
      | (with_reducible refine LeO.bind ?_ (fun _ => ?_))
      | exact ih0 _ _ _
      | exact LeO.none _
      | refine LeO.ite ?_ ?_
      | refine LeO.bind ?_ (fun _ => ?_)
theorem laws_toIntS.mono : ∀ a0 k, LeO (laws_toIntS.f k a0) (laws_toIntS.f (k + 1) a0) := by
  intro a0 k
  have ih0 := laws_toIntS.mono_l k
  unfold laws_toIntS.f
  repeat' first
      | (with_reducible exact ih0 _ _ _)
      | (with_reducible exact LeO.refl _)
      | (with_reducible exact LeO.none _)
      | (with_reducible refine LeO.ite ?_ ?_)
      | (with_reducible refine LeO.bind ?_ (fun _ => ?_))
      | exact ih0 _ _ _
      | exact LeO.none _
      | refine LeO.ite ?_ ?_
      | refine LeO.bind ?_ (fun _ => ?_)
set_option maxHeartbeats 8000000 in
set_option maxRecDepth 100000 in
theorem laws_toIntS.calls (k : Nat) (A0 : Option Addr) (c0 : Nat) (l0 : List Int) (r : List Int) (w : World) (hr0 : Kd.C (Kd.int .i64) w A0 l0.length l0) (hc0 : l0.length ≤ c0) (h : laws_toIntS.f k l0 = some r) :
    Calls Try.prog 58 #[.slice A0 l0.length c0] w fun e w' => ∃ v0_ : Value, e = .returned (v0_) ∧ Kd.R (Kd.int .i64) 3 w' w.heap.size (fun _ => True) v0_ r ∧ Below w.heap.size w w' := by
  have HR0 := Aside0.mk hr0
  have HC0 := Aside0.mk hc0
  clear hr0 hc0
  have HB := Aside0.mk (Below.refl w.heap.size w)
  have H : (if 0 ≤ (l0.length : Int) then (if ((l0.length : Int) : Int).toNat ≤ 35184372088832 then (laws_toIntS.l0 k l0 (List.replicate ((l0.length : Int) : Int).toNat 0) 0) else (none)) else (none)) = some r := h
  clear h
  by_cases c2 : 0 ≤ (l0.length : Int)
  · rw [if_pos c2] at H
    have c2b0 := eq_true c2
    have c2b1 : decide (0 ≤ (l0.length : Int)) = true := decide_eq_true c2
    clear c2
    by_cases c3 : ((l0.length : Int) : Int).toNat ≤ 35184372088832
    · rw [if_pos c3] at H
      have c3b0 := eq_true c3
      have c3b1 : decide (((l0.length : Int) : Int).toNat ≤ 35184372088832) = true := decide_eq_true c3
      clear c3
      obtain ⟨y228, hy228⟩ : ∃ y_ : List Int, y_ = (List.replicate ((l0.length : Int) : Int).toNat 0) := ⟨_, rfl⟩
      replace H : (laws_toIntS.l0 k l0 y228 0) = some r := by first | (rw [hy228]; with_reducible exact H) | (have H2_ := (Option.bind_some _ _).symm.trans H; rw [hy228]; with_reducible exact H2_) | (have H2_ := (Option.bind_some _ _).symm.trans H; with_reducible exact H2_) | with_reducible exact H | (rw [hy228]; exact H) | exact H
      have Ny228 := Aside0.mk hy228
      clear hy228
      have H' := Aside0.mk H
      clear H
      go_enter Try.func58, Try.ntmps58
      go_wp2_with (first | ((with_reducible refine gate_dst (N := 7) rfl ?_); refine Kd.R_make (Kd.int .i64) _ 3 rfl (N := 7) rfl 22 _ _ rfl (l0.length : Int) rfl rfl Try.underlying22 (.int .i64 0) 8 info3 rfl (by decide) (by omega) 0 (ok := fun _ => True) (okp := fun _ => True) rfl (fun _ hk => hk) trivial (of_decide_eq_true (by first | (with_reducible assumption) | assumption)) (Nat.le_trans (Nat.mul_le_mul_right _ (of_decide_eq_true (by first | (with_reducible assumption) | assumption) : (l0.length : Int).toNat ≤ 35184372088832)) (by omega)) (Below.refl _ _) (Nat.le_refl _) ?_; intro v229 w4 ho5 hb hg_ hnew_; clear hg_ hnew_; (first | rw [← Ny228.out] at ho5 | (simp only [Int.reduceToNat] at ho5; rw [← Ny228.out] at ho5)); have n0_ := Aside0.mk (Kd.R_lower ho5 (below_size (by repeat (first | (with_reducible first|exact HB.out|apply vA_|apply vN_|apply vD_) | exact HB.out)))); have n1_ := Aside0.mk (below_step (by repeat (first | (with_reducible first|exact HB.out|apply vA_|apply vN_|apply vD_) | exact HB.out)) hb); clear HB; have HO230 := n0_; have HB := n1_; clear n0_ n1_; clear hb ho5))
      go_loopg [4] k (fun kq v4 w' => ∃ (x3_1 : List Int) (x4_1 : Int), v4 = .int .i64 x4_1 ∧ Aside0 (laws_toIntS.l0 kq l0 x3_1 x4_1 = some r) ∧ Aside0 (kq ≤ k) ∧ Aside0 (Kd.R (Kd.int .i64) 3 w' w.heap.size (fun _ => True) v229 x3_1) ∧ Aside0 (Below w.heap.size w w'))
      case atStart => exact ⟨(y228), (0), (by first | rfl | (simp; done) | (simp [*]; done)), H', ⟨Nat.le_refl _⟩, ⟨by (with_reducible repeat first|apply rA_|apply rN_|apply rD_); exact HO230.out⟩, ⟨by repeat (first | (with_reducible first|exact HB.out|apply vA_|apply vN_|apply vD_) | exact HB.out)⟩⟩
      case round =>
        clear H'
        try clear c2
        try clear c2b0
        try clear c2b1
        try clear p2
        try clear c3
        try clear c3b0
        try clear c3b1
        try clear c5
        obtain ⟨x3_1, x4_1, rfl, HA, HK1, HO_3, HB⟩ := hrel
        cases gk with
        | zero => exact absurd HA.out (by simp [laws_toIntS.l0])
        | succ k1 =>
          have H := HA.out
          clear HA
          simp only [laws_toIntS.l0] at H
          by_cases c6 : x4_1 < (l0.length : Int)
          · rw [if_pos c6] at H
            have c6b0 : decide (x4_1 < (l0.length : Int)) = true := decide_eq_true c6
            clear c6
            by_cases c7 : 0 ≤ x4_1
            · rw [if_pos c7] at H
              have c7b0 : decide (0 ≤ x4_1) = true := decide_eq_true c7
              clear c7
              by_cases c8 : x4_1 < (x3_1.length : Int)
              · rw [if_pos c8] at H
                have c8b0 : decide (x4_1 < (x3_1.length : Int)) = true := decide_eq_true c8
                clear c8
                obtain ⟨y232, hy232⟩ : ∃ y_ : List Int, y_ = (x3_1.set (x4_1 : Int).toNat (rd l0 x4_1)) := ⟨_, rfl⟩
                replace H : (laws_toIntS.l0 k1 l0 y232 (wrap64 (x4_1 + 1))) = some r := by first | (rw [hy232]; with_reducible exact H) | (have H2_ := (Option.bind_some _ _).symm.trans H; rw [hy232]; with_reducible exact H2_) | (have H2_ := (Option.bind_some _ _).symm.trans H; with_reducible exact H2_) | with_reducible exact H | (rw [hy232]; exact H) | exact H
                have Ny232 := Aside0.mk hy232
                clear hy232
                have H' := Aside0.mk H
                clear H
                have p231 : 0 ≤ (x4_1 : Int) := of_decide_eq_true (by first | (with_reducible assumption) | assumption)
                have q231 : x4_1 < (l0.length : Int) := of_decide_eq_true (by first | (with_reducible assumption) | assumption)
                obtain ⟨ad231, e231, hx231_0⟩ := Kd.at_int HR0.out x4_1 p231 q231
                cases e231
                try replace hx231_0 := (HB.out.cell (World.block_lt_of_cell? w _ hx231_0)).trans hx231_0
                replace p231 := eq_true p231
                replace q231 := eq_true q231
                have p9 : 0 ≤ (x4_1 : Int) := of_decide_eq_true (by first | (with_reducible assumption) | assumption)
                have q9 : (x4_1 : Int) < ((x3_1.length : Int) : Int) := of_decide_eq_true (by first | (with_reducible assumption) | assumption)
                obtain ⟨go9, co9, eo9, gb9, gl9, cl9, HG9⟩ := Kd.R_form HO_3.out (by omega)
                (first | cases eo9 | (injection eo9 with ea_ en_ ec_; (first | subst ea_ | (injection ea_ with ea_; subst ea_)); subst ec_; clear en_))
                have GB9 := Aside0.mk gb9
                have GG9 := Aside0.mk HG9
                clear gb9 gl9 HG9
                obtain ⟨hx9_0, hf9_0⟩ := Kd.R_celln 0 HO_3.out (x4_1 : Int) p9 q9
                replace p9 := eq_true p9
                replace q9 := eq_true q9
                have HP10 := Kd.R_putg HO_3.out (x4_1 : Int) (rd l0 x4_1)
                go_wp2_with (first | ((with_reducible refine gate_store (t := 3) (p := 20) rfl ?_); refine store_event (t := 3) (p := 20) (v := ?vo_w11) (w1 := (wr.setCell ⟨go9, (x4_1 : Int).toNat, none⟩ (.int .i64 (rd l0 x4_1)))) ?hg ?ho ?hn ?hr ?_; (case ho => rfl); (case hg => rfl); (case hn => rfl); (case hr => first | (go_simp; done) | (go_simp; rfl)); intro w11 hw; have hg : wr.grownBy w11 (some go9) := (by rw [hw]; exact HP10.2); have hp_ : Kd.R (Kd.int .i64) 3 w11 w.heap.size (fun _ => True) (.slice (some ⟨go9, 0, none⟩) x3_1.length co9) y232 := (by rw [hw, Ny232.out]; exact HP10.1); clear HP10; have n0_ := Aside0.mk (hp_); have n1_ := Aside0.mk ((by rw [hw]; exact below_set (HB.out) GB9.out : Below w.heap.size w w11)); clear HO_3; clear HB; have HO_3 := n0_; have HB := n1_; clear n0_ n1_; clear hg hw hp_))
                go_roundg k1
                case measure => have := HK1.out; omega
                case rel => exact ⟨(y232), (wrap64 (x4_1 + 1)), (by first | rfl | (simp; done) | (simp [*]; done)), H', ⟨by have := HK1.out; omega⟩, ⟨by (with_reducible repeat first|apply rA_|apply rN_|apply rD_); exact HO_3.out⟩, ⟨by repeat (first | (with_reducible first|exact HB.out|apply vA_|apply vN_|apply vD_) | exact HB.out)⟩⟩
              · rw [if_neg c8] at H
                exact absurd H (by simp)
            · rw [if_neg c7] at H
              exact absurd H (by simp)
          · rw [if_neg c6] at H
            have c6b0 : decide (x4_1 < (l0.length : Int)) = false := decide_eq_false c6
            clear c6
            obtain rfl := Option.some.inj H
            go_wp2
            go_ret
            exact ⟨_, by first | rfl | (simp [errW_none, errW_some] <;> rfl) | (simp [*, errW_none, errW_some] <;> rfl), by (with_reducible repeat first|apply rA_|apply rN_|apply rD_); exact HO_3.out, by repeat (first | (with_reducible first|exact HB.out|apply vA_|apply vN_|apply vD_) | exact HB.out)⟩
    · rw [if_neg c3] at H
      exact absurd H (by simp)
  · rw [if_neg c2] at H
    exact absurd H (by simp)

end Go.Proofs.Ytpfbiopcfbokbaa.GCycleIn

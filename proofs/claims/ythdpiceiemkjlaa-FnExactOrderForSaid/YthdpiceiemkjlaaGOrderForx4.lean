-- Printed by wip/tools/print2.py out of the translation: walks and plain functions; Lean checks them.
import Derived.Test.YthdpiceiemkjlaaGOrderForx0
namespace Go.Proofs.Ythdpiceiemkjlaa.GOrderFor
open Go.RowKit Go.Proofs.YthdpiceiemkjlaaW.PrintWords Go.Proofs.YthdpiceiemkjlaaW.PrintLast Go.Proofs.YthdpiceiemkjlaaW.PrintMore
attribute [local go_sem] max2_int min2_int max_two min_two max_three min_three max_four min_four   -- for this text's walks alone
set_option linter.unusedVariables false
set_option linter.unusedSimpArgs false

/-! Numbers that are one up to which NaN they are; a NaN that is drawn. -/
def eqv (a b : Nat) : Prop := a = b ∨ (feq a a = false ∧ feq b b = false)
theorem eqv.refl (a : Nat) : eqv a a := .inl rfl
theorem eqv.trans {a b c : Nat} (h : eqv a b) (k : eqv b c) : eqv a c := by
 rcases h with rfl | ⟨h1, h2⟩
 ·exact k
 ·rcases k with rfl | ⟨k1, k2⟩
  ·exact .inr ⟨h1, h2⟩
  ·exact .inr ⟨h1, k2⟩
theorem nan_canon : feq 9221120237041090561 9221120237041090561 = false := by
 have e : nanOf 4503599627370496 = 9221120237041090561 := by decide
 rw [← e]
 exact feq_nanOf _ _
def eqvL (x y : List Nat) : Prop := x.length = y.length ∧ ∀ i : Nat, eqv (x.getD i 0) (y.getD i 0)
theorem eqvL.refl (x : List Nat) : eqvL x x := ⟨rfl, fun _ => eqv.refl _⟩
theorem eqvL.trans {x y z : List Nat} (h : eqvL x y) (k : eqvL y z) : eqvL x z := ⟨h.1.trans k.1, fun i => (h.2 i).trans (k.2 i)⟩
theorem eqvL.snoc {x y : List Nat} {a b : Nat} (h : eqvL x y) (e : eqv a b) : eqvL (x ++ [a]) (y ++ [b]) := by
 refine ⟨by simp [h.1], fun i => ?_⟩
 have hi := h.2 i
 have hl := h.1
 simp only [List.getD_eq_getElem?_getD] at hi ⊢
 rcases Nat.lt_trichotomy i x.length with q | q | q
 ·rw [List.getElem?_append_left q, List.getElem?_append_left (by omega)]; exact hi
 ·rw [List.getElem?_append_right (by omega), List.getElem?_append_right (by omega), show i - x.length = 0 by omega, show i - y.length = 0 by omega]; exact e
 ·rw [List.getElem?_eq_none (by simp; omega), List.getElem?_eq_none (by simp; omega)]; exact .inl rfl
section
variable {P : Program} {ops : Array Oper} {rest : List Oper} {o : Oper} {a : Act} {Q : Exit → Act → World → Prop}
theorem quo_event {W : World} (hgd : o.guard = none) {t t' : TypeId} {x y : Operand} {p q : Nat} (ho : o.op = .binOp .quo t x y t') (hx : a.eval x = .float .f64 p) (hy : a.eval y = .float .f64 q) (hn : fdivOk p q = false)
  (h : ∀ nv, feq nv nv = false → wpList P ops Q rest (a.put o.dst (.float .f64 nv)) W.drew) : wpList P ops Q (o :: rest) a W := by
 refine Kd.event_run hgd (v := .float .f64 (nanOf (W.tape W.drawn (.nanBits .f64 p q)))) (w1 := W.drew) ?_ (h _ (feq_nanOf _ _))
 rw [show execOp a.eval o = execOp a.eval { o with op := .binOp .quo t x y t' } from by rw [← ho]]
 simp only [execOp, hx, hy]
 go_simp
end
theorem drew_setCell (W : World) (p : Addr) (u : Value) : (W.setCell p u).drew = W.drew.setCell p u := by
 first | rfl | (unfold World.setCell World.drew; split <;> rfl) | (cases W; rfl) | (simp [World.setCell, World.drew]; split <;> rfl)
/-! ### spec_l16Play: function 61 -/
def spec_l16Play.l0 : Nat → Int → List (S77) → List Nat → List Nat → Nat → List Int → Int → Int → Option (List Nat)
 | 0, _, _, _, _, _, _, _, _ => none
 | k + 1, x0, x1, x7, x8, x9, x15, x16, x17 => if x17 < x16 then (if 0 ≤ x17 then (if x17 < (x15.length : Int) then (if 0 ≤ (rd x15 x17) then (if (rd x15 x17) < (x1.length : Int) then (if (rd_T77 x1 (rd x15 x17)).f3 = true then (if x8.length < 17592186044416 then (if x7.length < 17592186044416 then (spec_l16Play.l0 k x0 x1 (x7 ++ [(rd_T77 x1 (rd x15 x17)).f4]) (x8 ++ [(rd_T77 x1 (rd x15 x17)).f4]) ((rd_T77 x1 (rd x15 x17)).f4) x15 x16 (wrap64 (x17 + 1))) else (none)) else (none)) else (if x0 = 1 then (if x7.length < 17592186044416 then (spec_l16Play.l0 k x0 x1 (x7 ++ [x9]) x8 x9 x15 x16 (wrap64 (x17 + 1))) else (none)) else (if (x8.length : Int) = 0 then (if fdivOk 0 0 = false then (if x7.length < 17592186044416 then (spec_l16Play.l0 k x0 x1 (x7 ++ [9221120237041090561]) x8 x9 x15 x16 (wrap64 (x17 + 1))) else (none)) else (none)) else (if 0 < (x8.length : Int) then (if 1 ≤ (x8.length : Int) then (if x7.length < 17592186044416 then (spec_l16Play.l0 k x0 x1 (x7 ++ [rdOf (0 : Nat) x8 0]) (x8.drop (1 : Int).toNat) x9 x15 x16 (wrap64 (x17 + 1))) else (none)) else (none)) else (none))))) else (none)) else (none)) else (none)) else (none)) else (some x7)
def spec_l16Play.f (k : Nat) (a0 : Int) (l1 : List (S77)) (l2 : List Int) : Option (List Nat) := spec_l16Play.l0 k a0 l1 ([] : List Nat) ([] : List Nat) 0 l2 (l2.length : Int) 0
theorem spec_l16Play.mono_l : ∀ k, (∀ y0 y1 y2 y3 y4 y5 y6 y7, LeO (spec_l16Play.l0 k y0 y1 y2 y3 y4 y5 y6 y7) (spec_l16Play.l0 (k + 1) y0 y1 y2 y3 y4 y5 y6 y7))
 | 0 => fun _ _ _ _ _ _ _ _ r h => by simp [spec_l16Play.l0] at h
 | k + 1 => by
  have ih0 := spec_l16Play.mono_l k
  ·intro y0 y1 y2 y3 y4 y5 y6 y7
   unfold spec_l16Play.l0
   repeat' first
   | (with_reducible exact ih0 _ _ _ _ _ _ _ _)
   | (with_reducible exact LeO.refl _)
   | (with_reducible exact LeO.none _)
   | (with_reducible refine LeO.ite ?_ ?_)
   | (with_reducible refine LeO.bind ?_ (fun _ => ?_))
   | exact ih0 _ _ _ _ _ _ _ _
   | exact LeO.none _
   | refine LeO.ite ?_ ?_
   | refine LeO.bind ?_ (fun _ => ?_)
theorem spec_l16Play.mono : ∀ a0 a1 a2 k, LeO (spec_l16Play.f k a0 a1 a2) (spec_l16Play.f (k + 1) a0 a1 a2) := by
 intro a0 a1 a2 k
 have ih0 := spec_l16Play.mono_l k
 unfold spec_l16Play.f
 repeat' first
   | (with_reducible exact ih0 _ _ _ _ _ _ _ _)
   | (with_reducible exact LeO.refl _)
   | (with_reducible exact LeO.none _)
   | (with_reducible refine LeO.ite ?_ ?_)
   | (with_reducible refine LeO.bind ?_ (fun _ => ?_))
   | exact ih0 _ _ _ _ _ _ _ _
   | exact LeO.none _
   | refine LeO.ite ?_ ?_
   | refine LeO.bind ?_ (fun _ => ?_)
theorem spec_l16Play.same : ∀ (k : Nat) {a0 : Int} {l1 : List S77} {x x' x8 : List Nat} {x9 : Nat} {x15 : List Int} {x16 x17 : Int} {r : List Nat}, eqvL x' x → spec_l16Play.l0 k a0 l1 x x8 x9 x15 x16 x17 = some r → ∃ r', spec_l16Play.l0 k a0 l1 x' x8 x9 x15 x16 x17 = some r' ∧ eqvL r' r
 | 0, a0, l1, x, x', x8, x9, x15, x16, x17, r, he, h => by simp [spec_l16Play.l0] at h
 | k + 1, a0, l1, x, x', x8, x9, x15, x16, x17, r, he, h => by
  have hl := he.1
  simp only [spec_l16Play.l0] at h ⊢
  rw [hl]
  by_cases c1 : x17 < x16
  ·rw [if_pos c1] at h ⊢
   by_cases c2 : 0 ≤ x17
   ·rw [if_pos c2] at h ⊢
    by_cases c3 : x17 < (x15.length : Int)
    ·rw [if_pos c3] at h ⊢
     by_cases c4 : 0 ≤ rd x15 x17
     ·rw [if_pos c4] at h ⊢
      by_cases c5 : rd x15 x17 < (l1.length : Int)
      ·rw [if_pos c5] at h ⊢
       by_cases c6 : (rd_T77 l1 (rd x15 x17)).f3 = true
       ·rw [if_pos c6] at h ⊢
        by_cases c7 : x8.length < 17592186044416
        ·rw [if_pos c7] at h ⊢
         by_cases c8 : x.length < 17592186044416
         ·rw [if_pos c8] at h ⊢; exact spec_l16Play.same k (he.snoc (eqv.refl _)) h
         ·rw [if_neg c8] at h; cases h
        ·rw [if_neg c7] at h; cases h
       ·rw [if_neg c6] at h ⊢
        by_cases c7 : a0 = 1
        ·rw [if_pos c7] at h ⊢
         by_cases c8 : x.length < 17592186044416
         ·rw [if_pos c8] at h ⊢; exact spec_l16Play.same k (he.snoc (eqv.refl _)) h
         ·rw [if_neg c8] at h; cases h
        ·rw [if_neg c7] at h ⊢
         by_cases c9 : (x8.length : Int) = 0
         ·rw [if_pos c9] at h ⊢
          by_cases c10 : fdivOk 0 0 = false
          ·rw [if_pos c10] at h ⊢
           by_cases c8 : x.length < 17592186044416
           ·rw [if_pos c8] at h ⊢; exact spec_l16Play.same k (he.snoc (eqv.refl _)) h
           ·rw [if_neg c8] at h; cases h
          ·rw [if_neg c10] at h; cases h
         ·rw [if_neg c9] at h ⊢
          by_cases c10 : 0 < (x8.length : Int)
          ·rw [if_pos c10] at h ⊢
           by_cases c11 : 1 ≤ (x8.length : Int)
           ·rw [if_pos c11] at h ⊢
            by_cases c8 : x.length < 17592186044416
            ·rw [if_pos c8] at h ⊢; exact spec_l16Play.same k (he.snoc (eqv.refl _)) h
            ·rw [if_neg c8] at h; cases h
           ·rw [if_neg c11] at h; cases h
          ·rw [if_neg c10] at h; cases h
      ·rw [if_neg c5] at h; cases h
     ·rw [if_neg c4] at h; cases h
    ·rw [if_neg c3] at h; cases h
   ·rw [if_neg c2] at h; cases h
  ·rw [if_neg c1] at h ⊢
   cases h
   exact ⟨_, rfl, he⟩
set_option maxHeartbeats 8000000 in
set_option maxRecDepth 100000 in
theorem spec_l16Play.calls (k : Nat) (a0 : Int) (A1 : Option Addr) (c1 : Nat) (l1 : List (S77)) (A2 : Option Addr) (c2 : Nat) (l2 : List Int) (r : List Nat) (w : World) (hr1 : Kd.C k77 w A1 l1.length l1) (hc1 : l1.length ≤ c1) (hr2 : Kd.C (Kd.int .i64) w A2 l2.length l2) (hc2 : l2.length ≤ c2) (h : spec_l16Play.f k a0 l1 l2 = some r) :
  Calls Try.prog 61 #[.int .i64 a0, .slice A1 l1.length c1, .slice A2 l2.length c2] w fun e w' => ∃ (v0_ : Value) (r_ : List Nat), e = .returned (v0_) ∧ eqvL r_ r ∧ Kd.R Kd.float 55 w' w.heap.size (fun _ => True) v0_ r_ ∧ Below w.heap.size w w' := by
 have hu77 := Try.underlying77
 have HR1 := Aside0.mk hr1
 have HC1 := Aside0.mk hc1
 clear hr1 hc1
 have HR2 := Aside0.mk hr2
 have HC2 := Aside0.mk hc2
 clear hr2 hc2
 have HB := Aside0.mk (Below.refl w.heap.size w)
 have H : (spec_l16Play.l0 k a0 l1 ([] : List Nat) ([] : List Nat) 0 l2 (l2.length : Int) 0) = some r := h
 clear h
 have H' := Aside0.mk H
 clear H
 go_enter Try.func61, Try.ntmps61
 go_wp2
 go_loopg [7, 8, 9, 17] k (fun kq v7 v8 v9 v17 w' => ∃ (r1_ : List Nat) (x7_1 : List Nat) (x8_1 : List Nat) (x9_1 : Nat) (x17_1 : Int), v9 = .float .f64 x9_1 ∧ v17 = .int .i64 x17_1 ∧ Aside0 (spec_l16Play.l0 kq a0 l1 x7_1 x8_1 x9_1 l2 (l2.length : Int) x17_1 = some r1_) ∧ Aside0 (kq ≤ k) ∧ Aside0 (Kd.R Kd.float 55 w' w.heap.size (fun k_ => some k_ ≠ (v8 : Value).ownBlock) v7 x7_1) ∧ Aside0 (Kd.Q Kd.float 55 w' w.heap.size (fun k_ => some k_ ≠ (v7 : Value).ownBlock) v8 x8_1) ∧ Aside0 (eqvL r1_ r) ∧ Aside0 (Below w.heap.size w w'))
 case atStart => exact ⟨r, (([] : List Nat)), (([] : List Nat)), (0), (0), (by first | rfl | (simp; done) | (simp [*]; done)), (by first | rfl | (simp; done) | (simp [*]; done)), H', ⟨Nat.le_refl _⟩, ⟨by first | exact Kd.R_nil _ _ _ _ _ | exact Kd.N_nil _ _ _ _ _ | exact Kd.V_nil _ _ _ _ _ | exact Kd.Q_nil _ _ _ _ _ | exact Kd.S_nil _ _ _ _ _⟩, ⟨Kd.Q_of_R (by first | exact Kd.R_nil _ _ _ _ _ | exact Kd.N_nil _ _ _ _ _ | exact Kd.V_nil _ _ _ _ _ | exact Kd.Q_nil _ _ _ _ _ | exact Kd.S_nil _ _ _ _ _)⟩, ⟨eqvL.refl _⟩, ⟨by repeat (first | (with_reducible first | exact HB.out | apply below_alloc | apply pw_below_drewN | apply below_drew1) | exact HB.out)⟩⟩
 case round =>
  clear H'
  try clear c1
  try clear c2
  try clear p2
  obtain ⟨r1_, x7_1, x8_1, x9_1, x17_1, rfl, rfl, HA, HK1, HO_7, HO_8, HE, HB⟩ := hrel
  cases gk with
  | zero => exact absurd HA.out (by simp [spec_l16Play.l0])
  | succ k1 =>
   have H := HA.out
   clear HA
   simp only [spec_l16Play.l0] at H
   by_cases c4 : x17_1 < (l2.length : Int)
   ·rw [if_pos c4] at H
    have c4b0 : decide (x17_1 < (l2.length : Int)) = true := decide_eq_true c4
    clear c4
    by_cases c5 : 0 ≤ x17_1
    ·rw [if_pos c5] at H
     have c5b0 : decide (0 ≤ x17_1) = true := decide_eq_true c5
     clear c5
     by_cases c6 : x17_1 < (l2.length : Int)
     ·rw [if_pos c6] at H
      have c6b0 : decide (x17_1 < (l2.length : Int)) = true := decide_eq_true c6
      clear c6
      by_cases c7 : 0 ≤ (rd l2 x17_1)
      ·rw [if_pos c7] at H
       have c7b0 : decide (0 ≤ (rd l2 x17_1)) = true := decide_eq_true c7
       clear c7
       by_cases c8 : (rd l2 x17_1) < (l1.length : Int)
       ·rw [if_pos c8] at H
        have c8b0 : decide ((rd l2 x17_1) < (l1.length : Int)) = true := decide_eq_true c8
        clear c8
        obtain ⟨bq9, hbq9⟩ : ∃ b_ : Bool, b_ = ((rd_T77 l1 (rd l2 x17_1)).f3) := ⟨_, rfl⟩
        replace H : (if bq9 = true then (if x8_1.length < 17592186044416 then (if x7_1.length < 17592186044416 then (spec_l16Play.l0 k1 a0 l1 (x7_1 ++ [(rd_T77 l1 (rd l2 x17_1)).f4]) (x8_1 ++ [(rd_T77 l1 (rd l2 x17_1)).f4]) ((rd_T77 l1 (rd l2 x17_1)).f4) l2 (l2.length : Int) (wrap64 (x17_1 + 1))) else (none)) else (none)) else (if a0 = 1 then (if x7_1.length < 17592186044416 then (spec_l16Play.l0 k1 a0 l1 (x7_1 ++ [x9_1]) x8_1 x9_1 l2 (l2.length : Int) (wrap64 (x17_1 + 1))) else (none)) else (if (x8_1.length : Int) = 0 then (if fdivOk 0 0 = false then (if x7_1.length < 17592186044416 then (spec_l16Play.l0 k1 a0 l1 (x7_1 ++ [9221120237041090561]) x8_1 x9_1 l2 (l2.length : Int) (wrap64 (x17_1 + 1))) else (none)) else (none)) else (if 0 < (x8_1.length : Int) then (if 1 ≤ (x8_1.length : Int) then (if x7_1.length < 17592186044416 then (spec_l16Play.l0 k1 a0 l1 (x7_1 ++ [rdOf (0 : Nat) x8_1 0]) (x8_1.drop (1 : Int).toNat) x9_1 l2 (l2.length : Int) (wrap64 (x17_1 + 1))) else (none)) else (none)) else (none))))) = some r1_ := by rw [← hbq9] at H; exact H
        have Nbq9 := Aside0.mk hbq9
        clear hbq9
        by_cases c10 : bq9 = true
        ·subst c10
         have H1 : (if x8_1.length < 17592186044416 then (if x7_1.length < 17592186044416 then (spec_l16Play.l0 k1 a0 l1 (x7_1 ++ [(rd_T77 l1 (rd l2 x17_1)).f4]) (x8_1 ++ [(rd_T77 l1 (rd l2 x17_1)).f4]) ((rd_T77 l1 (rd l2 x17_1)).f4) l2 (l2.length : Int) (wrap64 (x17_1 + 1))) else (none)) else (none)) = some r1_ := by rw [if_pos rfl] at H; exact H
         clear H
         have H := H1
         clear H1
         by_cases c11 : x8_1.length < 17592186044416
         ·rw [if_pos c11] at H
          have LMc11 := Aside0.mk c11
          clear c11
          obtain ⟨y149, hy149⟩ : ∃ y_ : List Nat, y_ = (x8_1 ++ [(rd_T77 l1 (rd l2 x17_1)).f4]) := ⟨_, rfl⟩
          replace H : (if x7_1.length < 17592186044416 then (spec_l16Play.l0 k1 a0 l1 (x7_1 ++ [(rd_T77 l1 (rd l2 x17_1)).f4]) y149 ((rd_T77 l1 (rd l2 x17_1)).f4) l2 (l2.length : Int) (wrap64 (x17_1 + 1))) else (none)) = some r1_ := by first | (rw [hy149]; with_reducible exact H) | (have H2_ := (Option.bind_some _ _).symm.trans H; rw [hy149]; with_reducible exact H2_) | (have H2_ := (Option.bind_some _ _).symm.trans H; with_reducible exact H2_) | with_reducible exact H | (rw [hy149]; exact H) | exact H
          have Ny149 := Aside0.mk hy149
          clear hy149
          by_cases c12 : x7_1.length < 17592186044416
          ·rw [if_pos c12] at H
           have LMc12 := Aside0.mk c12
           clear c12
           obtain ⟨y152, hy152⟩ : ∃ y_ : List Nat, y_ = (x7_1 ++ [(rd_T77 l1 (rd l2 x17_1)).f4]) := ⟨_, rfl⟩
           replace H : (spec_l16Play.l0 k1 a0 l1 y152 y149 ((rd_T77 l1 (rd l2 x17_1)).f4) l2 (l2.length : Int) (wrap64 (x17_1 + 1))) = some r1_ := by first | (rw [hy152]; with_reducible exact H) | (have H2_ := (Option.bind_some _ _).symm.trans H; rw [hy152]; with_reducible exact H2_) | (have H2_ := (Option.bind_some _ _).symm.trans H; with_reducible exact H2_) | with_reducible exact H | (rw [hy152]; exact H) | exact H
           have Ny152 := Aside0.mk hy152
           clear hy152
           have H' := Aside0.mk H
           clear H
           have p146 : 0 ≤ (x17_1 : Int) := of_decide_eq_true (by first | (with_reducible assumption) | assumption)
           have q146 : x17_1 < (l2.length : Int) := of_decide_eq_true (by first | (with_reducible assumption) | assumption)
           obtain ⟨ad146, e146, hx146_0⟩ := Kd.at_int HR2.out x17_1 p146 q146
           cases e146
           try replace hx146_0 := (HB.out.cell (World.block_lt_of_cell? w _ hx146_0)).trans hx146_0
           replace p146 := eq_true p146
           replace q146 := eq_true q146
           have p147 : 0 ≤ ((rd l2 x17_1) : Int) := of_decide_eq_true (by first | (with_reducible assumption) | assumption)
           have q147 : (rd l2 x17_1) < (l1.length : Int) := of_decide_eq_true (by first | (with_reducible assumption) | assumption)
           obtain ⟨ad147, e147, hx147_0, hx147_1, hx147_2, hx147_3, hx147_4⟩ := at_T77 HR1.out (rd l2 x17_1) p147 q147
           (try rw [← Nbq9.out] at hx147_3)
           cases e147
           try replace hx147_0 := (HB.out.cell (World.block_lt_of_cell? w _ hx147_0)).trans hx147_0
           try replace hx147_1 := (HB.out.cell (World.block_lt_of_cell? w _ hx147_1)).trans hx147_1
           try replace hx147_2 := (HB.out.cell (World.block_lt_of_cell? w _ hx147_2)).trans hx147_2
           try replace hx147_3 := (HB.out.cell (World.block_lt_of_cell? w _ hx147_3)).trans hx147_3
           try replace hx147_4 := (HB.out.cell (World.block_lt_of_cell? w _ hx147_4)).trans hx147_4
           replace p147 := eq_true p147
           replace q147 := eq_true q147
           go_wp2_with (first | ((with_reducible refine gate_dst (N := 12) rfl ?_); refine box_event ?hg (N := 12) ?hd (cs := #[.int .i64 0, .int .i64 0, .int .i64 0, .bool false, .float .f64 0]) (t := 77) ?hr ?_; (case hd => rfl); (case hg => rfl); (case hr => first | (go_simp; done) | (go_simp; rfl)); intro gb148 hg w13 hbox hb; have n0_ := Aside0.mk (Kd.R_below (by (with_reducible repeat (first | apply Kd.R_alloc | apply Kd.R_drewN | apply Kd.R_drew)); exact HO_7.out) hb); have n1_ := Aside0.mk (Kd.Q_below (by (with_reducible repeat (first | apply Kd.Q_alloc | apply Kd.Q_drewN | apply Kd.Q_drew)); exact HO_8.out) hb); have n2_ := Aside0.mk (below_step (by repeat (first | (with_reducible first | exact HB.out | apply below_alloc | apply pw_below_drewN | apply below_drew1) | exact HB.out)) hb); have n3_ := Aside0.mk (hbox); have n4_ := Aside0.mk ((by rw [hg]; exact (below_size (by repeat (first | (with_reducible first | exact HB.out | apply below_alloc | apply pw_below_drewN | apply below_drew1) | exact HB.out))) : w.heap.size ≤ gb148)); have n5_ := Aside0.mk ((by rw [hg]; exact (below_size (by repeat (first | (with_reducible first | exact HB.out | apply below_alloc | apply pw_below_drewN | apply below_drew1) | exact HB.out))) : w.heap.size ≤ gb148)); clear HO_7; clear HO_8; clear HB; have HO_7 := n0_; have HO_8 := n1_; have HB := n2_; have BK148 := n3_; have GW148 := n4_; have GE148 := n5_; clear n0_ n1_ n2_ n3_ n4_ n5_; clear hb hbox hg; have hcz14_0 : w13.cell? ⟨gb148, 0, none⟩ = some (.int .i64 0) := (blk_cell BK148.out 0).trans rfl; have hcz14_1 : w13.cell? ⟨gb148, 1, none⟩ = some (.int .i64 0) := (blk_cell BK148.out 1).trans rfl; have hcz14_2 : w13.cell? ⟨gb148, 2, none⟩ = some (.int .i64 0) := (blk_cell BK148.out 2).trans rfl; have hcz14_3 : w13.cell? ⟨gb148, 3, none⟩ = some (.bool false) := (blk_cell BK148.out 3).trans rfl; have hcz14_4 : w13.cell? ⟨gb148, 4, none⟩ = some (.float .f64 0) := (blk_cell BK148.out 4).trans rfl; have hfz14_0 := blk_frozen BK148.out 0; have hfz14_1 := blk_frozen BK148.out 1; have hfz14_2 := blk_frozen BK148.out 2; have hfz14_3 := blk_frozen BK148.out 3; have hfz14_4 := blk_frozen BK148.out 4) | ((with_reducible refine gate_builtin (b := .append) (xs := #[.tmp 37, .tmp 40]) rfl ?_); at_builtin; refine Kd.Q_append Kd.float (w0 := w) w.heap.size rfl (.tmp 37) (.tmp 40) 25 55 (.float .f64 0) 8 rfl Try.underlying25 info55 rfl (by decide) (by omega) u8 x8_1 ((rd_T77 l1 (rd l2 x17_1)).f4) [.float .f64 ((rd_T77 l1 (rd l2 x17_1)).f4)] (fun k_ => some k_ ≠ (u7 : Value).ownBlock) (fun _ => False) rfl (by first | (go_simp; done) | (go_simp; rfl)) ?aP (fun _ hk => hk.elim) ?aF ?aO ?aB ?aS ?aL ?_; (case aP => exact rfl); (case aB => exact (by repeat (first | (with_reducible first | exact HB.out | apply below_alloc | apply pw_below_drewN | apply below_drew1 | refine below_set ?_ GE148.out) | exact HB.out))); (case aF => exact (fun k_ hk => Kd.fresh' (Kd.R_lt (by (with_reducible repeat (first | apply Kd.R_alloc | apply Kd.R_drewN | apply Kd.R_drew)); exact (Kd.R_mono (Kd.R_far (p := ⟨gb148, 4, none⟩) (Kd.R_far (p := ⟨gb148, 3, none⟩) (Kd.R_far (p := ⟨gb148, 2, none⟩) (Kd.R_far (p := ⟨gb148, 1, none⟩) (Kd.R_far (p := ⟨gb148, 0, none⟩) (Kd.R_types HO_7.out BK148.out (by decide)) (fun _ hk => hk.2) (.int .i64 ((rd_T77 l1 (rd l2 x17_1)).f0))) (fun _ hk => hk.2) (.int .i64 ((rd_T77 l1 (rd l2 x17_1)).f1))) (fun _ hk => hk.2) (.int .i64 ((rd_T77 l1 (rd l2 x17_1)).f2))) (fun _ hk => hk.2) (.bool true)) (fun _ hk => hk.2) (.float .f64 ((rd_T77 l1 (rd l2 x17_1)).f4))) (fun _ h_ => h_.1)))) k_ hk)); (case aO => exact (by (with_reducible repeat (first | apply Kd.Q_alloc | apply Kd.Q_drewN | apply Kd.Q_drew)); exact Kd.Q_mono (Kd.Q_far (p := ⟨gb148, 4, none⟩) (Kd.Q_far (p := ⟨gb148, 3, none⟩) (Kd.Q_far (p := ⟨gb148, 2, none⟩) (Kd.Q_far (p := ⟨gb148, 1, none⟩) (Kd.Q_far (p := ⟨gb148, 0, none⟩) (Kd.Q_types HO_8.out BK148.out (by decide)) (fun _ hk => hk.2) (.int .i64 ((rd_T77 l1 (rd l2 x17_1)).f0))) (fun _ hk => hk.2) (.int .i64 ((rd_T77 l1 (rd l2 x17_1)).f1))) (fun _ hk => hk.2) (.int .i64 ((rd_T77 l1 (rd l2 x17_1)).f2))) (fun _ hk => hk.2) (.bool true)) (fun _ hk => hk.2) (.float .f64 ((rd_T77 l1 (rd l2 x17_1)).f4))) (fun _ hk => hk.1))); (case aS => exact (below_size (by repeat (first | (with_reducible first | exact HB.out | apply below_alloc | apply pw_below_drewN | apply below_drew1 | refine below_set ?_ GE148.out) | exact HB.out)))); (case aL => have := LMc11.out; omega); intro v150 w15 ho hb hg hat; rw [← Ny149.out] at ho; have n0_ := Aside0.mk (Kd.R_after (ok := (fun _ => True)) (by (with_reducible repeat (first | apply Kd.R_alloc | apply Kd.R_drewN | apply Kd.R_drew)); exact Kd.R_mono (Kd.R_far (p := ⟨gb148, 4, none⟩) (Kd.R_far (p := ⟨gb148, 3, none⟩) (Kd.R_far (p := ⟨gb148, 2, none⟩) (Kd.R_far (p := ⟨gb148, 1, none⟩) (Kd.R_far (p := ⟨gb148, 0, none⟩) (Kd.R_types HO_7.out BK148.out (by decide)) (fun _ hk => hk.2) (.int .i64 ((rd_T77 l1 (rd l2 x17_1)).f0))) (fun _ hk => hk.2) (.int .i64 ((rd_T77 l1 (rd l2 x17_1)).f1))) (fun _ hk => hk.2) (.int .i64 ((rd_T77 l1 (rd l2 x17_1)).f2))) (fun _ hk => hk.2) (.bool true)) (fun _ hk => hk.2) (.float .f64 ((rd_T77 l1 (rd l2 x17_1)).f4))) (fun _ hk => ⟨trivial, hk.1⟩)) hg hat); have n1_ := Aside0.mk (blk_grown (g := gb148) (o := .cells #[.int .i64 ((rd_T77 l1 (rd l2 x17_1)).f0), .int .i64 ((rd_T77 l1 (rd l2 x17_1)).f1), .int .i64 ((rd_T77 l1 (rd l2 x17_1)).f2), .bool true, .float .f64 ((rd_T77 l1 (rd l2 x17_1)).f4)] 77 (0, 0)) (by (with_reducible repeat (first | refine blk_drewN ?_ _ | refine blk_drew ?_ | refine blk_alloc ?_ _)); refine blk_put (cs := #[.int .i64 ((rd_T77 l1 (rd l2 x17_1)).f0), .int .i64 ((rd_T77 l1 (rd l2 x17_1)).f1), .int .i64 ((rd_T77 l1 (rd l2 x17_1)).f2), .bool true, .float .f64 0]) ?_ 4 _ rfl; (with_reducible repeat (first | refine blk_drewN ?_ _ | refine blk_drew ?_ | refine blk_alloc ?_ _)); refine blk_put (cs := #[.int .i64 ((rd_T77 l1 (rd l2 x17_1)).f0), .int .i64 ((rd_T77 l1 (rd l2 x17_1)).f1), .int .i64 ((rd_T77 l1 (rd l2 x17_1)).f2), .bool false, .float .f64 0]) ?_ 3 _ rfl; (with_reducible repeat (first | refine blk_drewN ?_ _ | refine blk_drew ?_ | refine blk_alloc ?_ _)); refine blk_put (cs := #[.int .i64 ((rd_T77 l1 (rd l2 x17_1)).f0), .int .i64 ((rd_T77 l1 (rd l2 x17_1)).f1), .int .i64 0, .bool false, .float .f64 0]) ?_ 2 _ rfl; (with_reducible repeat (first | refine blk_drewN ?_ _ | refine blk_drew ?_ | refine blk_alloc ?_ _)); refine blk_put (cs := #[.int .i64 ((rd_T77 l1 (rd l2 x17_1)).f0), .int .i64 0, .int .i64 0, .bool false, .float .f64 0]) ?_ 1 _ rfl; (with_reducible repeat (first | refine blk_drewN ?_ _ | refine blk_drew ?_ | refine blk_alloc ?_ _)); refine blk_put (cs := #[.int .i64 0, .int .i64 0, .int .i64 0, .bool false, .float .f64 0]) ?_ 0 _ rfl; (with_reducible repeat (first | refine blk_drewN ?_ _ | refine blk_drew ?_ | refine blk_alloc ?_ _)); exact BK148.out) hg (Kd.Q_ne HO_8.out BK148.out (by decide))); have n2_ := Aside0.mk (hb); have n3_ := Aside0.mk (ho); clear HO_7; clear BK148; clear HB; clear HO_8; have HO_7 := n0_; have BK148 := n1_; have HB := n2_; have HO151 := n3_; clear n0_ n1_ n2_ n3_; clear ho hb hg hat) | ((with_reducible refine gate_builtin (b := .append) (xs := #[.tmp 53, .tmp 55]) rfl ?_); at_builtin; refine Kd.R_append Kd.float (w0 := w) w.heap.size rfl (.tmp 53) (.tmp 55) 25 55 (.float .f64 0) 8 rfl Try.underlying25 info55 rfl (by decide) (by omega) u7 x7_1 ((rd_T77 l1 (rd l2 x17_1)).f4) [.float .f64 ((rd_T77 l1 (rd l2 x17_1)).f4)] (fun k_ => some k_ ≠ (v150 : Value).ownBlock) (fun _ => False) rfl rfl ?aP (fun _ hk => hk.elim) ?aF ?aO ?aB ?aS ?aL ?_; (case aP => exact rfl); (case aB => exact (by repeat (first | (with_reducible first | exact HB.out | apply below_alloc | apply pw_below_drewN | apply below_drew1 | refine below_set ?_ GE148.out) | exact HB.out))); (case aF => exact (fun k_ hk => Kd.fresh' (Kd.Q_lt (by (with_reducible repeat (first | apply Kd.Q_alloc | apply Kd.Q_drewN | apply Kd.Q_drew)); exact HO151.out)) k_ hk)); (case aO => exact (by (with_reducible repeat (first | apply Kd.R_alloc | apply Kd.R_drewN | apply Kd.R_drew)); exact Kd.R_mono HO_7.out (fun _ hk => hk.2))); (case aS => exact (below_size (by repeat (first | (with_reducible first | exact HB.out | apply below_alloc | apply pw_below_drewN | apply below_drew1 | refine below_set ?_ GE148.out) | exact HB.out)))); (case aL => have := LMc12.out; omega); intro v153 w16 ho hb hg hat; rw [← Ny152.out] at ho; have n0_ := Aside0.mk (blk_grown (g := gb148) (o := .cells #[.int .i64 ((rd_T77 l1 (rd l2 x17_1)).f0), .int .i64 ((rd_T77 l1 (rd l2 x17_1)).f1), .int .i64 ((rd_T77 l1 (rd l2 x17_1)).f2), .bool true, .float .f64 ((rd_T77 l1 (rd l2 x17_1)).f4)] 77 (0, 0)) (by (with_reducible repeat (first | refine blk_drewN ?_ _ | refine blk_drew ?_ | refine blk_alloc ?_ _)); exact BK148.out) hg (Kd.R_ne HO_7.out BK148.out (by decide))); have n1_ := Aside0.mk (Kd.Q_after (ok := (fun _ => True)) (by (with_reducible repeat (first | apply Kd.Q_alloc | apply Kd.Q_drewN | apply Kd.Q_drew)); exact Kd.Q_mono HO151.out (fun _ hk => ⟨trivial, hk⟩)) hg hat); have n2_ := Aside0.mk (hb); have n3_ := Aside0.mk (ho); clear BK148; clear HO151; clear HB; clear HO_7; have BK148 := n0_; have HO151 := n1_; have HB := n2_; have HO154 := n3_; clear n0_ n1_ n2_ n3_; clear ho hb hg hat))
           go_roundg k1
           case measure => have := HK1.out; omega
           case rel => exact ⟨r1_, (y152), (y149), ((rd_T77 l1 (rd l2 x17_1)).f4), (wrap64 (x17_1 + 1)), (by first | rfl | (simp; done) | (simp [*]; done)), (by first | rfl | (simp; done) | (simp [*]; done)), H', ⟨by have := HK1.out; omega⟩, ⟨by (with_reducible repeat (first | apply Kd.R_alloc | apply Kd.R_drewN | apply Kd.R_drew)); exact HO154.out⟩, ⟨by (with_reducible repeat (first | apply Kd.Q_alloc | apply Kd.Q_drewN | apply Kd.Q_drew)); exact Kd.Q_mono HO151.out (fun _ hk => hk.2)⟩, HE, ⟨by repeat (first | (with_reducible first | exact HB.out | apply below_alloc | apply pw_below_drewN | apply below_drew1 | refine below_set ?_ GE148.out) | exact HB.out)⟩⟩
          ·rw [if_neg c12] at H
           exact absurd H (by simp)
         ·rw [if_neg c11] at H
          exact absurd H (by simp)
        ·replace c10 := Bool.eq_false_iff.mpr c10
         subst c10
         have H1 : (if a0 = 1 then (if x7_1.length < 17592186044416 then (spec_l16Play.l0 k1 a0 l1 (x7_1 ++ [x9_1]) x8_1 x9_1 l2 (l2.length : Int) (wrap64 (x17_1 + 1))) else (none)) else (if (x8_1.length : Int) = 0 then (if fdivOk 0 0 = false then (if x7_1.length < 17592186044416 then (spec_l16Play.l0 k1 a0 l1 (x7_1 ++ [9221120237041090561]) x8_1 x9_1 l2 (l2.length : Int) (wrap64 (x17_1 + 1))) else (none)) else (none)) else (if 0 < (x8_1.length : Int) then (if 1 ≤ (x8_1.length : Int) then (if x7_1.length < 17592186044416 then (spec_l16Play.l0 k1 a0 l1 (x7_1 ++ [rdOf (0 : Nat) x8_1 0]) (x8_1.drop (1 : Int).toNat) x9_1 l2 (l2.length : Int) (wrap64 (x17_1 + 1))) else (none)) else (none)) else (none)))) = some r1_ := by rw [if_neg (show ¬ (false = true) by decide)] at H; exact H
         clear H
         have H := H1
         clear H1
         by_cases c17 : a0 = 1
         ·rw [if_pos c17] at H
          have c17b0 : (a0 == 1) = true := beq_iff_eq.mpr c17
          have c17b1 : (a0 != 1) = false := bne_eq_false_iff_eq.mpr c17
          clear c17
          by_cases c18 : x7_1.length < 17592186044416
          ·rw [if_pos c18] at H
           have LMc18 := Aside0.mk c18
           clear c18
           obtain ⟨y155, hy155⟩ : ∃ y_ : List Nat, y_ = (x7_1 ++ [x9_1]) := ⟨_, rfl⟩
           replace H : (spec_l16Play.l0 k1 a0 l1 y155 x8_1 x9_1 l2 (l2.length : Int) (wrap64 (x17_1 + 1))) = some r1_ := by first | (rw [hy155]; with_reducible exact H) | (have H2_ := (Option.bind_some _ _).symm.trans H; rw [hy155]; with_reducible exact H2_) | (have H2_ := (Option.bind_some _ _).symm.trans H; with_reducible exact H2_) | with_reducible exact H | (rw [hy155]; exact H) | exact H
           have Ny155 := Aside0.mk hy155
           clear hy155
           have H' := Aside0.mk H
           clear H
           have p146 : 0 ≤ (x17_1 : Int) := of_decide_eq_true (by first | (with_reducible assumption) | assumption)
           have q146 : x17_1 < (l2.length : Int) := of_decide_eq_true (by first | (with_reducible assumption) | assumption)
           obtain ⟨ad146, e146, hx146_0⟩ := Kd.at_int HR2.out x17_1 p146 q146
           cases e146
           try replace hx146_0 := (HB.out.cell (World.block_lt_of_cell? w _ hx146_0)).trans hx146_0
           replace p146 := eq_true p146
           replace q146 := eq_true q146
           have p147 : 0 ≤ ((rd l2 x17_1) : Int) := of_decide_eq_true (by first | (with_reducible assumption) | assumption)
           have q147 : (rd l2 x17_1) < (l1.length : Int) := of_decide_eq_true (by first | (with_reducible assumption) | assumption)
           obtain ⟨ad147, e147, hx147_0, hx147_1, hx147_2, hx147_3, hx147_4⟩ := at_T77 HR1.out (rd l2 x17_1) p147 q147
           (try rw [← Nbq9.out] at hx147_3)
           cases e147
           try replace hx147_0 := (HB.out.cell (World.block_lt_of_cell? w _ hx147_0)).trans hx147_0
           try replace hx147_1 := (HB.out.cell (World.block_lt_of_cell? w _ hx147_1)).trans hx147_1
           try replace hx147_2 := (HB.out.cell (World.block_lt_of_cell? w _ hx147_2)).trans hx147_2
           try replace hx147_3 := (HB.out.cell (World.block_lt_of_cell? w _ hx147_3)).trans hx147_3
           try replace hx147_4 := (HB.out.cell (World.block_lt_of_cell? w _ hx147_4)).trans hx147_4
           replace p147 := eq_true p147
           replace q147 := eq_true q147
           go_wp2_with (first | ((with_reducible refine gate_dst (N := 12) rfl ?_); refine box_event ?hg (N := 12) ?hd (cs := #[.int .i64 0, .int .i64 0, .int .i64 0, .bool false, .float .f64 0]) (t := 77) ?hr ?_; (case hd => rfl); (case hg => rfl); (case hr => first | (go_simp; done) | (go_simp; rfl)); intro gb148 hg w19 hbox hb; have n0_ := Aside0.mk (Kd.R_below (by (with_reducible repeat (first | apply Kd.R_alloc | apply Kd.R_drewN | apply Kd.R_drew)); exact HO_7.out) hb); have n1_ := Aside0.mk (Kd.Q_below (by (with_reducible repeat (first | apply Kd.Q_alloc | apply Kd.Q_drewN | apply Kd.Q_drew)); exact HO_8.out) hb); have n2_ := Aside0.mk (below_step (by repeat (first | (with_reducible first | exact HB.out | apply below_alloc | apply pw_below_drewN | apply below_drew1) | exact HB.out)) hb); have n3_ := Aside0.mk (hbox); have n4_ := Aside0.mk ((by rw [hg]; exact (below_size (by repeat (first | (with_reducible first | exact HB.out | apply below_alloc | apply pw_below_drewN | apply below_drew1) | exact HB.out))) : w.heap.size ≤ gb148)); have n5_ := Aside0.mk ((by rw [hg]; exact (below_size (by repeat (first | (with_reducible first | exact HB.out | apply below_alloc | apply pw_below_drewN | apply below_drew1) | exact HB.out))) : w.heap.size ≤ gb148)); clear HO_7; clear HO_8; clear HB; have HO_7 := n0_; have HO_8 := n1_; have HB := n2_; have BK148 := n3_; have GW148 := n4_; have GE148 := n5_; clear n0_ n1_ n2_ n3_ n4_ n5_; clear hb hbox hg; have hcz20_0 : w19.cell? ⟨gb148, 0, none⟩ = some (.int .i64 0) := (blk_cell BK148.out 0).trans rfl; have hcz20_1 : w19.cell? ⟨gb148, 1, none⟩ = some (.int .i64 0) := (blk_cell BK148.out 1).trans rfl; have hcz20_2 : w19.cell? ⟨gb148, 2, none⟩ = some (.int .i64 0) := (blk_cell BK148.out 2).trans rfl; have hcz20_3 : w19.cell? ⟨gb148, 3, none⟩ = some (.bool false) := (blk_cell BK148.out 3).trans rfl; have hcz20_4 : w19.cell? ⟨gb148, 4, none⟩ = some (.float .f64 0) := (blk_cell BK148.out 4).trans rfl; have hfz20_0 := blk_frozen BK148.out 0; have hfz20_1 := blk_frozen BK148.out 1; have hfz20_2 := blk_frozen BK148.out 2; have hfz20_3 := blk_frozen BK148.out 3; have hfz20_4 := blk_frozen BK148.out 4) | ((with_reducible refine gate_builtin (b := .append) (xs := #[.tmp 53, .tmp 55]) rfl ?_); at_builtin; refine Kd.R_append Kd.float (w0 := w) w.heap.size rfl (.tmp 53) (.tmp 55) 25 55 (.float .f64 0) 8 rfl Try.underlying25 info55 rfl (by decide) (by omega) u7 x7_1 x9_1 [.float .f64 x9_1] (fun k_ => some k_ ≠ (u8 : Value).ownBlock) (fun _ => False) rfl (by first | (go_simp; done) | (go_simp; rfl)) ?aP (fun _ hk => hk.elim) ?aF ?aO ?aB ?aS ?aL ?_; (case aP => exact rfl); (case aB => exact (by repeat (first | (with_reducible first | exact HB.out | apply below_alloc | apply pw_below_drewN | apply below_drew1 | refine below_set ?_ GE148.out) | exact HB.out))); (case aF => exact (fun k_ hk => Kd.fresh' (Kd.Q_lt (by (with_reducible repeat (first | apply Kd.Q_alloc | apply Kd.Q_drewN | apply Kd.Q_drew)); exact (Kd.Q_mono (Kd.Q_far (p := ⟨gb148, 4, none⟩) (Kd.Q_far (p := ⟨gb148, 3, none⟩) (Kd.Q_far (p := ⟨gb148, 2, none⟩) (Kd.Q_far (p := ⟨gb148, 1, none⟩) (Kd.Q_far (p := ⟨gb148, 0, none⟩) (Kd.Q_types HO_8.out BK148.out (by decide)) (fun _ hk => hk.2) (.int .i64 ((rd_T77 l1 (rd l2 x17_1)).f0))) (fun _ hk => hk.2) (.int .i64 ((rd_T77 l1 (rd l2 x17_1)).f1))) (fun _ hk => hk.2) (.int .i64 ((rd_T77 l1 (rd l2 x17_1)).f2))) (fun _ hk => hk.2) (.bool false)) (fun _ hk => hk.2) (.float .f64 ((rd_T77 l1 (rd l2 x17_1)).f4))) (fun _ h_ => h_.1)))) k_ hk)); (case aO => exact (by (with_reducible repeat (first | apply Kd.R_alloc | apply Kd.R_drewN | apply Kd.R_drew)); exact Kd.R_mono (Kd.R_far (p := ⟨gb148, 4, none⟩) (Kd.R_far (p := ⟨gb148, 3, none⟩) (Kd.R_far (p := ⟨gb148, 2, none⟩) (Kd.R_far (p := ⟨gb148, 1, none⟩) (Kd.R_far (p := ⟨gb148, 0, none⟩) (Kd.R_types HO_7.out BK148.out (by decide)) (fun _ hk => hk.2) (.int .i64 ((rd_T77 l1 (rd l2 x17_1)).f0))) (fun _ hk => hk.2) (.int .i64 ((rd_T77 l1 (rd l2 x17_1)).f1))) (fun _ hk => hk.2) (.int .i64 ((rd_T77 l1 (rd l2 x17_1)).f2))) (fun _ hk => hk.2) (.bool false)) (fun _ hk => hk.2) (.float .f64 ((rd_T77 l1 (rd l2 x17_1)).f4))) (fun _ hk => hk.1))); (case aS => exact (below_size (by repeat (first | (with_reducible first | exact HB.out | apply below_alloc | apply pw_below_drewN | apply below_drew1 | refine below_set ?_ GE148.out) | exact HB.out)))); (case aL => have := LMc18.out; omega); intro v156 w21 ho hb hg hat; rw [← Ny155.out] at ho; have n0_ := Aside0.mk (Kd.Q_after (ok := (fun _ => True)) (by (with_reducible repeat (first | apply Kd.Q_alloc | apply Kd.Q_drewN | apply Kd.Q_drew)); exact Kd.Q_mono (Kd.Q_far (p := ⟨gb148, 4, none⟩) (Kd.Q_far (p := ⟨gb148, 3, none⟩) (Kd.Q_far (p := ⟨gb148, 2, none⟩) (Kd.Q_far (p := ⟨gb148, 1, none⟩) (Kd.Q_far (p := ⟨gb148, 0, none⟩) (Kd.Q_types HO_8.out BK148.out (by decide)) (fun _ hk => hk.2) (.int .i64 ((rd_T77 l1 (rd l2 x17_1)).f0))) (fun _ hk => hk.2) (.int .i64 ((rd_T77 l1 (rd l2 x17_1)).f1))) (fun _ hk => hk.2) (.int .i64 ((rd_T77 l1 (rd l2 x17_1)).f2))) (fun _ hk => hk.2) (.bool false)) (fun _ hk => hk.2) (.float .f64 ((rd_T77 l1 (rd l2 x17_1)).f4))) (fun _ hk => ⟨trivial, hk.1⟩)) hg hat); have n1_ := Aside0.mk (blk_grown (g := gb148) (o := .cells #[.int .i64 ((rd_T77 l1 (rd l2 x17_1)).f0), .int .i64 ((rd_T77 l1 (rd l2 x17_1)).f1), .int .i64 ((rd_T77 l1 (rd l2 x17_1)).f2), .bool false, .float .f64 ((rd_T77 l1 (rd l2 x17_1)).f4)] 77 (0, 0)) (by (with_reducible repeat (first | refine blk_drewN ?_ _ | refine blk_drew ?_ | refine blk_alloc ?_ _)); refine blk_put (cs := #[.int .i64 ((rd_T77 l1 (rd l2 x17_1)).f0), .int .i64 ((rd_T77 l1 (rd l2 x17_1)).f1), .int .i64 ((rd_T77 l1 (rd l2 x17_1)).f2), .bool false, .float .f64 0]) ?_ 4 _ rfl; (with_reducible repeat (first | refine blk_drewN ?_ _ | refine blk_drew ?_ | refine blk_alloc ?_ _)); refine blk_put (cs := #[.int .i64 ((rd_T77 l1 (rd l2 x17_1)).f0), .int .i64 ((rd_T77 l1 (rd l2 x17_1)).f1), .int .i64 ((rd_T77 l1 (rd l2 x17_1)).f2), .bool false, .float .f64 0]) ?_ 3 _ rfl; (with_reducible repeat (first | refine blk_drewN ?_ _ | refine blk_drew ?_ | refine blk_alloc ?_ _)); refine blk_put (cs := #[.int .i64 ((rd_T77 l1 (rd l2 x17_1)).f0), .int .i64 ((rd_T77 l1 (rd l2 x17_1)).f1), .int .i64 0, .bool false, .float .f64 0]) ?_ 2 _ rfl; (with_reducible repeat (first | refine blk_drewN ?_ _ | refine blk_drew ?_ | refine blk_alloc ?_ _)); refine blk_put (cs := #[.int .i64 ((rd_T77 l1 (rd l2 x17_1)).f0), .int .i64 0, .int .i64 0, .bool false, .float .f64 0]) ?_ 1 _ rfl; (with_reducible repeat (first | refine blk_drewN ?_ _ | refine blk_drew ?_ | refine blk_alloc ?_ _)); refine blk_put (cs := #[.int .i64 0, .int .i64 0, .int .i64 0, .bool false, .float .f64 0]) ?_ 0 _ rfl; (with_reducible repeat (first | refine blk_drewN ?_ _ | refine blk_drew ?_ | refine blk_alloc ?_ _)); exact BK148.out) hg (Kd.R_ne HO_7.out BK148.out (by decide))); have n2_ := Aside0.mk (hb); have n3_ := Aside0.mk (ho); clear HO_8; clear BK148; clear HB; clear HO_7; have HO_8 := n0_; have BK148 := n1_; have HB := n2_; have HO157 := n3_; clear n0_ n1_ n2_ n3_; clear ho hb hg hat))
           go_roundg k1
           case measure => have := HK1.out; omega
           case rel => exact ⟨r1_, (y155), (x8_1), (x9_1), (wrap64 (x17_1 + 1)), (by first | rfl | (simp; done) | (simp [*]; done)), (by first | rfl | (simp; done) | (simp [*]; done)), H', ⟨by have := HK1.out; omega⟩, ⟨by (with_reducible repeat (first | apply Kd.R_alloc | apply Kd.R_drewN | apply Kd.R_drew)); exact HO157.out⟩, ⟨by (with_reducible repeat (first | apply Kd.Q_alloc | apply Kd.Q_drewN | apply Kd.Q_drew)); exact Kd.Q_mono HO_8.out (fun _ hk => hk.2)⟩, HE, ⟨by repeat (first | (with_reducible first | exact HB.out | apply below_alloc | apply pw_below_drewN | apply below_drew1 | refine below_set ?_ GE148.out) | exact HB.out)⟩⟩
          ·rw [if_neg c18] at H
           exact absurd H (by simp)
         ·rw [if_neg c17] at H
          have c17b0 : (a0 == 1) = false := beq_eq_false_iff_ne.mpr c17
          have c17b1 : (a0 != 1) = true := bne_iff_ne.mpr c17
          by_cases c22 : (x8_1.length : Int) = 0
          ·rw [if_pos c22] at H
           have c22b0 : ((x8_1.length : Int) == 0) = true := beq_iff_eq.mpr c22
           have c22b1 : ((x8_1.length : Int) != 0) = false := bne_eq_false_iff_eq.mpr c22
           clear c22
           by_cases c23 : fdivOk 0 0 = false
           ·rw [if_pos c23] at H
            have CNAN_ := Aside0.mk c23
            clear c23
            by_cases c24 : x7_1.length < 17592186044416
            ·rw [if_pos c24] at H
             have LMc24 := Aside0.mk c24
             clear c24
             have H' := Aside0.mk H
             clear H
             have p146 : 0 ≤ (x17_1 : Int) := of_decide_eq_true (by first | (with_reducible assumption) | assumption)
             have q146 : x17_1 < (l2.length : Int) := of_decide_eq_true (by first | (with_reducible assumption) | assumption)
             obtain ⟨ad146, e146, hx146_0⟩ := Kd.at_int HR2.out x17_1 p146 q146
             cases e146
             try replace hx146_0 := (HB.out.cell (World.block_lt_of_cell? w _ hx146_0)).trans hx146_0
             replace p146 := eq_true p146
             replace q146 := eq_true q146
             have p147 : 0 ≤ ((rd l2 x17_1) : Int) := of_decide_eq_true (by first | (with_reducible assumption) | assumption)
             have q147 : (rd l2 x17_1) < (l1.length : Int) := of_decide_eq_true (by first | (with_reducible assumption) | assumption)
             obtain ⟨ad147, e147, hx147_0, hx147_1, hx147_2, hx147_3, hx147_4⟩ := at_T77 HR1.out (rd l2 x17_1) p147 q147
             (try rw [← Nbq9.out] at hx147_3)
             cases e147
             try replace hx147_0 := (HB.out.cell (World.block_lt_of_cell? w _ hx147_0)).trans hx147_0
             try replace hx147_1 := (HB.out.cell (World.block_lt_of_cell? w _ hx147_1)).trans hx147_1
             try replace hx147_2 := (HB.out.cell (World.block_lt_of_cell? w _ hx147_2)).trans hx147_2
             try replace hx147_3 := (HB.out.cell (World.block_lt_of_cell? w _ hx147_3)).trans hx147_3
             try replace hx147_4 := (HB.out.cell (World.block_lt_of_cell? w _ hx147_4)).trans hx147_4
             replace p147 := eq_true p147
             replace q147 := eq_true q147
             go_wp2_with (first | ((with_reducible refine gate_dst (N := 52) rfl ?_); refine quo_event (t := 55) (t' := 55) (x := .tmp 50) (y := .tmp 51) (p := 0) (q := 0) ?qg ?qo ?qx ?qy ?qn ?_; (case qg => rfl); (case qo => rfl); (case qx => rfl); (case qy => rfl); (case qn => exact CNAN_.out); intro nv_ hnv_; have HNV_ := Aside0.mk hnv_; clear hnv_; have m0_ := Aside0.mk (Kd.R_drew HO_7.out); have m1_ := Aside0.mk (Kd.Q_drew HO_8.out); have m2_ := Aside0.mk (below_drew1 HB.out); have m3_ := Aside0.mk (blk_drew BK148.out); clear HO_7 HO_8 HB BK148; have HO_7 := m0_; have HO_8 := m1_; have HB := m2_; have BK148 := m3_; clear m0_ m1_ m2_ m3_; simp only [drew_setCell]; generalize w25.drew = w25 at HO_7 HO_8 HB BK148 ⊢) | ((with_reducible refine gate_dst (N := 12) rfl ?_); refine box_event ?hg (N := 12) ?hd (cs := #[.int .i64 0, .int .i64 0, .int .i64 0, .bool false, .float .f64 0]) (t := 77) ?hr ?_; (case hd => rfl); (case hg => rfl); (case hr => first | (go_simp; done) | (go_simp; rfl)); intro gb148 hg w25 hbox hb; have n0_ := Aside0.mk (Kd.R_below (by (with_reducible repeat (first | apply Kd.R_alloc | apply Kd.R_drewN | apply Kd.R_drew)); exact HO_7.out) hb); have n1_ := Aside0.mk (Kd.Q_below (by (with_reducible repeat (first | apply Kd.Q_alloc | apply Kd.Q_drewN | apply Kd.Q_drew)); exact HO_8.out) hb); have n2_ := Aside0.mk (below_step (by repeat (first | (with_reducible first | exact HB.out | apply below_alloc | apply pw_below_drewN | apply below_drew1) | exact HB.out)) hb); have n3_ := Aside0.mk (hbox); have n4_ := Aside0.mk ((by rw [hg]; exact (below_size (by repeat (first | (with_reducible first | exact HB.out | apply below_alloc | apply pw_below_drewN | apply below_drew1) | exact HB.out))) : w.heap.size ≤ gb148)); have n5_ := Aside0.mk ((by rw [hg]; exact (below_size (by repeat (first | (with_reducible first | exact HB.out | apply below_alloc | apply pw_below_drewN | apply below_drew1) | exact HB.out))) : w.heap.size ≤ gb148)); clear HO_7; clear HO_8; clear HB; have HO_7 := n0_; have HO_8 := n1_; have HB := n2_; have BK148 := n3_; have GW148 := n4_; have GE148 := n5_; clear n0_ n1_ n2_ n3_ n4_ n5_; clear hb hbox hg; have hcz26_0 : w25.cell? ⟨gb148, 0, none⟩ = some (.int .i64 0) := (blk_cell BK148.out 0).trans rfl; have hcz26_1 : w25.cell? ⟨gb148, 1, none⟩ = some (.int .i64 0) := (blk_cell BK148.out 1).trans rfl; have hcz26_2 : w25.cell? ⟨gb148, 2, none⟩ = some (.int .i64 0) := (blk_cell BK148.out 2).trans rfl; have hcz26_3 : w25.cell? ⟨gb148, 3, none⟩ = some (.bool false) := (blk_cell BK148.out 3).trans rfl; have hcz26_4 : w25.cell? ⟨gb148, 4, none⟩ = some (.float .f64 0) := (blk_cell BK148.out 4).trans rfl; have hfz26_0 := blk_frozen BK148.out 0; have hfz26_1 := blk_frozen BK148.out 1; have hfz26_2 := blk_frozen BK148.out 2; have hfz26_3 := blk_frozen BK148.out 3; have hfz26_4 := blk_frozen BK148.out 4; obtain ⟨Ao27, co27, eo27, _⟩ := Kd.Q_slice HO_8.out; subst eo27) | ((with_reducible refine gate_builtin (b := .append) (xs := #[.tmp 53, .tmp 55]) rfl ?_); at_builtin; refine Kd.R_append Kd.float (w0 := w) w.heap.size rfl (.tmp 53) (.tmp 55) 25 55 (.float .f64 0) 8 rfl Try.underlying25 info55 rfl (by decide) (by omega) u7 x7_1 nv_ [.float .f64 nv_] (fun k_ => some k_ ≠ (.slice Ao27 x8_1.length co27 : Value).ownBlock) (fun _ => False) rfl (by first | (go_simp; done) | (go_simp; rfl)) ?aP (fun _ hk => hk.elim) ?aF ?aO ?aB ?aS ?aL ?_; (case aP => exact rfl); (case aB => exact (by repeat (first | (with_reducible first | exact HB.out | apply below_alloc | apply pw_below_drewN | apply below_drew1 | refine below_set ?_ GE148.out) | exact HB.out))); (case aF => exact (fun k_ hk => Kd.fresh' (Kd.Q_lt (by (with_reducible repeat (first | apply Kd.Q_alloc | apply Kd.Q_drewN | apply Kd.Q_drew)); exact (Kd.Q_mono (Kd.Q_far (p := ⟨gb148, 4, none⟩) (Kd.Q_far (p := ⟨gb148, 3, none⟩) (Kd.Q_far (p := ⟨gb148, 2, none⟩) (Kd.Q_far (p := ⟨gb148, 1, none⟩) (Kd.Q_far (p := ⟨gb148, 0, none⟩) (Kd.Q_types HO_8.out BK148.out (by decide)) (fun _ hk => hk.2) (.int .i64 ((rd_T77 l1 (rd l2 x17_1)).f0))) (fun _ hk => hk.2) (.int .i64 ((rd_T77 l1 (rd l2 x17_1)).f1))) (fun _ hk => hk.2) (.int .i64 ((rd_T77 l1 (rd l2 x17_1)).f2))) (fun _ hk => hk.2) (.bool false)) (fun _ hk => hk.2) (.float .f64 ((rd_T77 l1 (rd l2 x17_1)).f4))) (fun _ h_ => h_.1)))) k_ hk)); (case aO => exact (by (with_reducible repeat (first | apply Kd.R_alloc | apply Kd.R_drewN | apply Kd.R_drew)); exact Kd.R_mono (Kd.R_far (p := ⟨gb148, 4, none⟩) (Kd.R_far (p := ⟨gb148, 3, none⟩) (Kd.R_far (p := ⟨gb148, 2, none⟩) (Kd.R_far (p := ⟨gb148, 1, none⟩) (Kd.R_far (p := ⟨gb148, 0, none⟩) (Kd.R_types HO_7.out BK148.out (by decide)) (fun _ hk => hk.2) (.int .i64 ((rd_T77 l1 (rd l2 x17_1)).f0))) (fun _ hk => hk.2) (.int .i64 ((rd_T77 l1 (rd l2 x17_1)).f1))) (fun _ hk => hk.2) (.int .i64 ((rd_T77 l1 (rd l2 x17_1)).f2))) (fun _ hk => hk.2) (.bool false)) (fun _ hk => hk.2) (.float .f64 ((rd_T77 l1 (rd l2 x17_1)).f4))) (fun _ hk => hk.1))); (case aS => exact (below_size (by repeat (first | (with_reducible first | exact HB.out | apply below_alloc | apply pw_below_drewN | apply below_drew1 | refine below_set ?_ GE148.out) | exact HB.out)))); (case aL => have := LMc24.out; omega); intro v159 w28 ho hb hg hat; obtain ⟨y158, hy_⟩ : ∃ y_ : List Nat, y_ = (x7_1 ++ [nv_]) := ⟨_, rfl⟩; rw [← hy_] at ho; have Ny158 := Aside0.mk hy_; clear hy_; have n0_ := Aside0.mk (Kd.Q_after (ok := (fun _ => True)) (by (with_reducible repeat (first | apply Kd.Q_alloc | apply Kd.Q_drewN | apply Kd.Q_drew)); exact Kd.Q_mono (Kd.Q_far (p := ⟨gb148, 4, none⟩) (Kd.Q_far (p := ⟨gb148, 3, none⟩) (Kd.Q_far (p := ⟨gb148, 2, none⟩) (Kd.Q_far (p := ⟨gb148, 1, none⟩) (Kd.Q_far (p := ⟨gb148, 0, none⟩) (Kd.Q_types HO_8.out BK148.out (by decide)) (fun _ hk => hk.2) (.int .i64 ((rd_T77 l1 (rd l2 x17_1)).f0))) (fun _ hk => hk.2) (.int .i64 ((rd_T77 l1 (rd l2 x17_1)).f1))) (fun _ hk => hk.2) (.int .i64 ((rd_T77 l1 (rd l2 x17_1)).f2))) (fun _ hk => hk.2) (.bool false)) (fun _ hk => hk.2) (.float .f64 ((rd_T77 l1 (rd l2 x17_1)).f4))) (fun _ hk => ⟨trivial, hk.1⟩)) hg hat); have n1_ := Aside0.mk (blk_grown (g := gb148) (o := .cells #[.int .i64 ((rd_T77 l1 (rd l2 x17_1)).f0), .int .i64 ((rd_T77 l1 (rd l2 x17_1)).f1), .int .i64 ((rd_T77 l1 (rd l2 x17_1)).f2), .bool false, .float .f64 ((rd_T77 l1 (rd l2 x17_1)).f4)] 77 (0, 0)) (by (with_reducible repeat (first | refine blk_drewN ?_ _ | refine blk_drew ?_ | refine blk_alloc ?_ _)); refine blk_put (cs := #[.int .i64 ((rd_T77 l1 (rd l2 x17_1)).f0), .int .i64 ((rd_T77 l1 (rd l2 x17_1)).f1), .int .i64 ((rd_T77 l1 (rd l2 x17_1)).f2), .bool false, .float .f64 0]) ?_ 4 _ rfl; (with_reducible repeat (first | refine blk_drewN ?_ _ | refine blk_drew ?_ | refine blk_alloc ?_ _)); refine blk_put (cs := #[.int .i64 ((rd_T77 l1 (rd l2 x17_1)).f0), .int .i64 ((rd_T77 l1 (rd l2 x17_1)).f1), .int .i64 ((rd_T77 l1 (rd l2 x17_1)).f2), .bool false, .float .f64 0]) ?_ 3 _ rfl; (with_reducible repeat (first | refine blk_drewN ?_ _ | refine blk_drew ?_ | refine blk_alloc ?_ _)); refine blk_put (cs := #[.int .i64 ((rd_T77 l1 (rd l2 x17_1)).f0), .int .i64 ((rd_T77 l1 (rd l2 x17_1)).f1), .int .i64 0, .bool false, .float .f64 0]) ?_ 2 _ rfl; (with_reducible repeat (first | refine blk_drewN ?_ _ | refine blk_drew ?_ | refine blk_alloc ?_ _)); refine blk_put (cs := #[.int .i64 ((rd_T77 l1 (rd l2 x17_1)).f0), .int .i64 0, .int .i64 0, .bool false, .float .f64 0]) ?_ 1 _ rfl; (with_reducible repeat (first | refine blk_drewN ?_ _ | refine blk_drew ?_ | refine blk_alloc ?_ _)); refine blk_put (cs := #[.int .i64 0, .int .i64 0, .int .i64 0, .bool false, .float .f64 0]) ?_ 0 _ rfl; (with_reducible repeat (first | refine blk_drewN ?_ _ | refine blk_drew ?_ | refine blk_alloc ?_ _)); exact BK148.out) hg (Kd.R_ne HO_7.out BK148.out (by decide))); have n2_ := Aside0.mk (hb); have n3_ := Aside0.mk (ho); clear HO_8; clear BK148; clear HB; clear HO_7; have HO_8 := n0_; have BK148 := n1_; have HB := n2_; have HO160 := n3_; clear n0_ n1_ n2_ n3_; clear ho hb hg hat))
             go_roundg k1
             case measure => have := HK1.out; omega
             case rel => (obtain ⟨r2_, hr2_, he2_⟩ := spec_l16Play.same k1 ((eqvL.refl x7_1).snoc (.inr ⟨HNV_.out, nan_canon⟩)) H'.out; exact ⟨r2_, (y158), (x8_1), (x9_1), (wrap64 (x17_1 + 1)), (by first | rfl | (simp; done) | (simp [*]; done)), (by first | rfl | (simp; done) | (simp [*]; done)), ⟨by rw [Ny158.out]; exact hr2_⟩, ⟨by have := HK1.out; omega⟩, ⟨by (with_reducible repeat (first | apply Kd.R_alloc | apply Kd.R_drewN | apply Kd.R_drew)); exact HO160.out⟩, ⟨by (with_reducible repeat (first | apply Kd.Q_alloc | apply Kd.Q_drewN | apply Kd.Q_drew)); exact Kd.Q_mono HO_8.out (fun _ hk => hk.2)⟩, ⟨eqvL.trans he2_ HE.out⟩, ⟨by repeat (first | (with_reducible first | exact HB.out | apply below_alloc | apply pw_below_drewN | apply below_drew1 | refine below_set ?_ GE148.out) | exact HB.out)⟩⟩)
            ·rw [if_neg c24] at H
             exact absurd H (by simp)
           ·rw [if_neg c23] at H
            exact absurd H (by simp)
          ·rw [if_neg c22] at H
           have c22b0 : ((x8_1.length : Int) == 0) = false := beq_eq_false_iff_ne.mpr c22
           have c22b1 : ((x8_1.length : Int) != 0) = true := bne_iff_ne.mpr c22
           have c22b2 : ¬ (x8_1 = []) := fun h_ => c22 (by rw [h_]; rfl)
           by_cases c29 : 0 < (x8_1.length : Int)
           ·rw [if_pos c29] at H
            have c29b0 : decide (0 < (x8_1.length : Int)) = true := decide_eq_true c29
            have c29b1 : decide (0 < x8_1.length) = true := decide_eq_true (by omega)
            clear c29
            by_cases c30 : 1 ≤ (x8_1.length : Int)
            ·rw [if_pos c30] at H
             have c30b0 := eq_true c30
             have c30b1 : decide (1 ≤ (x8_1.length : Int)) = true := decide_eq_true c30
             clear c30
             obtain ⟨y162, hy162⟩ : ∃ y_ : List Nat, y_ = (x8_1.drop (1 : Int).toNat) := ⟨_, rfl⟩
             replace H : (if x7_1.length < 17592186044416 then (spec_l16Play.l0 k1 a0 l1 (x7_1 ++ [rdOf (0 : Nat) x8_1 0]) y162 x9_1 l2 (l2.length : Int) (wrap64 (x17_1 + 1))) else (none)) = some r1_ := by first | (rw [hy162]; with_reducible exact H) | (have H2_ := (Option.bind_some _ _).symm.trans H; rw [hy162]; with_reducible exact H2_) | (have H2_ := (Option.bind_some _ _).symm.trans H; with_reducible exact H2_) | with_reducible exact H | (rw [hy162]; exact H) | exact H
             have Ny162 := Aside0.mk hy162
             clear hy162
             by_cases c31 : x7_1.length < 17592186044416
             ·rw [if_pos c31] at H
              have LMc31 := Aside0.mk c31
              clear c31
              obtain ⟨y165, hy165⟩ : ∃ y_ : List Nat, y_ = (x7_1 ++ [rdOf (0 : Nat) x8_1 0]) := ⟨_, rfl⟩
              replace H : (spec_l16Play.l0 k1 a0 l1 y165 y162 x9_1 l2 (l2.length : Int) (wrap64 (x17_1 + 1))) = some r1_ := by first | (rw [hy165]; with_reducible exact H) | (have H2_ := (Option.bind_some _ _).symm.trans H; rw [hy165]; with_reducible exact H2_) | (have H2_ := (Option.bind_some _ _).symm.trans H; with_reducible exact H2_) | with_reducible exact H | (rw [hy165]; exact H) | exact H
              have Ny165 := Aside0.mk hy165
              clear hy165
              have H' := Aside0.mk H
              clear H
              have p146 : 0 ≤ (x17_1 : Int) := of_decide_eq_true (by first | (with_reducible assumption) | assumption)
              have q146 : x17_1 < (l2.length : Int) := of_decide_eq_true (by first | (with_reducible assumption) | assumption)
              obtain ⟨ad146, e146, hx146_0⟩ := Kd.at_int HR2.out x17_1 p146 q146
              cases e146
              try replace hx146_0 := (HB.out.cell (World.block_lt_of_cell? w _ hx146_0)).trans hx146_0
              replace p146 := eq_true p146
              replace q146 := eq_true q146
              have p147 : 0 ≤ ((rd l2 x17_1) : Int) := of_decide_eq_true (by first | (with_reducible assumption) | assumption)
              have q147 : (rd l2 x17_1) < (l1.length : Int) := of_decide_eq_true (by first | (with_reducible assumption) | assumption)
              obtain ⟨ad147, e147, hx147_0, hx147_1, hx147_2, hx147_3, hx147_4⟩ := at_T77 HR1.out (rd l2 x17_1) p147 q147
              (try rw [← Nbq9.out] at hx147_3)
              cases e147
              try replace hx147_0 := (HB.out.cell (World.block_lt_of_cell? w _ hx147_0)).trans hx147_0
              try replace hx147_1 := (HB.out.cell (World.block_lt_of_cell? w _ hx147_1)).trans hx147_1
              try replace hx147_2 := (HB.out.cell (World.block_lt_of_cell? w _ hx147_2)).trans hx147_2
              try replace hx147_3 := (HB.out.cell (World.block_lt_of_cell? w _ hx147_3)).trans hx147_3
              try replace hx147_4 := (HB.out.cell (World.block_lt_of_cell? w _ hx147_4)).trans hx147_4
              replace p147 := eq_true p147
              replace q147 := eq_true q147
              go_wp2_with (first | ((with_reducible refine gate_dst (N := 12) rfl ?_); refine box_event ?hg (N := 12) ?hd (cs := #[.int .i64 0, .int .i64 0, .int .i64 0, .bool false, .float .f64 0]) (t := 77) ?hr ?_; (case hd => rfl); (case hg => rfl); (case hr => first | (go_simp; done) | (go_simp; rfl)); intro gb148 hg w32 hbox hb; have n0_ := Aside0.mk (Kd.R_below (by (with_reducible repeat (first | apply Kd.R_alloc | apply Kd.R_drewN | apply Kd.R_drew)); exact HO_7.out) hb); have n1_ := Aside0.mk (Kd.Q_below (by (with_reducible repeat (first | apply Kd.Q_alloc | apply Kd.Q_drewN | apply Kd.Q_drew)); exact HO_8.out) hb); have n2_ := Aside0.mk (below_step (by repeat (first | (with_reducible first | exact HB.out | apply below_alloc | apply pw_below_drewN | apply below_drew1) | exact HB.out)) hb); have n3_ := Aside0.mk (hbox); have n4_ := Aside0.mk ((by rw [hg]; exact (below_size (by repeat (first | (with_reducible first | exact HB.out | apply below_alloc | apply pw_below_drewN | apply below_drew1) | exact HB.out))) : w.heap.size ≤ gb148)); have n5_ := Aside0.mk ((by rw [hg]; exact (below_size (by repeat (first | (with_reducible first | exact HB.out | apply below_alloc | apply pw_below_drewN | apply below_drew1) | exact HB.out))) : w.heap.size ≤ gb148)); clear HO_7; clear HO_8; clear HB; have HO_7 := n0_; have HO_8 := n1_; have HB := n2_; have BK148 := n3_; have GW148 := n4_; have GE148 := n5_; clear n0_ n1_ n2_ n3_ n4_ n5_; clear hb hbox hg; have hcz33_0 : w32.cell? ⟨gb148, 0, none⟩ = some (.int .i64 0) := (blk_cell BK148.out 0).trans rfl; have hcz33_1 : w32.cell? ⟨gb148, 1, none⟩ = some (.int .i64 0) := (blk_cell BK148.out 1).trans rfl; have hcz33_2 : w32.cell? ⟨gb148, 2, none⟩ = some (.int .i64 0) := (blk_cell BK148.out 2).trans rfl; have hcz33_3 : w32.cell? ⟨gb148, 3, none⟩ = some (.bool false) := (blk_cell BK148.out 3).trans rfl; have hcz33_4 : w32.cell? ⟨gb148, 4, none⟩ = some (.float .f64 0) := (blk_cell BK148.out 4).trans rfl; have hfz33_0 := blk_frozen BK148.out 0; have hfz33_1 := blk_frozen BK148.out 1; have hfz33_2 := blk_frozen BK148.out 2; have hfz33_3 := blk_frozen BK148.out 3; have hfz33_4 := blk_frozen BK148.out 4) | ((with_reducible refine gate_store (t := 77) (p := 12) rfl ?_); refine store_event (t := 77) (p := 12) (v := ?vo_w34) (w1 := (((((w32.setCell ⟨gb148, 0, none⟩ (.int .i64 ((rd_T77 l1 (rd l2 x17_1)).f0))).setCell ⟨gb148, 1, none⟩ (.int .i64 ((rd_T77 l1 (rd l2 x17_1)).f1))).setCell ⟨gb148, 2, none⟩ (.int .i64 ((rd_T77 l1 (rd l2 x17_1)).f2))).setCell ⟨gb148, 3, none⟩ (.bool false)).setCell ⟨gb148, 4, none⟩ (.float .f64 ((rd_T77 l1 (rd l2 x17_1)).f4)))) ?hg ?ho ?hn ?hr ?_; (case ho => rfl); (case hg => rfl); (case hn => rfl); (case hr => first | (go_simp; done) | (go_simp; rfl)); intro w34 hw; have n0_ : Aside0 (Kd.R Kd.float 55 w34 w.heap.size (fun k_ => some k_ ≠ (u8 : Value).ownBlock) u7 x7_1) := ⟨(by rw [hw]; exact (by (with_reducible repeat (first | apply Kd.R_alloc | apply Kd.R_drewN | apply Kd.R_drew)); exact Kd.R_mono (Kd.R_far (p := ⟨gb148, 4, none⟩) (Kd.R_far (p := ⟨gb148, 3, none⟩) (Kd.R_far (p := ⟨gb148, 2, none⟩) (Kd.R_far (p := ⟨gb148, 1, none⟩) (Kd.R_far (p := ⟨gb148, 0, none⟩) (Kd.R_types HO_7.out BK148.out (by decide)) (fun _ hk => hk.2) (.int .i64 ((rd_T77 l1 (rd l2 x17_1)).f0))) (fun _ hk => hk.2) (.int .i64 ((rd_T77 l1 (rd l2 x17_1)).f1))) (fun _ hk => hk.2) (.int .i64 ((rd_T77 l1 (rd l2 x17_1)).f2))) (fun _ hk => hk.2) (.bool false)) (fun _ hk => hk.2) (.float .f64 ((rd_T77 l1 (rd l2 x17_1)).f4))) (fun _ hk => hk.1)))⟩; have n1_ : Aside0 (Kd.Q Kd.float 55 w34 w.heap.size (fun k_ => some k_ ≠ (u7 : Value).ownBlock) u8 x8_1) := ⟨(by rw [hw]; exact (by (with_reducible repeat (first | apply Kd.Q_alloc | apply Kd.Q_drewN | apply Kd.Q_drew)); exact Kd.Q_mono (Kd.Q_far (p := ⟨gb148, 4, none⟩) (Kd.Q_far (p := ⟨gb148, 3, none⟩) (Kd.Q_far (p := ⟨gb148, 2, none⟩) (Kd.Q_far (p := ⟨gb148, 1, none⟩) (Kd.Q_far (p := ⟨gb148, 0, none⟩) (Kd.Q_types HO_8.out BK148.out (by decide)) (fun _ hk => hk.2) (.int .i64 ((rd_T77 l1 (rd l2 x17_1)).f0))) (fun _ hk => hk.2) (.int .i64 ((rd_T77 l1 (rd l2 x17_1)).f1))) (fun _ hk => hk.2) (.int .i64 ((rd_T77 l1 (rd l2 x17_1)).f2))) (fun _ hk => hk.2) (.bool false)) (fun _ hk => hk.2) (.float .f64 ((rd_T77 l1 (rd l2 x17_1)).f4))) (fun _ hk => hk.1)))⟩; have n2_ : Aside0 (w34.heap[gb148]? = some (.cells #[.int .i64 ((rd_T77 l1 (rd l2 x17_1)).f0), .int .i64 ((rd_T77 l1 (rd l2 x17_1)).f1), .int .i64 ((rd_T77 l1 (rd l2 x17_1)).f2), .bool false, .float .f64 ((rd_T77 l1 (rd l2 x17_1)).f4)] 77 (0, 0))) := ⟨(by rw [hw]; exact (by (with_reducible repeat (first | refine blk_drewN ?_ _ | refine blk_drew ?_ | refine blk_alloc ?_ _)); refine blk_put (cs := #[.int .i64 ((rd_T77 l1 (rd l2 x17_1)).f0), .int .i64 ((rd_T77 l1 (rd l2 x17_1)).f1), .int .i64 ((rd_T77 l1 (rd l2 x17_1)).f2), .bool false, .float .f64 0]) ?_ 4 _ rfl; (with_reducible repeat (first | refine blk_drewN ?_ _ | refine blk_drew ?_ | refine blk_alloc ?_ _)); refine blk_put (cs := #[.int .i64 ((rd_T77 l1 (rd l2 x17_1)).f0), .int .i64 ((rd_T77 l1 (rd l2 x17_1)).f1), .int .i64 ((rd_T77 l1 (rd l2 x17_1)).f2), .bool false, .float .f64 0]) ?_ 3 _ rfl; (with_reducible repeat (first | refine blk_drewN ?_ _ | refine blk_drew ?_ | refine blk_alloc ?_ _)); refine blk_put (cs := #[.int .i64 ((rd_T77 l1 (rd l2 x17_1)).f0), .int .i64 ((rd_T77 l1 (rd l2 x17_1)).f1), .int .i64 0, .bool false, .float .f64 0]) ?_ 2 _ rfl; (with_reducible repeat (first | refine blk_drewN ?_ _ | refine blk_drew ?_ | refine blk_alloc ?_ _)); refine blk_put (cs := #[.int .i64 ((rd_T77 l1 (rd l2 x17_1)).f0), .int .i64 0, .int .i64 0, .bool false, .float .f64 0]) ?_ 1 _ rfl; (with_reducible repeat (first | refine blk_drewN ?_ _ | refine blk_drew ?_ | refine blk_alloc ?_ _)); refine blk_put (cs := #[.int .i64 0, .int .i64 0, .int .i64 0, .bool false, .float .f64 0]) ?_ 0 _ rfl; (with_reducible repeat (first | refine blk_drewN ?_ _ | refine blk_drew ?_ | refine blk_alloc ?_ _)); exact BK148.out))⟩; have n3_ : Aside0 (Below w.heap.size w w34) := ⟨(by rw [hw]; exact (by repeat (first | (with_reducible first | exact HB.out | apply below_alloc | apply pw_below_drewN | apply below_drew1 | refine below_set ?_ GE148.out) | exact HB.out)))⟩; clear hw; clear HO_7; clear HO_8; clear BK148; clear HB; have HO_7 := n0_; have HO_8 := n1_; have BK148 := n2_; have HB := n3_; clear n0_ n1_ n2_ n3_; have hcz35_0 : w34.cell? ⟨gb148, 0, none⟩ = some (.int .i64 ((rd_T77 l1 (rd l2 x17_1)).f0)) := (blk_cell BK148.out 0).trans rfl; have hcz35_1 : w34.cell? ⟨gb148, 1, none⟩ = some (.int .i64 ((rd_T77 l1 (rd l2 x17_1)).f1)) := (blk_cell BK148.out 1).trans rfl; have hcz35_2 : w34.cell? ⟨gb148, 2, none⟩ = some (.int .i64 ((rd_T77 l1 (rd l2 x17_1)).f2)) := (blk_cell BK148.out 2).trans rfl; have hcz35_3 : w34.cell? ⟨gb148, 3, none⟩ = some (.bool false) := (blk_cell BK148.out 3).trans rfl; have hcz35_4 : w34.cell? ⟨gb148, 4, none⟩ = some (.float .f64 ((rd_T77 l1 (rd l2 x17_1)).f4)) := (blk_cell BK148.out 4).trans rfl; have hfz35_0 := blk_frozen BK148.out 0; have hfz35_1 := blk_frozen BK148.out 1; have hfz35_2 := blk_frozen BK148.out 2; have hfz35_3 := blk_frozen BK148.out 3; have hfz35_4 := blk_frozen BK148.out 4; obtain ⟨Ao36, co36, eo36, _⟩ := Kd.Q_slice HO_8.out; subst eo36; have p161 : 0 ≤ (0 : Int) := (by omega); have q161 : 0 < (x8_1.length : Int) := of_decide_eq_true (by first | (with_reducible assumption) | assumption); obtain ⟨ad161, e161, hx161_0⟩ := Kd.at_float (Kd.Q_reads' HO_8.out).2.2 0 p161 q161; cases e161; have qi161 : (0 < x8_1.length) = True := eq_true (by omega); (try rw [show ((0 : Int)).toNat = 0 from rfl] at hx161_0); (try rw [Addr.add_zero'] at hx161_0); replace p161 := eq_true p161; replace q161 := eq_true q161; have q37 : (1 : Int) ≤ ((x8_1.length : Int) : Int) := of_decide_eq_true (by first | (with_reducible assumption) | assumption); obtain ⟨i037, hi037, _, hsz37, _⟩ := info_parts info55; have hcut37 := cut_from (P := Try.prog) 25 55 .i64 Try.underlying25 hi037 1 hsz37 (some ad161) x8_1.length co36 1 (by omega) q37; have hr37 := Kd.Q_drop (k := (1 : Int).toNat) HO_8.out (by omega); obtain ⟨A37, hA37⟩ : ∃ A1, A1 = (if co36 = (1 : Int).toNat then (some ad161) else ((some ad161) : Option Addr).map (·.add ((1 : Int).toNat * 1))) := ⟨_, rfl⟩; obtain ⟨c37, hc37⟩ : ∃ c1, c1 = co36 - (1 : Int).toNat := ⟨_, rfl⟩; have hy37 : y162.length = x8_1.length - (1 : Int).toNat := (by rw [Ny162.out, List.length_drop]); rw [← Ny162.out] at hr37; rw [← hy37, ← hA37, ← hc37] at hcut37; replace hr37 : Kd.Q Kd.float 55 w34 w.heap.size (fun k_ => some k_ ≠ (u7 : Value).ownBlock) (.slice A37 y162.length c37) y162 := (by rw [hA37, hc37, hy37]; exact hr37); have HE37 : Aside0 ((Value.slice A37 y162.length c37).ownBlock = (.slice (some ad161) x8_1.length co36 : Value).ownBlock) := ⟨by rw [hA37]; split <;> (cases ((some ad161) : Option Addr) <;> rfl)⟩; clear hy37 hi037 hsz37 HO_8 hA37 hc37; have HO164 := Aside0.mk hr37; clear hr37; replace q37 := eq_true q37; have n_ := Aside0.mk (Kd.R_mono (ok' := fun k_ => some k_ ≠ (.slice A37 y162.length c37 : Value).ownBlock) HO_7.out (fun k_ hk => (by rw [HE37.out]; exact hk))); clear HO_7; have HO_7 := n_; clear n_) | ((with_reducible refine gate_builtin (b := .append) (xs := #[.tmp 53, .tmp 55]) rfl ?_); at_builtin; refine Kd.R_append Kd.float (w0 := w) w.heap.size rfl (.tmp 53) (.tmp 55) 25 55 (.float .f64 0) 8 rfl Try.underlying25 info55 rfl (by decide) (by omega) u7 x7_1 (rdOf (0 : Nat) x8_1 0) [.float .f64 (rdOf (0 : Nat) x8_1 0)] (fun k_ => some k_ ≠ (.slice A37 y162.length c37 : Value).ownBlock) (fun _ => False) rfl rfl ?aP (fun _ hk => hk.elim) ?aF ?aO ?aB ?aS ?aL ?_; (case aP => exact rfl); (case aB => exact (by repeat (first | (with_reducible first | exact HB.out | apply below_alloc | apply pw_below_drewN | apply below_drew1 | refine below_set ?_ GE148.out) | exact HB.out))); (case aF => exact (fun k_ hk => Kd.fresh' (Kd.Q_lt (by (with_reducible repeat (first | apply Kd.Q_alloc | apply Kd.Q_drewN | apply Kd.Q_drew)); exact HO164.out)) k_ hk)); (case aO => exact (by (with_reducible repeat (first | apply Kd.R_alloc | apply Kd.R_drewN | apply Kd.R_drew)); exact HO_7.out)); (case aS => exact (below_size (by repeat (first | (with_reducible first | exact HB.out | apply below_alloc | apply pw_below_drewN | apply below_drew1 | refine below_set ?_ GE148.out) | exact HB.out)))); (case aL => have := LMc31.out; omega); intro v166 w38 ho hb hg hat; rw [← Ny165.out] at ho; have n0_ := Aside0.mk (Kd.Q_after (ok := (fun _ => True)) (by (with_reducible repeat (first | apply Kd.Q_alloc | apply Kd.Q_drewN | apply Kd.Q_drew)); exact Kd.Q_mono HO164.out (fun _ hk => ⟨trivial, hk⟩)) hg hat); have n1_ := Aside0.mk (blk_grown (g := gb148) (o := .cells #[.int .i64 ((rd_T77 l1 (rd l2 x17_1)).f0), .int .i64 ((rd_T77 l1 (rd l2 x17_1)).f1), .int .i64 ((rd_T77 l1 (rd l2 x17_1)).f2), .bool false, .float .f64 ((rd_T77 l1 (rd l2 x17_1)).f4)] 77 (0, 0)) (by (with_reducible repeat (first | refine blk_drewN ?_ _ | refine blk_drew ?_ | refine blk_alloc ?_ _)); exact BK148.out) hg (Kd.R_ne HO_7.out BK148.out (by decide))); have n2_ := Aside0.mk (hb); have n3_ := Aside0.mk (ho); clear HO164; clear BK148; clear HB; clear HO_7; have HO164 := n0_; have BK148 := n1_; have HB := n2_; have HO167 := n3_; clear n0_ n1_ n2_ n3_; clear ho hb hg hat))
              go_roundg k1
              case measure => have := HK1.out; omega
              case rel => exact ⟨r1_, (y165), (y162), (x9_1), (wrap64 (x17_1 + 1)), (by first | rfl | (simp; done) | (simp [*]; done)), (by first | rfl | (simp; done) | (simp [*]; done)), H', ⟨by have := HK1.out; omega⟩, ⟨by (with_reducible repeat (first | apply Kd.R_alloc | apply Kd.R_drewN | apply Kd.R_drew)); exact HO167.out⟩, ⟨by (with_reducible repeat (first | apply Kd.Q_alloc | apply Kd.Q_drewN | apply Kd.Q_drew)); exact Kd.Q_mono HO164.out (fun _ hk => hk.2)⟩, HE, ⟨by repeat (first | (with_reducible first | exact HB.out | apply below_alloc | apply pw_below_drewN | apply below_drew1 | refine below_set ?_ GE148.out) | exact HB.out)⟩⟩
             ·rw [if_neg c31] at H
              exact absurd H (by simp)
            ·rw [if_neg c30] at H
             exact absurd H (by simp)
           ·rw [if_neg c29] at H
            exact absurd H (by simp)
       ·rw [if_neg c8] at H
        exact absurd H (by simp)
      ·rw [if_neg c7] at H
       exact absurd H (by simp)
     ·rw [if_neg c6] at H
      exact absurd H (by simp)
    ·rw [if_neg c5] at H
     exact absurd H (by simp)
   ·rw [if_neg c4] at H
    have c4b0 : decide (x17_1 < (l2.length : Int)) = false := decide_eq_false c4
    clear c4
    obtain rfl := Option.some.inj H
    go_wp2
    go_ret
    exact ⟨_, by first | rfl | (simp [errW_none, errW_some] <;> rfl) | (simp [*, errW_none, errW_some] <;> rfl), _, HE.out, by (with_reducible repeat (first | apply Kd.R_alloc | apply Kd.R_drewN | apply Kd.R_drew)); exact Kd.R_mono HO_7.out (fun _ hk => trivial), by repeat (first | (with_reducible first | exact HB.out | apply below_alloc | apply pw_below_drewN | apply below_drew1) | exact HB.out)⟩

/-! ### spec_l16Ahead: function 83 -/
def spec_l16Ahead.f (a0_0 : Int) (a0_1 : Int) (a0_2 : Int) (a0_3 : Bool) (a0_4 : Nat) (a1_0 : Int) (a1_1 : Int) (a1_2 : Int) (a1_3 : Bool) (a1_4 : Nat) : Option (Bool) := some (decide (a0_2 < a1_1))
set_option maxHeartbeats 8000000 in
set_option maxRecDepth 100000 in
theorem spec_l16Ahead.calls (a0_0 : Int) (a0_1 : Int) (a0_2 : Int) (a0_3 : Bool) (a0_4 : Nat) (a1_0 : Int) (a1_1 : Int) (a1_2 : Int) (a1_3 : Bool) (a1_4 : Nat) (r : Bool) (w : World) (h : spec_l16Ahead.f a0_0 a0_1 a0_2 a0_3 a0_4 a1_0 a1_1 a1_2 a1_3 a1_4 = some r) :
  Calls Try.prog 83 #[.agg #[.int .i64 a0_0, .int .i64 a0_1, .int .i64 a0_2, .bool a0_3, .float .f64 a0_4], .agg #[.int .i64 a1_0, .int .i64 a1_1, .int .i64 a1_2, .bool a1_3, .float .f64 a1_4]] w fun e w' => e = .returned (.bool r) ∧ Below w.heap.size w w' := by
 have hu77 := Try.underlying77
 have HB := Aside0.mk (Below.refl w.heap.size w)
 have H : (some (decide (a0_2 < a1_1))) = some r := h
 clear h
 obtain rfl := Option.some.inj H
 go_enter Try.func83, Try.ntmps83
 go_wp2_with (first | ((with_reducible refine gate_dst (N := 2) rfl ?_); refine box_event ?hg (N := 2) ?hd (cs := #[.int .i64 a0_0, .int .i64 a0_1, .int .i64 a0_2, .bool a0_3, .float .f64 a0_4]) (t := 77) ?hr ?_; (case hd => rfl); (case hg => rfl); (case hr => first | (go_simp; done) | (go_simp; rfl)); intro gb168 hg w3 hbox hb; have n0_ := Aside0.mk (below_step (by repeat (first | (with_reducible first | exact HB.out | apply below_alloc | apply pw_below_drewN | apply below_drew1) | exact HB.out)) hb); have n1_ := Aside0.mk (hbox); have n2_ := Aside0.mk ((by rw [hg]; exact (below_size (by repeat (first | (with_reducible first | exact HB.out | apply below_alloc | apply pw_below_drewN | apply below_drew1) | exact HB.out))) : w.heap.size ≤ gb168)); have n3_ := Aside0.mk ((by rw [hg]; exact (below_size (by repeat (first | (with_reducible first | exact HB.out | apply below_alloc | apply pw_below_drewN | apply below_drew1) | exact HB.out))) : w.heap.size ≤ gb168)); clear HB; have HB := n0_; have BK168 := n1_; have GW168 := n2_; have GE168 := n3_; clear n0_ n1_ n2_ n3_; clear hb hbox hg) | ((with_reducible refine gate_dst (N := 3) rfl ?_); refine box_event ?hg (N := 3) ?hd (cs := #[.int .i64 a1_0, .int .i64 a1_1, .int .i64 a1_2, .bool a1_3, .float .f64 a1_4]) (t := 77) ?hr ?_; (case hd => rfl); (case hg => rfl); (case hr => first | (go_simp; done) | (go_simp; rfl)); intro gb169 hg w4 hbox hb; have n0_ := Aside0.mk (blk_below (g := gb168) (o := .cells #[.int .i64 a0_0, .int .i64 a0_1, .int .i64 a0_2, .bool a0_3, .float .f64 a0_4] 77 (0, 0)) (by (with_reducible repeat (first | refine blk_drewN ?_ _ | refine blk_drew ?_ | refine blk_alloc ?_ _)); exact BK168.out) hb); have n1_ := Aside0.mk (below_step (by repeat (first | (with_reducible first | exact HB.out | apply below_alloc | apply pw_below_drewN | apply below_drew1 | refine below_set ?_ GE168.out) | exact HB.out)) hb); have n2_ := Aside0.mk (hbox); have n3_ := Aside0.mk ((by rw [hg]; exact (below_size (by repeat (first | (with_reducible first | exact HB.out | apply below_alloc | apply pw_below_drewN | apply below_drew1 | refine below_set ?_ GE168.out) | exact HB.out))) : w.heap.size ≤ gb169)); have n4_ := Aside0.mk ((by rw [hg]; exact (below_size (by repeat (first | (with_reducible first | exact HB.out | apply below_alloc | apply pw_below_drewN | apply below_drew1 | refine below_set ?_ GE168.out) | exact HB.out))) : w.heap.size ≤ gb169)); have n5_ := Aside0.mk ((by rw [hg]; exact Nat.ne_of_lt (blk_lt (g := gb168) (o := .cells #[.int .i64 a0_0, .int .i64 a0_1, .int .i64 a0_2, .bool a0_3, .float .f64 a0_4] 77 (0, 0)) (by (with_reducible repeat (first | refine blk_drewN ?_ _ | refine blk_drew ?_ | refine blk_alloc ?_ _)); exact BK168.out)) : gb168 ≠ gb169)); have n6_ := Aside0.mk ((by rw [hg]; exact Nat.ne_of_gt (blk_lt (g := gb168) (o := .cells #[.int .i64 a0_0, .int .i64 a0_1, .int .i64 a0_2, .bool a0_3, .float .f64 a0_4] 77 (0, 0)) (by (with_reducible repeat (first | refine blk_drewN ?_ _ | refine blk_drew ?_ | refine blk_alloc ?_ _)); exact BK168.out)) : gb169 ≠ gb168)); clear BK168; clear HB; have BK168 := n0_; have HB := n1_; have BK169 := n2_; have GW169 := n3_; have GE169 := n4_; have NB168_169 := n5_; have NB169_168 := n6_; clear n0_ n1_ n2_ n3_ n4_ n5_ n6_; clear hb hbox hg; have hnb5 := NB168_169.out; have hnc5 := NB169_168.out; have hcz6_0 : w4.cell? ⟨gb168, 0, none⟩ = some (.int .i64 a0_0) := (blk_cell BK168.out 0).trans rfl; have hcz6_1 : w4.cell? ⟨gb168, 1, none⟩ = some (.int .i64 a0_1) := (blk_cell BK168.out 1).trans rfl; have hcz6_2 : w4.cell? ⟨gb168, 2, none⟩ = some (.int .i64 a0_2) := (blk_cell BK168.out 2).trans rfl; have hcz6_3 : w4.cell? ⟨gb168, 3, none⟩ = some (.bool a0_3) := (blk_cell BK168.out 3).trans rfl; have hcz6_4 : w4.cell? ⟨gb168, 4, none⟩ = some (.float .f64 a0_4) := (blk_cell BK168.out 4).trans rfl; have hfz6_0 := blk_frozen BK168.out 0; have hfz6_1 := blk_frozen BK168.out 1; have hfz6_2 := blk_frozen BK168.out 2; have hfz6_3 := blk_frozen BK168.out 3; have hfz6_4 := blk_frozen BK168.out 4; have hcz7_0 : w4.cell? ⟨gb169, 0, none⟩ = some (.int .i64 a1_0) := (blk_cell BK169.out 0).trans rfl; have hcz7_1 : w4.cell? ⟨gb169, 1, none⟩ = some (.int .i64 a1_1) := (blk_cell BK169.out 1).trans rfl; have hcz7_2 : w4.cell? ⟨gb169, 2, none⟩ = some (.int .i64 a1_2) := (blk_cell BK169.out 2).trans rfl; have hcz7_3 : w4.cell? ⟨gb169, 3, none⟩ = some (.bool a1_3) := (blk_cell BK169.out 3).trans rfl; have hcz7_4 : w4.cell? ⟨gb169, 4, none⟩ = some (.float .f64 a1_4) := (blk_cell BK169.out 4).trans rfl; have hfz7_0 := blk_frozen BK169.out 0; have hfz7_1 := blk_frozen BK169.out 1; have hfz7_2 := blk_frozen BK169.out 2; have hfz7_3 := blk_frozen BK169.out 3; have hfz7_4 := blk_frozen BK169.out 4))
 go_ret
 exact ⟨by first | rfl | (simp [errW_none, errW_some] <;> rfl) | (simp [*, errW_none, errW_some] <;> rfl), by repeat (first | (with_reducible first | exact HB.out | apply below_alloc | apply pw_below_drewN | apply below_drew1 | refine below_set ?_ GE168.out | refine below_set ?_ GE169.out) | exact HB.out)⟩

/-! ### spec_IsMinus: function 51 -/
def spec_IsMinus.f (a0 : Nat) : Option (Bool) := if flt a0 0 = true then (some true) else (if feq a0 0 = true then (if fdivOk 4607182418800017408 a0 = true then (some (flt (fdiv 4607182418800017408 a0) 0)) else (none)) else (some false))
set_option maxHeartbeats 8000000 in
set_option maxRecDepth 100000 in
theorem spec_IsMinus.calls (a0 : Nat) (r : Bool) (w : World) (h : spec_IsMinus.f a0 = some r) :
  Calls Try.prog 51 #[.float .f64 a0] w fun e w' => e = .returned (.bool r) ∧ Drawn0 w w' := by
 have H : (if flt a0 0 = true then (some true) else (if feq a0 0 = true then (if fdivOk 4607182418800017408 a0 = true then (some (flt (fdiv 4607182418800017408 a0) 0)) else (none)) else (some false))) = some r := h
 clear h
 by_cases c2 : flt a0 0 = true
 ·rw [if_pos c2] at H
  have c2b0 : flt a0 0 = true := c2
  clear c2
  obtain rfl := Option.some.inj H
  go_enter Try.func51, Try.ntmps51
  go_wp2
  go_ret
  exact ⟨by first | rfl | (simp; done) | (simp [*]; done), by repeat (first | exact Drawn0.refl _ | apply Drawn0.step)⟩
 ·rw [if_neg c2] at H
  have c2b0 : flt a0 0 = false := by simpa using c2
  clear c2
  by_cases c3 : feq a0 0 = true
  ·rw [if_pos c3] at H
   have c3b0 : feq a0 0 = true := c3
   clear c3
   by_cases c4 : fdivOk 4607182418800017408 a0 = true
   ·rw [if_pos c4] at H
    have c4b0 := eq_true c4
    have c4b1 : decide (fdivOk 4607182418800017408 a0 = true) = true := decide_eq_true c4
    clear c4
    obtain rfl := Option.some.inj H
    go_enter Try.func51, Try.ntmps51
    go_wp2
    go_ret
    exact ⟨by first | rfl | (simp; done) | (simp [*]; done), by repeat (first | exact Drawn0.refl _ | apply Drawn0.step)⟩
   ·rw [if_neg c4] at H
    exact absurd H (by simp)
  ·rw [if_neg c3] at H
   have c3b0 : feq a0 0 = false := by simpa using c3
   clear c3
   obtain rfl := Option.some.inj H
   go_enter Try.func51, Try.ntmps51
   go_wp2
   go_ret
   exact ⟨by first | rfl | (simp; done) | (simp [*]; done), by repeat (first | exact Drawn0.refl _ | apply Drawn0.step)⟩

/-! ### spec_l1Nan: function 88 -/
def spec_l1Nan.f (a0 : Nat) : Option (Bool) := some (!(feq a0 a0))
set_option maxHeartbeats 8000000 in
set_option maxRecDepth 100000 in
theorem spec_l1Nan.calls (a0 : Nat) (r : Bool) (w : World) (h : spec_l1Nan.f a0 = some r) :
  Calls Try.prog 88 #[.float .f64 a0] w fun e w' => e = .returned (.bool r) ∧ Drawn0 w w' := by
 have H : (some (!(feq a0 a0))) = some r := h
 clear h
 obtain rfl := Option.some.inj H
 go_enter Try.func88, Try.ntmps88
 go_wp2
 go_ret
 exact ⟨by first | rfl | (simp; done) | (simp [*]; done), by repeat (first | exact Drawn0.refl _ | apply Drawn0.step)⟩

/-! ### spec_l1SameNum: function 87 -/
def spec_l1SameNum.j0 : Nat → Nat → Nat → Bool → Option (Bool)
 | 0, _, _, _ => none
 | k + 1, x0, x1, x10 => if x10 = true then ((spec_l1Nan.f x0).bind fun t172 => (if t172 = true then ((spec_l1Nan.f x1).bind fun t173 => (some t173)) else (some false))) else (if feq x0 x1 = true then ((spec_IsMinus.f x0).bind fun t174 => ((spec_IsMinus.f x1).bind fun t175 => (some (t174 == t175)))) else (some false))
def spec_l1SameNum.f (k : Nat) (a0 : Nat) (a1 : Nat) : Option (Bool) := (spec_l1Nan.f a0).bind fun t170 => (if t170 = true then (spec_l1SameNum.j0 k a0 a1 true) else ((spec_l1Nan.f a1).bind fun t171 => (spec_l1SameNum.j0 k a0 a1 t171)))
theorem spec_l1SameNum.mono_l : ∀ k, (∀ y0 y1 y2, LeO (spec_l1SameNum.j0 k y0 y1 y2) (spec_l1SameNum.j0 (k + 1) y0 y1 y2))
 | 0 => fun _ _ _ r h => by simp [spec_l1SameNum.j0] at h
 | k + 1 => by
  have ih0 := spec_l1SameNum.mono_l k
  ·intro y0 y1 y2
   unfold spec_l1SameNum.j0
   repeat' first
   | (with_reducible exact ih0 _ _ _)
   | (with_reducible exact LeO.refl _)
   | (with_reducible exact LeO.none _)
   | (with_reducible refine LeO.ite ?_ ?_)
   | (with_reducible refine LeO.bind ?_ (fun _ => ?_))
   | exact ih0 _ _ _
   | exact LeO.none _
   | refine LeO.ite ?_ ?_
   | refine LeO.bind ?_ (fun _ => ?_)
theorem spec_l1SameNum.mono : ∀ a0 a1 k, LeO (spec_l1SameNum.f k a0 a1) (spec_l1SameNum.f (k + 1) a0 a1) := by
 intro a0 a1 k
 have ih0 := spec_l1SameNum.mono_l k
 unfold spec_l1SameNum.f
 repeat' first
   | (with_reducible exact ih0 _ _ _)
   | (with_reducible exact LeO.refl _)
   | (with_reducible exact LeO.none _)
   | (with_reducible refine LeO.ite ?_ ?_)
   | (with_reducible refine LeO.bind ?_ (fun _ => ?_))
   | exact ih0 _ _ _
   | exact LeO.none _
   | refine LeO.ite ?_ ?_
   | refine LeO.bind ?_ (fun _ => ?_)
set_option maxHeartbeats 8000000 in
set_option maxRecDepth 100000 in
theorem spec_l1SameNum.calls (k : Nat) (a0 : Nat) (a1 : Nat) (r : Bool) (w : World) (h : spec_l1SameNum.f k a0 a1 = some r) :
  Calls Try.prog 87 #[.float .f64 a0, .float .f64 a1] w fun e w' => e = .returned (.bool r) ∧ Drawn0 w w' := by
 have H : ((spec_l1Nan.f a0).bind fun t170 => (if t170 = true then (spec_l1SameNum.j0 k a0 a1 true) else ((spec_l1Nan.f a1).bind fun t171 => (spec_l1SameNum.j0 k a0 a1 t171)))) = some r := h
 clear h
 have HC3 := Aside0.mk H
 clear H
 go_enter Try.func87, Try.ntmps87
 go_upto_region 1 with (fail)
 go_cut [10] (fun v10 wc => ∃ (kq : Nat) (x10_2 : Bool), v10 = .bool x10_2 ∧ Aside0 (spec_l1SameNum.j0 kq a0 a1 x10_2 = some r) ∧ Aside0 (kq ≤ k) ∧ Drawn0 w wc)
 case first =>
  have H := HC3.out
  clear HC3
  replace H := Option.bind_eq_some_iff.mp H
  obtain ⟨t170, A40, H⟩ := H
  replace H : (if t170 = true then (spec_l1SameNum.j0 k a0 a1 true) else ((spec_l1Nan.f a1).bind fun t171 => (spec_l1SameNum.j0 k a0 a1 t171))) = some r := H
  have A4 := Aside0.mk A40
  clear A40
  by_cases c5 : t170 = true
  ·subst c5
   have H1 : (spec_l1SameNum.j0 k a0 a1 true) = some r := by rw [if_pos rfl] at H; exact H
   clear H
   have H := H1
   clear H1
   have H' := Aside0.mk H
   clear H
   go_wp2_with (first | ((with_reducible refine gate_callee (f := 88) rfl ?_); refine goesL_ (some 6) rfl rfl Try.func88 (by kernel_rfl) rfl #[.float .f64 a0] rfl (by (try simp only [List.map_toArray, List.map_cons, List.map_nil]); first | done | rfl | (simp only [List.length_drop, List.length_take]; rfl)) ?_; (with_reducible refine (spec_l1Nan.calls a0 true _ A4.out).mono ?_); rintro e w' ⟨rfl, ⟨nd, rfl⟩⟩; refine ⟨_, rfl, ?_⟩))
   go_meet
   case rel => exact ⟨_, (true), (by first | rfl | (simp; done) | (simp [*]; done)), H', ⟨by first | omega | exact Nat.le_refl _⟩, by repeat (first | exact Drawn0.refl _ | apply Drawn0.step)⟩
  ·replace c5 := Bool.eq_false_iff.mpr c5
   subst c5
   have H1 : ((spec_l1Nan.f a1).bind fun t171 => (spec_l1SameNum.j0 k a0 a1 t171)) = some r := by rw [if_neg (show ¬ (false = true) by decide)] at H; exact H
   clear H
   have H := H1
   clear H1
   replace H := Option.bind_eq_some_iff.mp H
   obtain ⟨t171, A60, H⟩ := H
   replace H : (spec_l1SameNum.j0 k a0 a1 t171) = some r := H
   have A6 := Aside0.mk A60
   clear A60
   have H' := Aside0.mk H
   clear H
   go_wp2_with (first | ((with_reducible refine gate_callee (f := 88) rfl ?_); refine goesL_ (some 6) rfl rfl Try.func88 (by kernel_rfl) rfl #[.float .f64 a0] rfl (by (try simp only [List.map_toArray, List.map_cons, List.map_nil]); first | done | rfl | (simp only [List.length_drop, List.length_take]; rfl)) ?_; (with_reducible refine (spec_l1Nan.calls a0 false _ A4.out).mono ?_); rintro e w' ⟨rfl, ⟨nd, rfl⟩⟩; refine ⟨_, rfl, ?_⟩) | (go_at_call 88; (with_reducible refine (spec_l1Nan.calls a1 t171 _ A6.out).mono ?_); rintro e w' ⟨rfl, ⟨nd, rfl⟩⟩))
   go_meet
   case rel => exact ⟨_, (t171), (by first | rfl | (simp; done) | (simp [*]; done)), H', ⟨by first | omega | exact Nat.le_refl _⟩, by repeat (first | exact Drawn0.refl _ | apply Drawn0.step)⟩
 case rest =>
  clear HC3
  try clear p2
  try clear c5
  obtain ⟨kq, x10_2, rfl, HA, HJ2, ⟨mc2, rfl⟩⟩ := hcut
  cases kq with
  | zero => exact absurd HA.out (by simp [spec_l1SameNum.j0])
  | succ kj2 =>
   have H := HA.out
   clear HA
   simp only [spec_l1SameNum.j0] at H
   by_cases c7 : x10_2 = true
   ·subst c7
    have H1 : ((spec_l1Nan.f a0).bind fun t172 => (if t172 = true then ((spec_l1Nan.f a1).bind fun t173 => (some t173)) else (some false))) = some r := by rw [if_pos rfl] at H; exact H
    clear H
    have H := H1
    clear H1
    replace H := Option.bind_eq_some_iff.mp H
    obtain ⟨t172, A80, H⟩ := H
    replace H : (if t172 = true then ((spec_l1Nan.f a1).bind fun t173 => (some t173)) else (some false)) = some r := H
    have A8 := Aside0.mk A80
    clear A80
    by_cases c9 : t172 = true
    ·subst c9
     have H1 : ((spec_l1Nan.f a1).bind fun t173 => (some t173)) = some r := by rw [if_pos rfl] at H; exact H
     clear H
     have H := H1
     clear H1
     replace H := Option.bind_eq_some_iff.mp H
     obtain ⟨t173, A100, H⟩ := H
     replace H : (some t173) = some r := H
     have A10 := Aside0.mk A100
     clear A100
     obtain rfl := Option.some.inj H
     go_wp2_with (first | ((with_reducible refine gate_callee (f := 88) rfl ?_); refine goesL_ (some 12) rfl rfl Try.func88 (by kernel_rfl) rfl #[.float .f64 a0] rfl (by (try simp only [List.map_toArray, List.map_cons, List.map_nil]); first | done | rfl | (simp only [List.length_drop, List.length_take]; rfl)) ?_; (with_reducible refine (spec_l1Nan.calls a0 true _ A8.out).mono ?_); rintro e w' ⟨rfl, ⟨nd, rfl⟩⟩; refine ⟨_, rfl, ?_⟩) | (go_at_call 88; (with_reducible refine (spec_l1Nan.calls a1 t173 _ A10.out).mono ?_); rintro e w' ⟨rfl, ⟨nd, rfl⟩⟩))
     go_ret
     exact ⟨by first | rfl | (simp; done) | (simp [*]; done), by repeat (first | exact Drawn0.refl _ | apply Drawn0.step)⟩
    ·replace c9 := Bool.eq_false_iff.mpr c9
     subst c9
     have H1 : (some false) = some r := by rw [if_neg (show ¬ (false = true) by decide)] at H; exact H
     clear H
     have H := H1
     clear H1
     obtain rfl := Option.some.inj H
     go_wp2_with (first | ((with_reducible refine gate_callee (f := 88) rfl ?_); refine goesL_ (some 12) rfl rfl Try.func88 (by kernel_rfl) rfl #[.float .f64 a0] rfl (by (try simp only [List.map_toArray, List.map_cons, List.map_nil]); first | done | rfl | (simp only [List.length_drop, List.length_take]; rfl)) ?_; (with_reducible refine (spec_l1Nan.calls a0 false _ A8.out).mono ?_); rintro e w' ⟨rfl, ⟨nd, rfl⟩⟩; refine ⟨_, rfl, ?_⟩))
     go_ret
     exact ⟨by first | rfl | (simp; done) | (simp [*]; done), by repeat (first | exact Drawn0.refl _ | apply Drawn0.step)⟩
   ·replace c7 := Bool.eq_false_iff.mpr c7
    subst c7
    have H1 : (if feq a0 a1 = true then ((spec_IsMinus.f a0).bind fun t174 => ((spec_IsMinus.f a1).bind fun t175 => (some (t174 == t175)))) else (some false)) = some r := by rw [if_neg (show ¬ (false = true) by decide)] at H; exact H
    clear H
    have H := H1
    clear H1
    by_cases c11 : feq a0 a1 = true
    ·rw [if_pos c11] at H
     have c11b0 : feq a0 a1 = true := c11
     clear c11
     replace H := Option.bind_eq_some_iff.mp H
     obtain ⟨t174, A120, H⟩ := H
     replace H : ((spec_IsMinus.f a1).bind fun t175 => (some (t174 == t175))) = some r := H
     have A12 := Aside0.mk A120
     clear A120
     replace H := Option.bind_eq_some_iff.mp H
     obtain ⟨t175, A130, H⟩ := H
     replace H : (some (t174 == t175)) = some r := H
     have A13 := Aside0.mk A130
     clear A130
     obtain rfl := Option.some.inj H
     go_wp2_with (first | (go_at_call 51; (with_reducible refine (spec_IsMinus.calls a0 t174 _ A12.out).mono ?_); rintro e w' ⟨rfl, ⟨nd, rfl⟩⟩) | (go_at_call 51; (with_reducible refine (spec_IsMinus.calls a1 t175 _ A13.out).mono ?_); rintro e w' ⟨rfl, ⟨nd, rfl⟩⟩))
     go_ret
     exact ⟨by first | rfl | (simp; done) | (simp [*]; done), by repeat (first | exact Drawn0.refl _ | apply Drawn0.step)⟩
    ·rw [if_neg c11] at H
     have c11b0 : feq a0 a1 = false := by simpa using c11
     clear c11
     obtain rfl := Option.some.inj H
     go_wp2
     go_ret
     exact ⟨by first | rfl | (simp; done) | (simp [*]; done), by repeat (first | exact Drawn0.refl _ | apply Drawn0.step)⟩

end Go.Proofs.Ythdpiceiemkjlaa.GOrderFor

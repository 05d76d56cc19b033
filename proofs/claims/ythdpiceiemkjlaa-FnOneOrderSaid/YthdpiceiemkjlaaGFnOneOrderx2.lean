-- Printed by wip/tools/print2.py out of the translation: walks and plain functions; Lean checks them.
import Derived.Test.YthdpiceiemkjlaaGFnOneOrderx0
import Derived.Test.YthdpiceiemkjlaaGFnOneOrderx1
namespace Go.Proofs.Ythdpiceiemkjlaa.GFnOneOrder
open Go.RowKit Go.Proofs.YthdpiceiemkjlaaW.PrintWords Go.Proofs.YthdpiceiemkjlaaW.PrintLast Go.Proofs.YthdpiceiemkjlaaW.PrintMore
attribute [local go_sem] max2_int min2_int max_two min_two max_three min_three max_four min_four   -- for this text's walks alone
set_option linter.unusedVariables false
set_option linter.unusedSimpArgs false

/-! ### spec_l16Order: function 60 -/
mutual
def spec_l16Order.j0 : Nat → List Int → Bool → Option (Bool)
 | 0, _, _ => none
 | k + 1, x1, x19 => if x19 = true then (some false) else (spec_l16Order.l0 k x1 x1 (x1.length : Int) 0)
def spec_l16Order.l0 : Nat → List Int → List Int → Int → Int → Option (Bool)
 | 0, _, _, _, _ => none
 | k + 1, x1, x20, x21, x22 => if x22 < x21 then (if 0 ≤ x22 then (if x22 < (x20.length : Int) then (if x22 ≤ (x1.length : Int) then ((spec_l1Has.f k (x1.take (x22 : Int).toNat) (rd x20 x22)).bind fun t118 => (if t118 = true then (some false) else (spec_l16Order.l0 k x1 x20 x21 (wrap64 (x22 + 1))))) else (none)) else (none)) else (none)) else (some true)
end
def spec_l16Order.f (k : Nat) (l0 : List (S77)) (l1 : List Int) : Option (Bool) := if (l1.length : Int) = (l0.length : Int) then ((spec_l1All.f k l1 0 (wrap64 ((l0.length : Int) - 1))).bind fun t115 => (spec_l16Order.j0 k l1 (!t115))) else (spec_l16Order.j0 k l1 true)
set_option maxHeartbeats 8000000 in
set_option maxRecDepth 100000 in
theorem spec_l16Order.calls (k : Nat) (A0 : Option Addr) (c0 : Nat) (l0 : List (S77)) (A1 : Option Addr) (c1 : Nat) (l1 : List Int) (r : Bool) (w : World) (hr0 : Kd.C k77 w A0 l0.length l0) (hc0 : l0.length ≤ c0) (hr1 : Kd.C (Kd.int .i64) w A1 l1.length l1) (hc1 : l1.length ≤ c1) (h : spec_l16Order.f k l0 l1 = some r) :
  Calls Try.prog 60 #[.slice A0 l0.length c0, .slice A1 l1.length c1] w fun e w' => e = .returned (.bool r) ∧ Drawn0 w w' := by
 have HR0 := a_ hr0
 have HC0 := a_ hc0
 clear hr0 hc0
 have HR1 := a_ hr1
 have HC1 := a_ hc1
 clear hr1 hc1
 have H : (if (l1.length : Int) = (l0.length : Int) then ((spec_l1All.f k l1 0 (wrap64 ((l0.length : Int) - 1))).bind fun t115 => (spec_l16Order.j0 k l1 (!t115))) else (spec_l16Order.j0 k l1 true)) = some r := h
 clear h
 have HC3 := a_ H
 clear H
 go_enter Try.func60, Try.ntmps60
 go_upto_region 1 with (fail)
 go_cut [19] (fun v19 wc => ∃ (kq : Nat) (x19_2 : Bool), v19 = .bool x19_2 ∧ Aside0 (spec_l16Order.j0 kq l1 x19_2 = some r) ∧ Aside0 (kq ≤ k) ∧ Drawn0 w wc)
 case first =>
  have H := HC3.out; clear HC3
  by_cases c4 : (l1.length : Int) = (l0.length : Int)
  ·rw [if_pos c4] at H
   have c4b0 := beq_iff_eq.mpr c4
   have c4b1 := bne_eq_false_iff_eq.mpr c4
   have c4b2 : (l1.length == l0.length) = true := by first | simpa using c4 | (simp at c4 ⊢; omega)
   clear c4
   (first | rw [c4b0] | (simp only [i64_w, i32_w]; rw [c4b0]) | skip)
   replace H := Option.bind_eq_some_iff.mp H
   obtain ⟨t115, A50, H⟩ := H
   try dsimp only at H
   have A5 := a_ A50; clear A50
   have H' := a_ H
   clear H
   go_wp2_with (first | (go_at_call 102; (with_reducible refine (spec_l1All.calls k _ _ l1 0 (wrap64 ((l0.length : Int) - 1)) t115 _ ?side1 ?side2 A5.out).mono ?_); (case side1 => repeat (first | exact HR1.out | (with_reducible refine Kd.C_alloc ?_ _) | (with_reducible refine Kd.C_drewN ?_ _) | (with_reducible refine Kd.C_drew ?_))); (case side2 => exact HC1.out); rintro e w' ⟨rfl, ⟨nd, rfl⟩⟩))
   go_meet
   case rel => exact ⟨_, (!t115), (by first | rfl | (simp; done) | (simp [*]; done)), H', ⟨by first | omega | exact Nat.le_refl _⟩, by repeat (first | exact Drawn0.refl _ | apply Drawn0.step)⟩
  ·rw [if_neg c4] at H
   have c4b0 := beq_eq_false_iff_ne.mpr c4
   have c4b1 := bne_iff_ne.mpr c4
   have c4b2 : (l1.length == l0.length) = false := by first | simpa using c4 | (simp at c4 ⊢; omega)
   (first | rw [c4b0] | (simp only [i64_w, i32_w]; rw [c4b0]) | skip)
   have H' := a_ H
   clear H
   go_wp2
   go_meet
   case rel => exact ⟨_, (true), (by first | rfl | (simp; done) | (simp [*]; done)), H', ⟨by first | omega | exact Nat.le_refl _⟩, by repeat (first | exact Drawn0.refl _ | apply Drawn0.step)⟩
 case rest =>
  clear HC3; (try clear c1); (try clear p2); (try clear c4); (try clear c4b0); (try clear c4b1); (try clear c4b2)
  obtain ⟨kq, x19_2, rfl, HA, HJ2, ⟨mc2, rfl⟩⟩ := hcut
  cases kq with
  | zero => exact absurd HA.out (by simp [spec_l16Order.j0])
  | succ kj2 =>
   have H := HA.out; clear HA
   simp only [spec_l16Order.j0] at H
   by_cases c6 : x19_2 = true
   ·subst c6
    rw [if_pos rfl] at H
    obtain rfl := Option.some.inj H
    go_wp2
    go_ret
    exact ⟨by first | rfl | (simp; done) | (simp [*]; done), by repeat (first | exact Drawn0.refl _ | apply Drawn0.step)⟩
   ·replace c6 := Bool.eq_false_iff.mpr c6
    subst c6
    rw [if_neg (show ¬ (false = true) by decide)] at H
    have H' := a_ H
    clear H
    go_wp2
    go_loopg [22] kj2 (fun kq v22 w' => ∃ (x22_2 : Int), v22 = .int .i64 x22_2 ∧ Aside0 (spec_l16Order.l0 kq l1 l1 (l1.length : Int) x22_2 = some r) ∧ Aside0 (kq ≤ kj2) ∧ Drawn0 w w')
    case atStart => exact ⟨(0), (by first | rfl | (simp; done) | (simp [*]; done)), H', ⟨Nat.le_refl _⟩, by repeat (first | exact Drawn0.refl _ | apply Drawn0.step)⟩
    case round =>
     clear H'
     (try clear c1); (try clear c2); (try clear p2); (try clear c4); (try clear c4b0); (try clear c4b1); (try clear c4b2); (try clear c6); (try clear p6); (try clear p2)
     obtain ⟨x22_2, rfl, HA, HK2, ⟨m2, rfl⟩⟩ := hrel
     cases gk with
     | zero => exact absurd HA.out (by simp [spec_l16Order.l0])
     | succ k2 =>
      have H := HA.out; clear HA
      simp only [spec_l16Order.l0] at H
      by_cases c7 : x22_2 < (l1.length : Int)
      ·rw [if_pos c7] at H
       have c7b0 := decide_eq_true c7
       clear c7
       replace H := ig_ H
       obtain ⟨c8b0, H⟩ := H
       replace H := ig_ H
       obtain ⟨c9b0, H⟩ := H
       have c10b0 := eq_true (od_ : 0 ≤ x22_2)
       have c11 := it_ H
       rw [if_pos c11] at H
       have c11b0 := eq_true c11
       have c11b1 := decide_eq_true c11
       clear c11
       replace H := Option.bind_eq_some_iff.mp H
       obtain ⟨t118, A120, H⟩ := H
       try dsimp only at H
       have A12 := a_ A120; clear A120
       by_cases c13 : t118 = true
       ·subst c13
        rw [if_pos rfl] at H
        obtain rfl := Option.some.inj H
        have p116 : 0 ≤ (x22_2 : Int) := od_
        have q116 : x22_2 < (l1.length : Int) := od_
        obtain ⟨ad116, e116, hx116_0⟩ := Kd.at_int HR1.out x22_2 p116 q116
        cases e116
        replace p116 := eq_true p116; replace q116 := eq_true q116
        obtain ⟨i014, hi014, _, hsz14, _⟩ := info_parts info3
        obtain ⟨hcut14, hA14, hC14⟩ := print_take_of (P := Try.prog) (Value.int .i64) 0 23 3 .i64 Try.underlying23 hi014 hsz14 (some ad116) c1 l1 x22_2 (od_) (od_) HC1.out
        have HR117 := a_ (Kd.C_of_reads (h1 := fun _ => rfl) (hA14 _ (Kd.reads_of_C HR1.out)))
        have HC117 := a_ hC14; clear hA14 hC14 hi014 hsz14
        go_wp2_with (first | ((with_reducible refine gate_callee (f := 103) rfl ?_); refine goesL_ (some 31) rfl rfl Try.func103 (by kernel_rfl) rfl #[.slice (some ad116) (l1.take (x22_2 : Int).toNat).length c1, .int .i64 (rd l1 x22_2)] rfl (by (try simp only [List.map_toArray, List.map_cons, List.map_nil]); first | done | (rw [show (l1.take (x22_2 : Int).toNat).length = x22_2.toNat from (by rw [List.length_take]; have h_ : (x22_2 : Int) ≤ (l1.length : Int) := od_; omega)] <;> rfl) | rfl | (simp only [List.length_drop, List.length_take]; rfl)) ?_; (with_reducible refine (spec_l1Has.calls k2 _ _ (l1.take (x22_2 : Int).toNat) (rd l1 x22_2) true _ ?side1 ?side2 A12.out).mono ?_); (case side1 => repeat (first | exact HR117.out | (with_reducible refine Kd.C_alloc ?_ _) | (with_reducible refine Kd.C_drewN ?_ _) | (with_reducible refine Kd.C_drew ?_))); (case side2 => exact HC117.out); rintro e w' ⟨rfl, ⟨nd, rfl⟩⟩; refine ⟨_, rfl, ?_⟩))
        go_ret
        exact ⟨by first | rfl | (simp; done) | (simp [*]; done), by repeat (first | exact Drawn0.refl _ | apply Drawn0.step)⟩
       ·replace c13 := Bool.eq_false_iff.mpr c13
        subst c13
        rw [if_neg (show ¬ (false = true) by decide)] at H
        have H' := a_ H
        clear H
        have p116 : 0 ≤ (x22_2 : Int) := od_
        have q116 : x22_2 < (l1.length : Int) := od_
        obtain ⟨ad116, e116, hx116_0⟩ := Kd.at_int HR1.out x22_2 p116 q116
        cases e116
        replace p116 := eq_true p116; replace q116 := eq_true q116
        obtain ⟨i015, hi015, _, hsz15, _⟩ := info_parts info3
        obtain ⟨hcut15, hA15, hC15⟩ := print_take_of (P := Try.prog) (Value.int .i64) 0 23 3 .i64 Try.underlying23 hi015 hsz15 (some ad116) c1 l1 x22_2 (od_) (od_) HC1.out
        have HR117 := a_ (Kd.C_of_reads (h1 := fun _ => rfl) (hA15 _ (Kd.reads_of_C HR1.out)))
        have HC117 := a_ hC15; clear hA15 hC15 hi015 hsz15
        go_wp2_with (first | ((with_reducible refine gate_callee (f := 103) rfl ?_); refine goesL_ (some 31) rfl rfl Try.func103 (by kernel_rfl) rfl #[.slice (some ad116) (l1.take (x22_2 : Int).toNat).length c1, .int .i64 (rd l1 x22_2)] rfl (by (try simp only [List.map_toArray, List.map_cons, List.map_nil]); first | done | (rw [show (l1.take (x22_2 : Int).toNat).length = x22_2.toNat from (by rw [List.length_take]; have h_ : (x22_2 : Int) ≤ (l1.length : Int) := od_; omega)] <;> rfl) | rfl | (simp only [List.length_drop, List.length_take]; rfl)) ?_; (with_reducible refine (spec_l1Has.calls k2 _ _ (l1.take (x22_2 : Int).toNat) (rd l1 x22_2) false _ ?side1 ?side2 A12.out).mono ?_); (case side1 => repeat (first | exact HR117.out | (with_reducible refine Kd.C_alloc ?_ _) | (with_reducible refine Kd.C_drewN ?_ _) | (with_reducible refine Kd.C_drew ?_))); (case side2 => exact HC117.out); rintro e w' ⟨rfl, ⟨nd, rfl⟩⟩; refine ⟨_, rfl, ?_⟩))
        go_roundg k2
        case measure => have := HJ2.out; have := HK2.out; omega
        case rel => exact ⟨(wrap64 (x22_2 + 1)), (by first | rfl | (simp; done) | (simp [*]; done)), H', ⟨by have := HJ2.out; have := HK2.out; omega⟩, by repeat (first | exact Drawn0.refl _ | apply Drawn0.step)⟩
      ·rw [if_neg c7] at H
       have c7b0 := decide_eq_false c7
       clear c7
       obtain rfl := Option.some.inj H
       go_wp2
       go_ret
       exact ⟨by first | rfl | (simp; done) | (simp [*]; done), by repeat (first | exact Drawn0.refl _ | apply Drawn0.step)⟩

/-! Numbers that are one up to which NaN they are; a NaN that is drawn. -/
def eqv (a b : Nat) : Prop := a = b ∨ (feq a a = false ∧ feq b b = false ∧ a < 18446744073709551616)
theorem eqv.refl (a : Nat) : eqv a a := .inl rfl
theorem eqv.trans {a b c : Nat} (h : eqv a b) (k : eqv b c) : eqv a c := by
 rcases h with rfl | ⟨h1, h2, h3⟩
 ·exact k
 ·rcases k with rfl | ⟨k1, k2, _⟩
  ·exact .inr ⟨h1, h2, h3⟩
  ·exact .inr ⟨h1, k2, h3⟩
theorem nan_canon : feq 9221120237041090561 9221120237041090561 = false := by
 have e : nanOf 4503599627370496 = 9221120237041090561 := by decide
 rw [← e]
 exact feq_nanOf _ _
def eqvL (x y : List Nat) : Prop := x.length = y.length ∧ ∀ i : Nat, eqv (x.getD i 0) (y.getD i 0)
theorem eqvL.refl (x : List Nat) : eqvL x x := ⟨rfl, fun _ => eqv.refl _⟩
theorem eqvL.trans {x y z : List Nat} (h : eqvL x y) (k : eqvL y z) : eqvL x z := ⟨h.1.trans k.1, fun i => (h.2 i).trans (k.2 i)⟩
theorem eqvL.snoc {x y : List Nat} {a b : Nat} (h : eqvL x y) (e : eqv a b) : eqvL (x ++ [a]) (y ++ [b]) := by
 refine ⟨by simp [h.1], fun i => ?_⟩
 have hi := h.2 i
 have hl := h.1
 simp only [List.getD_eq_getElem?_getD] at hi ⊢
 rcases Nat.lt_trichotomy i x.length with q | q | q
 ·rw [List.getElem?_append_left q, List.getElem?_append_left (by omega)]; exact hi
 ·rw [List.getElem?_append_right (by omega), List.getElem?_append_right (by omega), show i - x.length = 0 by omega, show i - y.length = 0 by omega]; exact e
 ·rw [List.getElem?_eq_none (by simp; omega), List.getElem?_eq_none (by simp; omega)]; exact .inl rfl
section
variable {P : Program} {ops : Array Oper} {rest : List Oper} {o : Oper} {a : Act} {Q : Exit → Act → World → Prop}
theorem quo_event {W : World} (hgd : o.guard = none) {t t' : TypeId} {x y : Operand} {p q : Nat} (ho : o.op = .binOp .quo t x y t') (hx : a.eval x = .float .f64 p) (hy : a.eval y = .float .f64 q) (hn : fdivOk p q = false)
  (h : ∀ nv, feq nv nv = false ∧ nv < 18446744073709551616 → wpList P ops Q rest (a.put o.dst (.float .f64 nv)) W.drew) : wpList P ops Q (o :: rest) a W := by
 refine Kd.event_run hgd (v := .float .f64 (nanOf (W.tape W.drawn (.nanBits .f64 p q)))) (w1 := W.drew) ?_ (h _ ⟨feq_nanOf _ _, by unfold nanOf; omega⟩)
 rw [show execOp a.eval o = execOp a.eval { o with op := .binOp .quo t x y t' } from by rw [← ho]]
 simp only [execOp, hx, hy]
 go_simp
end
theorem drew_setCell (W : World) (p : Addr) (u : Value) : (W.setCell p u).drew = W.drew.setCell p u := by
 first | rfl | (unfold World.setCell World.drew; split <;> rfl) | (cases W; rfl) | (simp [World.setCell, World.drew]; split <;> rfl)
/-! ### spec_l16Play: function 61 -/
def spec_l16Play.l0 : Nat → Int → List (S77) → List Nat → List Nat → Nat → List Int → Int → Int → Option (List Nat)
 | 0, _, _, _, _, _, _, _, _ => none
 | k + 1, x0, x1, x7, x8, x9, x15, x16, x17 => if x17 < x16 then (if 0 ≤ x17 then (if x17 < (x15.length : Int) then (if 0 ≤ (rd x15 x17) then (if (rd x15 x17) < (x1.length : Int) then (if (rd_T77 x1 (rd x15 x17)).f3 = true then (if x8.length < 17592186044416 then (if x7.length < 17592186044416 then (spec_l16Play.l0 k x0 x1 (x7 ++ [(rd_T77 x1 (rd x15 x17)).f4]) (x8 ++ [(rd_T77 x1 (rd x15 x17)).f4]) ((rd_T77 x1 (rd x15 x17)).f4) x15 x16 (wrap64 (x17 + 1))) else (none)) else (none)) else (if x0 = 1 then (if x7.length < 17592186044416 then (spec_l16Play.l0 k x0 x1 (x7 ++ [x9]) x8 x9 x15 x16 (wrap64 (x17 + 1))) else (none)) else (if (x8.length : Int) = 0 then (if fdivOk 0 0 = false then (if x7.length < 17592186044416 then (spec_l16Play.l0 k x0 x1 (x7 ++ [9221120237041090561]) x8 x9 x15 x16 (wrap64 (x17 + 1))) else (none)) else (none)) else (if 0 < (x8.length : Int) then (if 1 ≤ (x8.length : Int) then (if x7.length < 17592186044416 then (spec_l16Play.l0 k x0 x1 (x7 ++ [rdOf (0 : Nat) x8 0]) (x8.drop (1 : Int).toNat) x9 x15 x16 (wrap64 (x17 + 1))) else (none)) else (none)) else (none))))) else (none)) else (none)) else (none)) else (none)) else (some x7)
def spec_l16Play.f (k : Nat) (a0 : Int) (l1 : List (S77)) (l2 : List Int) : Option (List Nat) := spec_l16Play.l0 k a0 l1 ([] : List Nat) ([] : List Nat) 0 l2 (l2.length : Int) 0
theorem spec_l16Play.same : ∀ (k : Nat) {a0 : Int} {l1 : List S77} {x x' x8 : List Nat} {x9 : Nat} {x15 : List Int} {x16 x17 : Int} {r : List Nat}, eqvL x' x → spec_l16Play.l0 k a0 l1 x x8 x9 x15 x16 x17 = some r → ∃ r', spec_l16Play.l0 k a0 l1 x' x8 x9 x15 x16 x17 = some r' ∧ eqvL r' r
 | 0, a0, l1, x, x', x8, x9, x15, x16, x17, r, he, h => by simp [spec_l16Play.l0] at h
 | k + 1, a0, l1, x, x', x8, x9, x15, x16, x17, r, he, h => by
  have hl := he.1
  simp only [spec_l16Play.l0] at h ⊢
  rw [hl]
  by_cases c1 : x17 < x16
  ·rw [if_pos c1] at h ⊢
   by_cases c2 : 0 ≤ x17
   ·rw [if_pos c2] at h ⊢
    by_cases c3 : x17 < (x15.length : Int)
    ·rw [if_pos c3] at h ⊢
     by_cases c4 : 0 ≤ rd x15 x17
     ·rw [if_pos c4] at h ⊢
      by_cases c5 : rd x15 x17 < (l1.length : Int)
      ·rw [if_pos c5] at h ⊢
       by_cases c6 : (rd_T77 l1 (rd x15 x17)).f3 = true
       ·rw [if_pos c6] at h ⊢
        by_cases c7 : x8.length < 17592186044416
        ·rw [if_pos c7] at h ⊢
         by_cases c8 : x.length < 17592186044416
         ·rw [if_pos c8] at h ⊢; exact spec_l16Play.same k (he.snoc (eqv.refl _)) h
         ·rw [if_neg c8] at h; cases h
        ·rw [if_neg c7] at h; cases h
       ·rw [if_neg c6] at h ⊢
        by_cases c7 : a0 = 1
        ·rw [if_pos c7] at h ⊢
         by_cases c8 : x.length < 17592186044416
         ·rw [if_pos c8] at h ⊢; exact spec_l16Play.same k (he.snoc (eqv.refl _)) h
         ·rw [if_neg c8] at h; cases h
        ·rw [if_neg c7] at h ⊢
         by_cases c9 : (x8.length : Int) = 0
         ·rw [if_pos c9] at h ⊢
          by_cases c10 : fdivOk 0 0 = false
          ·rw [if_pos c10] at h ⊢
           by_cases c8 : x.length < 17592186044416
           ·rw [if_pos c8] at h ⊢; exact spec_l16Play.same k (he.snoc (eqv.refl _)) h
           ·rw [if_neg c8] at h; cases h
          ·rw [if_neg c10] at h; cases h
         ·rw [if_neg c9] at h ⊢
          by_cases c10 : 0 < (x8.length : Int)
          ·rw [if_pos c10] at h ⊢
           by_cases c11 : 1 ≤ (x8.length : Int)
           ·rw [if_pos c11] at h ⊢
            by_cases c8 : x.length < 17592186044416
            ·rw [if_pos c8] at h ⊢; exact spec_l16Play.same k (he.snoc (eqv.refl _)) h
            ·rw [if_neg c8] at h; cases h
           ·rw [if_neg c11] at h; cases h
          ·rw [if_neg c10] at h; cases h
      ·rw [if_neg c5] at h; cases h
     ·rw [if_neg c4] at h; cases h
    ·rw [if_neg c3] at h; cases h
   ·rw [if_neg c2] at h; cases h
  ·rw [if_neg c1] at h ⊢
   cases h
   exact ⟨_, rfl, he⟩
set_option maxHeartbeats 8000000 in
set_option maxRecDepth 100000 in
theorem spec_l16Play.calls (k : Nat) (a0 : Int) (A1 : Option Addr) (c1 : Nat) (l1 : List (S77)) (A2 : Option Addr) (c2 : Nat) (l2 : List Int) (r : List Nat) (w : World) (hr1 : Kd.C k77 w A1 l1.length l1) (hc1 : l1.length ≤ c1) (hr2 : Kd.C (Kd.int .i64) w A2 l2.length l2) (hc2 : l2.length ≤ c2) (h : spec_l16Play.f k a0 l1 l2 = some r) :
  Calls Try.prog 61 #[.int .i64 a0, .slice A1 l1.length c1, .slice A2 l2.length c2] w fun e w' => ∃ (v0_ : Value) (r_ : List Nat), e = .returned (v0_) ∧ eqvL r_ r ∧ Kd.R Kd.float 55 w' w.heap.size (fun _ => True) v0_ r_ ∧ Below w.heap.size w w' := by
 have hu77 := Try.underlying77
 have HR1 := a_ hr1
 have HC1 := a_ hc1
 clear hr1 hc1
 have HR2 := a_ hr2
 have HC2 := a_ hc2
 clear hr2 hc2
 have HB := a_ (Below.refl w.heap.size w)
 have H : (spec_l16Play.l0 k a0 l1 ([] : List Nat) ([] : List Nat) 0 l2 (l2.length : Int) 0) = some r := h
 clear h
 have H' := a_ H
 clear H
 go_enter Try.func61, Try.ntmps61
 go_wp2
 go_loopg [7, 8, 9, 17] k (fun kq v7 v8 v9 v17 w' => ∃ (r1_ : List Nat) (x7_1 : List Nat) (x8_1 : List Nat) (x9_1 : Nat) (x17_1 : Int), v9 = .float .f64 x9_1 ∧ v17 = .int .i64 x17_1 ∧ Aside0 (spec_l16Play.l0 kq a0 l1 x7_1 x8_1 x9_1 l2 (l2.length : Int) x17_1 = some r1_) ∧ Aside0 (kq ≤ k) ∧ Aside0 (Kd.R Kd.float 55 w' w.heap.size (fun k_ => some k_ ≠ (v8 : Value).ownBlock) v7 x7_1) ∧ Aside0 (Kd.Q Kd.float 55 w' w.heap.size (fun k_ => some k_ ≠ (v7 : Value).ownBlock) v8 x8_1) ∧ Aside0 (eqvL r1_ r) ∧ Aside0 (Below w.heap.size w w'))
 case atStart => exact ⟨r, (([] : List Nat)), (([] : List Nat)), (0), (0), (by first | rfl | (simp; done) | (simp [*]; done)), (by first | rfl | (simp; done) | (simp [*]; done)), H', ⟨Nat.le_refl _⟩, ⟨by first | exact Kd.R_nil _ _ _ _ _ | exact Kd.N_nil _ _ _ _ _ | exact Kd.V_nil _ _ _ _ _ | exact Kd.Q_nil _ _ _ _ _ | exact Kd.S_nil _ _ _ _ _⟩, ⟨Kd.Q_of_R (by first | exact Kd.R_nil _ _ _ _ _ | exact Kd.N_nil _ _ _ _ _ | exact Kd.V_nil _ _ _ _ _ | exact Kd.Q_nil _ _ _ _ _ | exact Kd.S_nil _ _ _ _ _)⟩, ⟨eqvL.refl _⟩, ⟨b_⟩⟩
 case round =>
  clear H'
  (try clear c1); (try clear c2); (try clear p2)
  obtain ⟨r1_, x7_1, x8_1, x9_1, x17_1, rfl, rfl, HA, HK1, HO_7, HO_8, HE, HB⟩ := hrel
  cases gk with
  | zero => exact absurd HA.out (by simp [spec_l16Play.l0])
  | succ k1 =>
   have H := HA.out; clear HA
   simp only [spec_l16Play.l0] at H
   by_cases c4 : x17_1 < (l2.length : Int)
   ·rw [if_pos c4] at H
    have c4b0 := decide_eq_true c4
    clear c4
    replace H := ig_ H
    obtain ⟨c5b0, H⟩ := H
    replace H := ig_ H
    obtain ⟨c6b0, H⟩ := H
    replace H := ig_ H
    obtain ⟨c7b0, H⟩ := H
    replace H := ig_ H
    obtain ⟨c8b0, H⟩ := H
    obtain ⟨bq9, hbq9⟩ : ∃ b_ : Bool, b_ = ((rd_T77 l1 (rd l2 x17_1)).f3) := ⟨_, rfl⟩
    replace H : (if bq9 = true then (if x8_1.length < 17592186044416 then (if x7_1.length < 17592186044416 then (spec_l16Play.l0 k1 a0 l1 (x7_1 ++ [(rd_T77 l1 (rd l2 x17_1)).f4]) (x8_1 ++ [(rd_T77 l1 (rd l2 x17_1)).f4]) ((rd_T77 l1 (rd l2 x17_1)).f4) l2 (l2.length : Int) (wrap64 (x17_1 + 1))) else (none)) else (none)) else (if a0 = 1 then (if x7_1.length < 17592186044416 then (spec_l16Play.l0 k1 a0 l1 (x7_1 ++ [x9_1]) x8_1 x9_1 l2 (l2.length : Int) (wrap64 (x17_1 + 1))) else (none)) else (if (x8_1.length : Int) = 0 then (if fdivOk 0 0 = false then (if x7_1.length < 17592186044416 then (spec_l16Play.l0 k1 a0 l1 (x7_1 ++ [9221120237041090561]) x8_1 x9_1 l2 (l2.length : Int) (wrap64 (x17_1 + 1))) else (none)) else (none)) else (if 0 < (x8_1.length : Int) then (if 1 ≤ (x8_1.length : Int) then (if x7_1.length < 17592186044416 then (spec_l16Play.l0 k1 a0 l1 (x7_1 ++ [rdOf (0 : Nat) x8_1 0]) (x8_1.drop (1 : Int).toNat) x9_1 l2 (l2.length : Int) (wrap64 (x17_1 + 1))) else (none)) else (none)) else (none))))) = some r1_ := by rw [← hbq9] at H; exact H
    have Nbq9 := a_ hbq9; clear hbq9
    by_cases c10 : bq9 = true
    ·subst c10
     rw [if_pos rfl] at H
     have c11 := it_ H
     rw [if_pos c11] at H; have LMc11 := a_ c11; clear c11
     obtain ⟨y122, hy122⟩ : ∃ y_ : List Nat, y_ = (x8_1 ++ [(rd_T77 l1 (rd l2 x17_1)).f4]) := ⟨_, rfl⟩
     replace H : (if x7_1.length < 17592186044416 then (spec_l16Play.l0 k1 a0 l1 (x7_1 ++ [(rd_T77 l1 (rd l2 x17_1)).f4]) y122 ((rd_T77 l1 (rd l2 x17_1)).f4) l2 (l2.length : Int) (wrap64 (x17_1 + 1))) else (none)) = some r1_ := by first|(rw [hy122]; with_reducible exact H)|(rw [hy122]; exact (Option.bind_some _ _).symm.trans H)|(rw [hy122]; exact H)|exact H
     have Ny122 := a_ hy122; clear hy122
     have c12 := it_ H
     rw [if_pos c12] at H; have LMc12 := a_ c12; clear c12
     obtain ⟨y125, hy125⟩ : ∃ y_ : List Nat, y_ = (x7_1 ++ [(rd_T77 l1 (rd l2 x17_1)).f4]) := ⟨_, rfl⟩
     replace H : (spec_l16Play.l0 k1 a0 l1 y125 y122 ((rd_T77 l1 (rd l2 x17_1)).f4) l2 (l2.length : Int) (wrap64 (x17_1 + 1))) = some r1_ := by first|(rw [hy125]; with_reducible exact H)|(rw [hy125]; exact (Option.bind_some _ _).symm.trans H)|(rw [hy125]; exact H)|exact H
     have Ny125 := a_ hy125; clear hy125
     have H' := a_ H
     clear H
     have p119 : 0 ≤ (x17_1 : Int) := od_
     have q119 : x17_1 < (l2.length : Int) := od_
     obtain ⟨ad119, e119, hx119_0⟩ := Kd.at_int HR2.out x17_1 p119 q119
     cases e119
     try replace hx119_0 := cl_ HB.out hx119_0
     replace p119 := eq_true p119; replace q119 := eq_true q119
     have p120 : 0 ≤ ((rd l2 x17_1) : Int) := od_
     have q120 : (rd l2 x17_1) < (l1.length : Int) := od_
     obtain ⟨ad120, e120, hx120_0, hx120_1, hx120_2, hx120_3, hx120_4⟩ := at_T77 HR1.out (rd l2 x17_1) p120 q120
     (try rw [← Nbq9.out] at hx120_3)
     cases e120
     try replace hx120_0 := cl_ HB.out hx120_0
     try replace hx120_1 := cl_ HB.out hx120_1
     try replace hx120_2 := cl_ HB.out hx120_2
     try replace hx120_3 := cl_ HB.out hx120_3
     try replace hx120_4 := cl_ HB.out hx120_4
     replace p120 := eq_true p120; replace q120 := eq_true q120
     go_wp2_with (first | ((with_reducible refine gate_dst (N := 12) rfl ?_); refine box_event ?hg (N := 12) ?hd (cs := #[.int .i64 0, .int .i64 0, .int .i64 0, .bool false, .float .f64 0]) (t := 77) ?hr ?_; (case hd => rfl); (case hg => rfl); (case hr => first | (go_simp; done) | (go_simp; rfl)); intro gb121 hg w13 hbox hb; have n0_ := a_ (Kd.R_below (r_ HO_7.out) hb); have n1_ := a_ (Kd.Q_below (by (with_reducible repeat (first | apply Kd.Q_alloc | apply Kd.Q_drewN | apply Kd.Q_drew)); exact HO_8.out) hb); have n2_ := a_ (below_step b_ hb); have n3_ := a_ (hbox); have n4_ := a_ ((by rw [hg]; exact (below_size b_) : w.heap.size ≤ gb121)); have n5_ := a_ ((by rw [hg]; exact (below_size b_) : w.heap.size ≤ gb121)); clear HO_7; clear HO_8; clear HB; have HO_7 := n0_; have HO_8 := n1_; have HB := n2_; have BK121 := n3_; have GW121 := n4_; have GE121 := n5_; clear n0_ n1_ n2_ n3_ n4_ n5_; clear hb hbox hg; obtain ⟨hcz14_0, hcz14_1, hcz14_2, hcz14_3, hcz14_4, hfz14_0, hfz14_1, hfz14_2, hfz14_3, hfz14_4⟩ := cz5_ BK121.out) | ((with_reducible refine gate_builtin (b := .append) (xs := #[.tmp 37, .tmp 40]) rfl ?_); at_builtin; refine Kd.Q_append Kd.float (w0 := w) w.heap.size rfl (.tmp 37) (.tmp 40) 25 55 (.float .f64 0) 8 rfl Try.underlying25 info55 rfl (by decide) (by omega) u8 x8_1 ((rd_T77 l1 (rd l2 x17_1)).f4) [.float .f64 ((rd_T77 l1 (rd l2 x17_1)).f4)] (fun k_ => some k_ ≠ (u7 : Value).ownBlock) (fun _ => False) rfl (by first | (go_simp; done) | (go_simp; rfl)) ?aP (fun _ hk => hk.elim) ?aF ?aO ?aB ?aS ?aL ?_; (case aP => exact rfl); (case aB => exact b_); (case aF => exact (fun k_ hk => Kd.fresh' (Kd.R_lt (by refine r_ ?_; exact (Kd.R_mono (Kd.R_far (p := ⟨gb121, 4, none⟩) (Kd.R_far (p := ⟨gb121, 3, none⟩) (Kd.R_far (p := ⟨gb121, 2, none⟩) (Kd.R_far (p := ⟨gb121, 1, none⟩) (Kd.R_far (p := ⟨gb121, 0, none⟩) (Kd.R_types HO_7.out BK121.out (by decide)) (fun _ hk => hk.2) (.int .i64 ((rd_T77 l1 (rd l2 x17_1)).f0))) (fun _ hk => hk.2) (.int .i64 ((rd_T77 l1 (rd l2 x17_1)).f1))) (fun _ hk => hk.2) (.int .i64 ((rd_T77 l1 (rd l2 x17_1)).f2))) (fun _ hk => hk.2) (.bool true)) (fun _ hk => hk.2) (.float .f64 ((rd_T77 l1 (rd l2 x17_1)).f4))) (fun _ h_ => h_.1)))) k_ hk)); (case aO => exact (by (with_reducible repeat (first | apply Kd.Q_alloc | apply Kd.Q_drewN | apply Kd.Q_drew)); exact Kd.Q_mono (Kd.Q_far (p := ⟨gb121, 4, none⟩) (Kd.Q_far (p := ⟨gb121, 3, none⟩) (Kd.Q_far (p := ⟨gb121, 2, none⟩) (Kd.Q_far (p := ⟨gb121, 1, none⟩) (Kd.Q_far (p := ⟨gb121, 0, none⟩) (Kd.Q_types HO_8.out BK121.out (by decide)) (fun _ hk => hk.2) (.int .i64 ((rd_T77 l1 (rd l2 x17_1)).f0))) (fun _ hk => hk.2) (.int .i64 ((rd_T77 l1 (rd l2 x17_1)).f1))) (fun _ hk => hk.2) (.int .i64 ((rd_T77 l1 (rd l2 x17_1)).f2))) (fun _ hk => hk.2) (.bool true)) (fun _ hk => hk.2) (.float .f64 ((rd_T77 l1 (rd l2 x17_1)).f4))) (fun _ hk => hk.1))); (case aS => exact (below_size b_)); (case aL => have := LMc11.out; omega); intro v123 w15 ho hb hg hat; rw [← Ny122.out] at ho; have n0_ := a_ (Kd.R_after (ok := (fun _ => True)) (by refine r_ ?_; exact Kd.R_mono (Kd.R_far (p := ⟨gb121, 4, none⟩) (Kd.R_far (p := ⟨gb121, 3, none⟩) (Kd.R_far (p := ⟨gb121, 2, none⟩) (Kd.R_far (p := ⟨gb121, 1, none⟩) (Kd.R_far (p := ⟨gb121, 0, none⟩) (Kd.R_types HO_7.out BK121.out (by decide)) (fun _ hk => hk.2) (.int .i64 ((rd_T77 l1 (rd l2 x17_1)).f0))) (fun _ hk => hk.2) (.int .i64 ((rd_T77 l1 (rd l2 x17_1)).f1))) (fun _ hk => hk.2) (.int .i64 ((rd_T77 l1 (rd l2 x17_1)).f2))) (fun _ hk => hk.2) (.bool true)) (fun _ hk => hk.2) (.float .f64 ((rd_T77 l1 (rd l2 x17_1)).f4))) (fun _ hk => ⟨trivial, hk.1⟩)) hg hat); have n1_ := a_ (blk_grown (g := gb121) (o := .cells #[.int .i64 ((rd_T77 l1 (rd l2 x17_1)).f0), .int .i64 ((rd_T77 l1 (rd l2 x17_1)).f1), .int .i64 ((rd_T77 l1 (rd l2 x17_1)).f2), .bool true, .float .f64 ((rd_T77 l1 (rd l2 x17_1)).f4)] 77 (0, 0)) (by refine q_ ?_; refine blk_put (cs := #[.int .i64 ((rd_T77 l1 (rd l2 x17_1)).f0), .int .i64 ((rd_T77 l1 (rd l2 x17_1)).f1), .int .i64 ((rd_T77 l1 (rd l2 x17_1)).f2), .bool true, .float .f64 0]) ?_ 4 _ rfl; refine q_ ?_; refine blk_put (cs := #[.int .i64 ((rd_T77 l1 (rd l2 x17_1)).f0), .int .i64 ((rd_T77 l1 (rd l2 x17_1)).f1), .int .i64 ((rd_T77 l1 (rd l2 x17_1)).f2), .bool false, .float .f64 0]) ?_ 3 _ rfl; refine q_ ?_; refine blk_put (cs := #[.int .i64 ((rd_T77 l1 (rd l2 x17_1)).f0), .int .i64 ((rd_T77 l1 (rd l2 x17_1)).f1), .int .i64 0, .bool false, .float .f64 0]) ?_ 2 _ rfl; refine q_ ?_; refine blk_put (cs := #[.int .i64 ((rd_T77 l1 (rd l2 x17_1)).f0), .int .i64 0, .int .i64 0, .bool false, .float .f64 0]) ?_ 1 _ rfl; refine q_ ?_; refine blk_put (cs := #[.int .i64 0, .int .i64 0, .int .i64 0, .bool false, .float .f64 0]) ?_ 0 _ rfl; exact q_ BK121.out) hg (Kd.Q_ne HO_8.out BK121.out (by decide))); have n2_ := a_ (hb); have n3_ := a_ (ho); clear HO_7; clear BK121; clear HB; clear HO_8; have HO_7 := n0_; have BK121 := n1_; have HB := n2_; have HO124 := n3_; clear n0_ n1_ n2_ n3_; clear ho hb hg hat) | ((with_reducible refine gate_builtin (b := .append) (xs := #[.tmp 53, .tmp 55]) rfl ?_); at_builtin; refine Kd.R_append Kd.float (w0 := w) w.heap.size rfl (.tmp 53) (.tmp 55) 25 55 (.float .f64 0) 8 rfl Try.underlying25 info55 rfl (by decide) (by omega) u7 x7_1 ((rd_T77 l1 (rd l2 x17_1)).f4) [.float .f64 ((rd_T77 l1 (rd l2 x17_1)).f4)] (fun k_ => some k_ ≠ (v123 : Value).ownBlock) (fun _ => False) rfl rfl ?aP (fun _ hk => hk.elim) ?aF ?aO ?aB ?aS ?aL ?_; (case aP => exact rfl); (case aB => exact b_); (case aF => exact (fun k_ hk => Kd.fresh' (Kd.Q_lt (by (with_reducible repeat (first | apply Kd.Q_alloc | apply Kd.Q_drewN | apply Kd.Q_drew)); exact HO124.out)) k_ hk)); (case aO => exact (by refine r_ ?_; exact Kd.R_mono HO_7.out (fun _ hk => hk.2))); (case aS => exact (below_size b_)); (case aL => have := LMc12.out; omega); intro v126 w16 ho hb hg hat; rw [← Ny125.out] at ho; have n0_ := a_ (blk_grown (g := gb121) (o := .cells #[.int .i64 ((rd_T77 l1 (rd l2 x17_1)).f0), .int .i64 ((rd_T77 l1 (rd l2 x17_1)).f1), .int .i64 ((rd_T77 l1 (rd l2 x17_1)).f2), .bool true, .float .f64 ((rd_T77 l1 (rd l2 x17_1)).f4)] 77 (0, 0)) (q_ BK121.out) hg (Kd.R_ne HO_7.out BK121.out (by decide))); have n1_ := a_ (Kd.Q_after (ok := (fun _ => True)) (by (with_reducible repeat (first | apply Kd.Q_alloc | apply Kd.Q_drewN | apply Kd.Q_drew)); exact Kd.Q_mono HO124.out (fun _ hk => ⟨trivial, hk⟩)) hg hat); have n2_ := a_ (hb); have n3_ := a_ (ho); clear BK121; clear HO124; clear HB; clear HO_7; have BK121 := n0_; have HO124 := n1_; have HB := n2_; have HO127 := n3_; clear n0_ n1_ n2_ n3_; clear ho hb hg hat))
     go_roundg k1
     case measure => have := HK1.out; omega
     case rel => exact ⟨r1_, (y125), (y122), ((rd_T77 l1 (rd l2 x17_1)).f4), (wrap64 (x17_1 + 1)), (by first | rfl | (simp; done) | (simp [*]; done)), (by first | rfl | (simp; done) | (simp [*]; done)), H', ⟨by have := HK1.out; omega⟩, ⟨by exact r_ HO127.out⟩, ⟨by (with_reducible repeat (first | apply Kd.Q_alloc | apply Kd.Q_drewN | apply Kd.Q_drew)); exact Kd.Q_mono HO124.out (fun _ hk => hk.2)⟩, HE, ⟨b_⟩⟩
    ·replace c10 := Bool.eq_false_iff.mpr c10
     subst c10
     rw [if_neg (show ¬ (false = true) by decide)] at H
     by_cases c17 : a0 = 1
     ·rw [if_pos c17] at H
      have c17b0 := beq_iff_eq.mpr c17
      have c17b1 := bne_eq_false_iff_eq.mpr c17
      clear c17
      have c18 := it_ H
      rw [if_pos c18] at H; have LMc18 := a_ c18; clear c18
      obtain ⟨y128, hy128⟩ : ∃ y_ : List Nat, y_ = (x7_1 ++ [x9_1]) := ⟨_, rfl⟩
      replace H : (spec_l16Play.l0 k1 a0 l1 y128 x8_1 x9_1 l2 (l2.length : Int) (wrap64 (x17_1 + 1))) = some r1_ := by first|(rw [hy128]; with_reducible exact H)|(rw [hy128]; exact (Option.bind_some _ _).symm.trans H)|(rw [hy128]; exact H)|exact H
      have Ny128 := a_ hy128; clear hy128
      have H' := a_ H
      clear H
      have p119 : 0 ≤ (x17_1 : Int) := od_
      have q119 : x17_1 < (l2.length : Int) := od_
      obtain ⟨ad119, e119, hx119_0⟩ := Kd.at_int HR2.out x17_1 p119 q119
      cases e119
      try replace hx119_0 := cl_ HB.out hx119_0
      replace p119 := eq_true p119; replace q119 := eq_true q119
      have p120 : 0 ≤ ((rd l2 x17_1) : Int) := od_
      have q120 : (rd l2 x17_1) < (l1.length : Int) := od_
      obtain ⟨ad120, e120, hx120_0, hx120_1, hx120_2, hx120_3, hx120_4⟩ := at_T77 HR1.out (rd l2 x17_1) p120 q120
      (try rw [← Nbq9.out] at hx120_3)
      cases e120
      try replace hx120_0 := cl_ HB.out hx120_0
      try replace hx120_1 := cl_ HB.out hx120_1
      try replace hx120_2 := cl_ HB.out hx120_2
      try replace hx120_3 := cl_ HB.out hx120_3
      try replace hx120_4 := cl_ HB.out hx120_4
      replace p120 := eq_true p120; replace q120 := eq_true q120
      go_wp2_with (first | ((with_reducible refine gate_dst (N := 12) rfl ?_); refine box_event ?hg (N := 12) ?hd (cs := #[.int .i64 0, .int .i64 0, .int .i64 0, .bool false, .float .f64 0]) (t := 77) ?hr ?_; (case hd => rfl); (case hg => rfl); (case hr => first | (go_simp; done) | (go_simp; rfl)); intro gb121 hg w19 hbox hb; have n0_ := a_ (Kd.R_below (r_ HO_7.out) hb); have n1_ := a_ (Kd.Q_below (by (with_reducible repeat (first | apply Kd.Q_alloc | apply Kd.Q_drewN | apply Kd.Q_drew)); exact HO_8.out) hb); have n2_ := a_ (below_step b_ hb); have n3_ := a_ (hbox); have n4_ := a_ ((by rw [hg]; exact (below_size b_) : w.heap.size ≤ gb121)); have n5_ := a_ ((by rw [hg]; exact (below_size b_) : w.heap.size ≤ gb121)); clear HO_7; clear HO_8; clear HB; have HO_7 := n0_; have HO_8 := n1_; have HB := n2_; have BK121 := n3_; have GW121 := n4_; have GE121 := n5_; clear n0_ n1_ n2_ n3_ n4_ n5_; clear hb hbox hg; obtain ⟨hcz20_0, hcz20_1, hcz20_2, hcz20_3, hcz20_4, hfz20_0, hfz20_1, hfz20_2, hfz20_3, hfz20_4⟩ := cz5_ BK121.out) | ((with_reducible refine gate_builtin (b := .append) (xs := #[.tmp 53, .tmp 55]) rfl ?_); at_builtin; refine Kd.R_append Kd.float (w0 := w) w.heap.size rfl (.tmp 53) (.tmp 55) 25 55 (.float .f64 0) 8 rfl Try.underlying25 info55 rfl (by decide) (by omega) u7 x7_1 x9_1 [.float .f64 x9_1] (fun k_ => some k_ ≠ (u8 : Value).ownBlock) (fun _ => False) rfl (by first | (go_simp; done) | (go_simp; rfl)) ?aP (fun _ hk => hk.elim) ?aF ?aO ?aB ?aS ?aL ?_; (case aP => exact rfl); (case aB => exact b_); (case aF => exact (fun k_ hk => Kd.fresh' (Kd.Q_lt (by (with_reducible repeat (first | apply Kd.Q_alloc | apply Kd.Q_drewN | apply Kd.Q_drew)); exact (Kd.Q_mono (Kd.Q_far (p := ⟨gb121, 4, none⟩) (Kd.Q_far (p := ⟨gb121, 3, none⟩) (Kd.Q_far (p := ⟨gb121, 2, none⟩) (Kd.Q_far (p := ⟨gb121, 1, none⟩) (Kd.Q_far (p := ⟨gb121, 0, none⟩) (Kd.Q_types HO_8.out BK121.out (by decide)) (fun _ hk => hk.2) (.int .i64 ((rd_T77 l1 (rd l2 x17_1)).f0))) (fun _ hk => hk.2) (.int .i64 ((rd_T77 l1 (rd l2 x17_1)).f1))) (fun _ hk => hk.2) (.int .i64 ((rd_T77 l1 (rd l2 x17_1)).f2))) (fun _ hk => hk.2) (.bool false)) (fun _ hk => hk.2) (.float .f64 ((rd_T77 l1 (rd l2 x17_1)).f4))) (fun _ h_ => h_.1)))) k_ hk)); (case aO => exact (by refine r_ ?_; exact Kd.R_mono (Kd.R_far (p := ⟨gb121, 4, none⟩) (Kd.R_far (p := ⟨gb121, 3, none⟩) (Kd.R_far (p := ⟨gb121, 2, none⟩) (Kd.R_far (p := ⟨gb121, 1, none⟩) (Kd.R_far (p := ⟨gb121, 0, none⟩) (Kd.R_types HO_7.out BK121.out (by decide)) (fun _ hk => hk.2) (.int .i64 ((rd_T77 l1 (rd l2 x17_1)).f0))) (fun _ hk => hk.2) (.int .i64 ((rd_T77 l1 (rd l2 x17_1)).f1))) (fun _ hk => hk.2) (.int .i64 ((rd_T77 l1 (rd l2 x17_1)).f2))) (fun _ hk => hk.2) (.bool false)) (fun _ hk => hk.2) (.float .f64 ((rd_T77 l1 (rd l2 x17_1)).f4))) (fun _ hk => hk.1))); (case aS => exact (below_size b_)); (case aL => have := LMc18.out; omega); intro v129 w21 ho hb hg hat; rw [← Ny128.out] at ho; have n0_ := a_ (Kd.Q_after (ok := (fun _ => True)) (by (with_reducible repeat (first | apply Kd.Q_alloc | apply Kd.Q_drewN | apply Kd.Q_drew)); exact Kd.Q_mono (Kd.Q_far (p := ⟨gb121, 4, none⟩) (Kd.Q_far (p := ⟨gb121, 3, none⟩) (Kd.Q_far (p := ⟨gb121, 2, none⟩) (Kd.Q_far (p := ⟨gb121, 1, none⟩) (Kd.Q_far (p := ⟨gb121, 0, none⟩) (Kd.Q_types HO_8.out BK121.out (by decide)) (fun _ hk => hk.2) (.int .i64 ((rd_T77 l1 (rd l2 x17_1)).f0))) (fun _ hk => hk.2) (.int .i64 ((rd_T77 l1 (rd l2 x17_1)).f1))) (fun _ hk => hk.2) (.int .i64 ((rd_T77 l1 (rd l2 x17_1)).f2))) (fun _ hk => hk.2) (.bool false)) (fun _ hk => hk.2) (.float .f64 ((rd_T77 l1 (rd l2 x17_1)).f4))) (fun _ hk => ⟨trivial, hk.1⟩)) hg hat); have n1_ := a_ (blk_grown (g := gb121) (o := .cells #[.int .i64 ((rd_T77 l1 (rd l2 x17_1)).f0), .int .i64 ((rd_T77 l1 (rd l2 x17_1)).f1), .int .i64 ((rd_T77 l1 (rd l2 x17_1)).f2), .bool false, .float .f64 ((rd_T77 l1 (rd l2 x17_1)).f4)] 77 (0, 0)) (by refine q_ ?_; refine blk_put (cs := #[.int .i64 ((rd_T77 l1 (rd l2 x17_1)).f0), .int .i64 ((rd_T77 l1 (rd l2 x17_1)).f1), .int .i64 ((rd_T77 l1 (rd l2 x17_1)).f2), .bool false, .float .f64 0]) ?_ 4 _ rfl; refine q_ ?_; refine blk_put (cs := #[.int .i64 ((rd_T77 l1 (rd l2 x17_1)).f0), .int .i64 ((rd_T77 l1 (rd l2 x17_1)).f1), .int .i64 ((rd_T77 l1 (rd l2 x17_1)).f2), .bool false, .float .f64 0]) ?_ 3 _ rfl; refine q_ ?_; refine blk_put (cs := #[.int .i64 ((rd_T77 l1 (rd l2 x17_1)).f0), .int .i64 ((rd_T77 l1 (rd l2 x17_1)).f1), .int .i64 0, .bool false, .float .f64 0]) ?_ 2 _ rfl; refine q_ ?_; refine blk_put (cs := #[.int .i64 ((rd_T77 l1 (rd l2 x17_1)).f0), .int .i64 0, .int .i64 0, .bool false, .float .f64 0]) ?_ 1 _ rfl; refine q_ ?_; refine blk_put (cs := #[.int .i64 0, .int .i64 0, .int .i64 0, .bool false, .float .f64 0]) ?_ 0 _ rfl; exact q_ BK121.out) hg (Kd.R_ne HO_7.out BK121.out (by decide))); have n2_ := a_ (hb); have n3_ := a_ (ho); clear HO_8; clear BK121; clear HB; clear HO_7; have HO_8 := n0_; have BK121 := n1_; have HB := n2_; have HO130 := n3_; clear n0_ n1_ n2_ n3_; clear ho hb hg hat))
      go_roundg k1
      case measure => have := HK1.out; omega
      case rel => exact ⟨r1_, (y128), (x8_1), (x9_1), (wrap64 (x17_1 + 1)), (by first | rfl | (simp; done) | (simp [*]; done)), (by first | rfl | (simp; done) | (simp [*]; done)), H', ⟨by have := HK1.out; omega⟩, ⟨by exact r_ HO130.out⟩, ⟨by (with_reducible repeat (first | apply Kd.Q_alloc | apply Kd.Q_drewN | apply Kd.Q_drew)); exact Kd.Q_mono HO_8.out (fun _ hk => hk.2)⟩, HE, ⟨b_⟩⟩
     ·rw [if_neg c17] at H
      have c17b0 := beq_eq_false_iff_ne.mpr c17
      have c17b1 := bne_iff_ne.mpr c17
      by_cases c22 : (x8_1.length : Int) = 0
      ·rw [if_pos c22] at H
       have c22b0 := beq_iff_eq.mpr c22
       have c22b1 := bne_eq_false_iff_eq.mpr c22
       clear c22
       have c23 := it_ H
       rw [if_pos c23] at H; have CNAN_ := a_ c23; clear c23
       have c24 := it_ H
       rw [if_pos c24] at H; have LMc24 := a_ c24; clear c24
       have H' := a_ H
       clear H
       have p119 : 0 ≤ (x17_1 : Int) := od_
       have q119 : x17_1 < (l2.length : Int) := od_
       obtain ⟨ad119, e119, hx119_0⟩ := Kd.at_int HR2.out x17_1 p119 q119
       cases e119
       try replace hx119_0 := cl_ HB.out hx119_0
       replace p119 := eq_true p119; replace q119 := eq_true q119
       have p120 : 0 ≤ ((rd l2 x17_1) : Int) := od_
       have q120 : (rd l2 x17_1) < (l1.length : Int) := od_
       obtain ⟨ad120, e120, hx120_0, hx120_1, hx120_2, hx120_3, hx120_4⟩ := at_T77 HR1.out (rd l2 x17_1) p120 q120
       (try rw [← Nbq9.out] at hx120_3)
       cases e120
       try replace hx120_0 := cl_ HB.out hx120_0
       try replace hx120_1 := cl_ HB.out hx120_1
       try replace hx120_2 := cl_ HB.out hx120_2
       try replace hx120_3 := cl_ HB.out hx120_3
       try replace hx120_4 := cl_ HB.out hx120_4
       replace p120 := eq_true p120; replace q120 := eq_true q120
       go_wp2_with (first | ((with_reducible refine gate_dst (N := 52) rfl ?_); refine quo_event (t := 55) (t' := 55) (x := .tmp 50) (y := .tmp 51) (p := 0) (q := 0) ?qg ?qo ?qx ?qy ?qn ?_; (case qg => rfl); (case qo => rfl); (case qx => rfl); (case qy => rfl); (case qn => exact CNAN_.out); intro nv_ hnv_; have HNV_ := a_ hnv_; clear hnv_; have m0_ := a_ (Kd.R_drew HO_7.out); have m1_ := a_ (Kd.Q_drew HO_8.out); have m2_ := a_ (below_drew1 HB.out); have m3_ := a_ (blk_drew BK121.out); clear HO_7 HO_8 HB BK121; have HO_7 := m0_; have HO_8 := m1_; have HB := m2_; have BK121 := m3_; clear m0_ m1_ m2_ m3_; simp only [drew_setCell]; generalize w25.drew = w25 at HO_7 HO_8 HB BK121 ⊢) | ((with_reducible refine gate_dst (N := 12) rfl ?_); refine box_event ?hg (N := 12) ?hd (cs := #[.int .i64 0, .int .i64 0, .int .i64 0, .bool false, .float .f64 0]) (t := 77) ?hr ?_; (case hd => rfl); (case hg => rfl); (case hr => first | (go_simp; done) | (go_simp; rfl)); intro gb121 hg w25 hbox hb; have n0_ := a_ (Kd.R_below (r_ HO_7.out) hb); have n1_ := a_ (Kd.Q_below (by (with_reducible repeat (first | apply Kd.Q_alloc | apply Kd.Q_drewN | apply Kd.Q_drew)); exact HO_8.out) hb); have n2_ := a_ (below_step b_ hb); have n3_ := a_ (hbox); have n4_ := a_ ((by rw [hg]; exact (below_size b_) : w.heap.size ≤ gb121)); have n5_ := a_ ((by rw [hg]; exact (below_size b_) : w.heap.size ≤ gb121)); clear HO_7; clear HO_8; clear HB; have HO_7 := n0_; have HO_8 := n1_; have HB := n2_; have BK121 := n3_; have GW121 := n4_; have GE121 := n5_; clear n0_ n1_ n2_ n3_ n4_ n5_; clear hb hbox hg; obtain ⟨hcz26_0, hcz26_1, hcz26_2, hcz26_3, hcz26_4, hfz26_0, hfz26_1, hfz26_2, hfz26_3, hfz26_4⟩ := cz5_ BK121.out; obtain ⟨Ao27, co27, eo27, _⟩ := Kd.Q_slice HO_8.out; subst eo27) | ((with_reducible refine gate_builtin (b := .append) (xs := #[.tmp 53, .tmp 55]) rfl ?_); at_builtin; refine Kd.R_append Kd.float (w0 := w) w.heap.size rfl (.tmp 53) (.tmp 55) 25 55 (.float .f64 0) 8 rfl Try.underlying25 info55 rfl (by decide) (by omega) u7 x7_1 nv_ [.float .f64 nv_] (fun k_ => some k_ ≠ (.slice Ao27 x8_1.length co27 : Value).ownBlock) (fun _ => False) rfl (by first | (go_simp; done) | (go_simp; rfl)) ?aP (fun _ hk => hk.elim) ?aF ?aO ?aB ?aS ?aL ?_; (case aP => exact rfl); (case aB => exact b_); (case aF => exact (fun k_ hk => Kd.fresh' (Kd.Q_lt (by (with_reducible repeat (first | apply Kd.Q_alloc | apply Kd.Q_drewN | apply Kd.Q_drew)); exact (Kd.Q_mono (Kd.Q_far (p := ⟨gb121, 4, none⟩) (Kd.Q_far (p := ⟨gb121, 3, none⟩) (Kd.Q_far (p := ⟨gb121, 2, none⟩) (Kd.Q_far (p := ⟨gb121, 1, none⟩) (Kd.Q_far (p := ⟨gb121, 0, none⟩) (Kd.Q_types HO_8.out BK121.out (by decide)) (fun _ hk => hk.2) (.int .i64 ((rd_T77 l1 (rd l2 x17_1)).f0))) (fun _ hk => hk.2) (.int .i64 ((rd_T77 l1 (rd l2 x17_1)).f1))) (fun _ hk => hk.2) (.int .i64 ((rd_T77 l1 (rd l2 x17_1)).f2))) (fun _ hk => hk.2) (.bool false)) (fun _ hk => hk.2) (.float .f64 ((rd_T77 l1 (rd l2 x17_1)).f4))) (fun _ h_ => h_.1)))) k_ hk)); (case aO => exact (by refine r_ ?_; exact Kd.R_mono (Kd.R_far (p := ⟨gb121, 4, none⟩) (Kd.R_far (p := ⟨gb121, 3, none⟩) (Kd.R_far (p := ⟨gb121, 2, none⟩) (Kd.R_far (p := ⟨gb121, 1, none⟩) (Kd.R_far (p := ⟨gb121, 0, none⟩) (Kd.R_types HO_7.out BK121.out (by decide)) (fun _ hk => hk.2) (.int .i64 ((rd_T77 l1 (rd l2 x17_1)).f0))) (fun _ hk => hk.2) (.int .i64 ((rd_T77 l1 (rd l2 x17_1)).f1))) (fun _ hk => hk.2) (.int .i64 ((rd_T77 l1 (rd l2 x17_1)).f2))) (fun _ hk => hk.2) (.bool false)) (fun _ hk => hk.2) (.float .f64 ((rd_T77 l1 (rd l2 x17_1)).f4))) (fun _ hk => hk.1))); (case aS => exact (below_size b_)); (case aL => have := LMc24.out; omega); intro v132 w28 ho hb hg hat; obtain ⟨y131, hy_⟩ : ∃ y_ : List Nat, y_ = (x7_1 ++ [nv_]) := ⟨_, rfl⟩; rw [← hy_] at ho; have Ny131 := a_ hy_; clear hy_; have n0_ := a_ (Kd.Q_after (ok := (fun _ => True)) (by (with_reducible repeat (first | apply Kd.Q_alloc | apply Kd.Q_drewN | apply Kd.Q_drew)); exact Kd.Q_mono (Kd.Q_far (p := ⟨gb121, 4, none⟩) (Kd.Q_far (p := ⟨gb121, 3, none⟩) (Kd.Q_far (p := ⟨gb121, 2, none⟩) (Kd.Q_far (p := ⟨gb121, 1, none⟩) (Kd.Q_far (p := ⟨gb121, 0, none⟩) (Kd.Q_types HO_8.out BK121.out (by decide)) (fun _ hk => hk.2) (.int .i64 ((rd_T77 l1 (rd l2 x17_1)).f0))) (fun _ hk => hk.2) (.int .i64 ((rd_T77 l1 (rd l2 x17_1)).f1))) (fun _ hk => hk.2) (.int .i64 ((rd_T77 l1 (rd l2 x17_1)).f2))) (fun _ hk => hk.2) (.bool false)) (fun _ hk => hk.2) (.float .f64 ((rd_T77 l1 (rd l2 x17_1)).f4))) (fun _ hk => ⟨trivial, hk.1⟩)) hg hat); have n1_ := a_ (blk_grown (g := gb121) (o := .cells #[.int .i64 ((rd_T77 l1 (rd l2 x17_1)).f0), .int .i64 ((rd_T77 l1 (rd l2 x17_1)).f1), .int .i64 ((rd_T77 l1 (rd l2 x17_1)).f2), .bool false, .float .f64 ((rd_T77 l1 (rd l2 x17_1)).f4)] 77 (0, 0)) (by refine q_ ?_; refine blk_put (cs := #[.int .i64 ((rd_T77 l1 (rd l2 x17_1)).f0), .int .i64 ((rd_T77 l1 (rd l2 x17_1)).f1), .int .i64 ((rd_T77 l1 (rd l2 x17_1)).f2), .bool false, .float .f64 0]) ?_ 4 _ rfl; refine q_ ?_; refine blk_put (cs := #[.int .i64 ((rd_T77 l1 (rd l2 x17_1)).f0), .int .i64 ((rd_T77 l1 (rd l2 x17_1)).f1), .int .i64 ((rd_T77 l1 (rd l2 x17_1)).f2), .bool false, .float .f64 0]) ?_ 3 _ rfl; refine q_ ?_; refine blk_put (cs := #[.int .i64 ((rd_T77 l1 (rd l2 x17_1)).f0), .int .i64 ((rd_T77 l1 (rd l2 x17_1)).f1), .int .i64 0, .bool false, .float .f64 0]) ?_ 2 _ rfl; refine q_ ?_; refine blk_put (cs := #[.int .i64 ((rd_T77 l1 (rd l2 x17_1)).f0), .int .i64 0, .int .i64 0, .bool false, .float .f64 0]) ?_ 1 _ rfl; refine q_ ?_; refine blk_put (cs := #[.int .i64 0, .int .i64 0, .int .i64 0, .bool false, .float .f64 0]) ?_ 0 _ rfl; exact q_ BK121.out) hg (Kd.R_ne HO_7.out BK121.out (by decide))); have n2_ := a_ (hb); have n3_ := a_ (ho); clear HO_8; clear BK121; clear HB; clear HO_7; have HO_8 := n0_; have BK121 := n1_; have HB := n2_; have HO133 := n3_; clear n0_ n1_ n2_ n3_; clear ho hb hg hat))
       go_roundg k1
       case measure => have := HK1.out; omega
       case rel => (obtain ⟨r2_, hr2_, he2_⟩ := spec_l16Play.same k1 ((eqvL.refl x7_1).snoc (.inr ⟨HNV_.out.1, nan_canon, HNV_.out.2⟩)) H'.out; exact ⟨r2_, (y131), (x8_1), (x9_1), (wrap64 (x17_1 + 1)), (by first | rfl | (simp; done) | (simp [*]; done)), (by first | rfl | (simp; done) | (simp [*]; done)), ⟨by rw [Ny131.out]; exact hr2_⟩, ⟨by have := HK1.out; omega⟩, ⟨by exact r_ HO133.out⟩, ⟨by (with_reducible repeat (first | apply Kd.Q_alloc | apply Kd.Q_drewN | apply Kd.Q_drew)); exact Kd.Q_mono HO_8.out (fun _ hk => hk.2)⟩, ⟨eqvL.trans he2_ HE.out⟩, ⟨b_⟩⟩)
      ·rw [if_neg c22] at H
       have c22b0 := beq_eq_false_iff_ne.mpr c22
       have c22b1 := bne_iff_ne.mpr c22
       have c22b2 : ¬ (x8_1 = []) := fun h_ => c22 (by rw [h_]; rfl)
       have c29 := it_ H
       rw [if_pos c29] at H
       have c29b0 := decide_eq_true c29
       have c29b1 : decide (0 < x8_1.length) = true := decide_eq_true (by omega)
       clear c29
       have c30 := it_ H
       rw [if_pos c30] at H
       have c30b0 := eq_true c30
       have c30b1 := decide_eq_true c30
       clear c30
       obtain ⟨y135, hy135⟩ : ∃ y_ : List Nat, y_ = (x8_1.drop (1 : Int).toNat) := ⟨_, rfl⟩
       replace H : (if x7_1.length < 17592186044416 then (spec_l16Play.l0 k1 a0 l1 (x7_1 ++ [rdOf (0 : Nat) x8_1 0]) y135 x9_1 l2 (l2.length : Int) (wrap64 (x17_1 + 1))) else (none)) = some r1_ := by first|(rw [hy135]; with_reducible exact H)|(rw [hy135]; exact (Option.bind_some _ _).symm.trans H)|(rw [hy135]; exact H)|exact H
       have Ny135 := a_ hy135; clear hy135
       have c31 := it_ H
       rw [if_pos c31] at H; have LMc31 := a_ c31; clear c31
       obtain ⟨y138, hy138⟩ : ∃ y_ : List Nat, y_ = (x7_1 ++ [rdOf (0 : Nat) x8_1 0]) := ⟨_, rfl⟩
       replace H : (spec_l16Play.l0 k1 a0 l1 y138 y135 x9_1 l2 (l2.length : Int) (wrap64 (x17_1 + 1))) = some r1_ := by first|(rw [hy138]; with_reducible exact H)|(rw [hy138]; exact (Option.bind_some _ _).symm.trans H)|(rw [hy138]; exact H)|exact H
       have Ny138 := a_ hy138; clear hy138
       have H' := a_ H
       clear H
       have p119 : 0 ≤ (x17_1 : Int) := od_
       have q119 : x17_1 < (l2.length : Int) := od_
       obtain ⟨ad119, e119, hx119_0⟩ := Kd.at_int HR2.out x17_1 p119 q119
       cases e119
       try replace hx119_0 := cl_ HB.out hx119_0
       replace p119 := eq_true p119; replace q119 := eq_true q119
       have p120 : 0 ≤ ((rd l2 x17_1) : Int) := od_
       have q120 : (rd l2 x17_1) < (l1.length : Int) := od_
       obtain ⟨ad120, e120, hx120_0, hx120_1, hx120_2, hx120_3, hx120_4⟩ := at_T77 HR1.out (rd l2 x17_1) p120 q120
       (try rw [← Nbq9.out] at hx120_3)
       cases e120
       try replace hx120_0 := cl_ HB.out hx120_0
       try replace hx120_1 := cl_ HB.out hx120_1
       try replace hx120_2 := cl_ HB.out hx120_2
       try replace hx120_3 := cl_ HB.out hx120_3
       try replace hx120_4 := cl_ HB.out hx120_4
       replace p120 := eq_true p120; replace q120 := eq_true q120
       go_wp2_with (first | ((with_reducible refine gate_dst (N := 12) rfl ?_); refine box_event ?hg (N := 12) ?hd (cs := #[.int .i64 0, .int .i64 0, .int .i64 0, .bool false, .float .f64 0]) (t := 77) ?hr ?_; (case hd => rfl); (case hg => rfl); (case hr => first | (go_simp; done) | (go_simp; rfl)); intro gb121 hg w32 hbox hb; have n0_ := a_ (Kd.R_below (r_ HO_7.out) hb); have n1_ := a_ (Kd.Q_below (by (with_reducible repeat (first | apply Kd.Q_alloc | apply Kd.Q_drewN | apply Kd.Q_drew)); exact HO_8.out) hb); have n2_ := a_ (below_step b_ hb); have n3_ := a_ (hbox); have n4_ := a_ ((by rw [hg]; exact (below_size b_) : w.heap.size ≤ gb121)); have n5_ := a_ ((by rw [hg]; exact (below_size b_) : w.heap.size ≤ gb121)); clear HO_7; clear HO_8; clear HB; have HO_7 := n0_; have HO_8 := n1_; have HB := n2_; have BK121 := n3_; have GW121 := n4_; have GE121 := n5_; clear n0_ n1_ n2_ n3_ n4_ n5_; clear hb hbox hg; obtain ⟨hcz33_0, hcz33_1, hcz33_2, hcz33_3, hcz33_4, hfz33_0, hfz33_1, hfz33_2, hfz33_3, hfz33_4⟩ := cz5_ BK121.out) | ((with_reducible refine gate_store (t := 77) (p := 12) rfl ?_); refine store_event (t := 77) (p := 12) (v := ?vo_w34) (w1 := (((((w32.setCell ⟨gb121, 0, none⟩ (.int .i64 ((rd_T77 l1 (rd l2 x17_1)).f0))).setCell ⟨gb121, 1, none⟩ (.int .i64 ((rd_T77 l1 (rd l2 x17_1)).f1))).setCell ⟨gb121, 2, none⟩ (.int .i64 ((rd_T77 l1 (rd l2 x17_1)).f2))).setCell ⟨gb121, 3, none⟩ (.bool false)).setCell ⟨gb121, 4, none⟩ (.float .f64 ((rd_T77 l1 (rd l2 x17_1)).f4)))) ?hg ?ho ?hn ?hr ?_; (case ho => rfl); (case hg => rfl); (case hn => rfl); (case hr => first | (go_simp; done) | (go_simp; rfl)); intro w34 hw; have n0_ : Aside0 (Kd.R Kd.float 55 w34 w.heap.size (fun k_ => some k_ ≠ (u8 : Value).ownBlock) u7 x7_1) := ⟨(by rw [hw]; exact (by refine r_ ?_; exact Kd.R_mono (Kd.R_far (p := ⟨gb121, 4, none⟩) (Kd.R_far (p := ⟨gb121, 3, none⟩) (Kd.R_far (p := ⟨gb121, 2, none⟩) (Kd.R_far (p := ⟨gb121, 1, none⟩) (Kd.R_far (p := ⟨gb121, 0, none⟩) (Kd.R_types HO_7.out BK121.out (by decide)) (fun _ hk => hk.2) (.int .i64 ((rd_T77 l1 (rd l2 x17_1)).f0))) (fun _ hk => hk.2) (.int .i64 ((rd_T77 l1 (rd l2 x17_1)).f1))) (fun _ hk => hk.2) (.int .i64 ((rd_T77 l1 (rd l2 x17_1)).f2))) (fun _ hk => hk.2) (.bool false)) (fun _ hk => hk.2) (.float .f64 ((rd_T77 l1 (rd l2 x17_1)).f4))) (fun _ hk => hk.1)))⟩; have n1_ : Aside0 (Kd.Q Kd.float 55 w34 w.heap.size (fun k_ => some k_ ≠ (u7 : Value).ownBlock) u8 x8_1) := ⟨(by rw [hw]; exact (by (with_reducible repeat (first | apply Kd.Q_alloc | apply Kd.Q_drewN | apply Kd.Q_drew)); exact Kd.Q_mono (Kd.Q_far (p := ⟨gb121, 4, none⟩) (Kd.Q_far (p := ⟨gb121, 3, none⟩) (Kd.Q_far (p := ⟨gb121, 2, none⟩) (Kd.Q_far (p := ⟨gb121, 1, none⟩) (Kd.Q_far (p := ⟨gb121, 0, none⟩) (Kd.Q_types HO_8.out BK121.out (by decide)) (fun _ hk => hk.2) (.int .i64 ((rd_T77 l1 (rd l2 x17_1)).f0))) (fun _ hk => hk.2) (.int .i64 ((rd_T77 l1 (rd l2 x17_1)).f1))) (fun _ hk => hk.2) (.int .i64 ((rd_T77 l1 (rd l2 x17_1)).f2))) (fun _ hk => hk.2) (.bool false)) (fun _ hk => hk.2) (.float .f64 ((rd_T77 l1 (rd l2 x17_1)).f4))) (fun _ hk => hk.1)))⟩; have n2_ : Aside0 (w34.heap[gb121]? = some (.cells #[.int .i64 ((rd_T77 l1 (rd l2 x17_1)).f0), .int .i64 ((rd_T77 l1 (rd l2 x17_1)).f1), .int .i64 ((rd_T77 l1 (rd l2 x17_1)).f2), .bool false, .float .f64 ((rd_T77 l1 (rd l2 x17_1)).f4)] 77 (0, 0))) := ⟨(by rw [hw]; exact (by refine q_ ?_; refine blk_put (cs := #[.int .i64 ((rd_T77 l1 (rd l2 x17_1)).f0), .int .i64 ((rd_T77 l1 (rd l2 x17_1)).f1), .int .i64 ((rd_T77 l1 (rd l2 x17_1)).f2), .bool false, .float .f64 0]) ?_ 4 _ rfl; refine q_ ?_; refine blk_put (cs := #[.int .i64 ((rd_T77 l1 (rd l2 x17_1)).f0), .int .i64 ((rd_T77 l1 (rd l2 x17_1)).f1), .int .i64 ((rd_T77 l1 (rd l2 x17_1)).f2), .bool false, .float .f64 0]) ?_ 3 _ rfl; refine q_ ?_; refine blk_put (cs := #[.int .i64 ((rd_T77 l1 (rd l2 x17_1)).f0), .int .i64 ((rd_T77 l1 (rd l2 x17_1)).f1), .int .i64 0, .bool false, .float .f64 0]) ?_ 2 _ rfl; refine q_ ?_; refine blk_put (cs := #[.int .i64 ((rd_T77 l1 (rd l2 x17_1)).f0), .int .i64 0, .int .i64 0, .bool false, .float .f64 0]) ?_ 1 _ rfl; refine q_ ?_; refine blk_put (cs := #[.int .i64 0, .int .i64 0, .int .i64 0, .bool false, .float .f64 0]) ?_ 0 _ rfl; exact q_ BK121.out))⟩; have n3_ : Aside0 (Below w.heap.size w w34) := ⟨(by rw [hw]; exact b_)⟩; clear hw; clear HO_7; clear HO_8; clear BK121; clear HB; have HO_7 := n0_; have HO_8 := n1_; have BK121 := n2_; have HB := n3_; clear n0_ n1_ n2_ n3_; obtain ⟨hcz35_0, hcz35_1, hcz35_2, hcz35_3, hcz35_4, hfz35_0, hfz35_1, hfz35_2, hfz35_3, hfz35_4⟩ := cz5_ BK121.out; obtain ⟨Ao36, co36, eo36, _⟩ := Kd.Q_slice HO_8.out; subst eo36; have p134 : 0 ≤ (0 : Int) := (by omega); have q134 : 0 < (x8_1.length : Int) := od_; obtain ⟨ad134, e134, hx134_0⟩ := Kd.at_float (Kd.Q_reads' HO_8.out).2.2 0 p134 q134; cases e134; have qi134 : (0 < x8_1.length) = True := eq_true (by omega); (try rw [show ((0 : Int)).toNat = 0 from rfl] at hx134_0); (try rw [Addr.add_zero'] at hx134_0); replace p134 := eq_true p134; replace q134 := eq_true q134; have q37 : (1 : Int) ≤ ((x8_1.length : Int) : Int) := od_; obtain ⟨i037, hi037, _, hsz37, _⟩ := info_parts info55; have hcut37 := cut_from (P := Try.prog) 25 55 .i64 Try.underlying25 hi037 1 hsz37 (some ad134) x8_1.length co36 1 (by omega) q37; have hr37 := Kd.Q_drop (k := (1 : Int).toNat) HO_8.out (by omega); obtain ⟨A37, hA37⟩ : ∃ A1, A1 = (if co36 = (1 : Int).toNat then (some ad134) else ((some ad134) : Option Addr).map (·.add ((1 : Int).toNat * 1))) := ⟨_, rfl⟩; obtain ⟨c37, hc37⟩ : ∃ c1, c1 = co36 - (1 : Int).toNat := ⟨_, rfl⟩; have hy37 : y135.length = x8_1.length - (1 : Int).toNat := (by rw [Ny135.out, List.length_drop]); rw [← Ny135.out] at hr37; rw [← hy37, ← hA37, ← hc37] at hcut37; replace hr37 : Kd.Q Kd.float 55 w34 w.heap.size (fun k_ => some k_ ≠ (u7 : Value).ownBlock) (.slice A37 y135.length c37) y135 := (by rw [hA37, hc37, hy37]; exact hr37); have HE37 : Aside0 ((Value.slice A37 y135.length c37).ownBlock = (.slice (some ad134) x8_1.length co36 : Value).ownBlock) := ⟨by rw [hA37]; split <;> (cases ((some ad134) : Option Addr) <;> rfl)⟩; clear hy37 hi037 hsz37 HO_8 hA37 hc37; have HO137 := a_ hr37; clear hr37; replace q37 := eq_true q37; have n_ := a_ (Kd.R_mono (ok' := fun k_ => some k_ ≠ (.slice A37 y135.length c37 : Value).ownBlock) HO_7.out (fun k_ hk => (by rw [HE37.out]; exact hk))); clear HO_7; have HO_7 := n_; clear n_) | ((with_reducible refine gate_builtin (b := .append) (xs := #[.tmp 53, .tmp 55]) rfl ?_); at_builtin; refine Kd.R_append Kd.float (w0 := w) w.heap.size rfl (.tmp 53) (.tmp 55) 25 55 (.float .f64 0) 8 rfl Try.underlying25 info55 rfl (by decide) (by omega) u7 x7_1 (rdOf (0 : Nat) x8_1 0) [.float .f64 (rdOf (0 : Nat) x8_1 0)] (fun k_ => some k_ ≠ (.slice A37 y135.length c37 : Value).ownBlock) (fun _ => False) rfl rfl ?aP (fun _ hk => hk.elim) ?aF ?aO ?aB ?aS ?aL ?_; (case aP => exact rfl); (case aB => exact b_); (case aF => exact (fun k_ hk => Kd.fresh' (Kd.Q_lt (by (with_reducible repeat (first | apply Kd.Q_alloc | apply Kd.Q_drewN | apply Kd.Q_drew)); exact HO137.out)) k_ hk)); (case aO => exact (r_ HO_7.out)); (case aS => exact (below_size b_)); (case aL => have := LMc31.out; omega); intro v139 w38 ho hb hg hat; rw [← Ny138.out] at ho; have n0_ := a_ (Kd.Q_after (ok := (fun _ => True)) (by (with_reducible repeat (first | apply Kd.Q_alloc | apply Kd.Q_drewN | apply Kd.Q_drew)); exact Kd.Q_mono HO137.out (fun _ hk => ⟨trivial, hk⟩)) hg hat); have n1_ := a_ (blk_grown (g := gb121) (o := .cells #[.int .i64 ((rd_T77 l1 (rd l2 x17_1)).f0), .int .i64 ((rd_T77 l1 (rd l2 x17_1)).f1), .int .i64 ((rd_T77 l1 (rd l2 x17_1)).f2), .bool false, .float .f64 ((rd_T77 l1 (rd l2 x17_1)).f4)] 77 (0, 0)) (q_ BK121.out) hg (Kd.R_ne HO_7.out BK121.out (by decide))); have n2_ := a_ (hb); have n3_ := a_ (ho); clear HO137; clear BK121; clear HB; clear HO_7; have HO137 := n0_; have BK121 := n1_; have HB := n2_; have HO140 := n3_; clear n0_ n1_ n2_ n3_; clear ho hb hg hat))
       go_roundg k1
       case measure => have := HK1.out; omega
       case rel => exact ⟨r1_, (y138), (y135), (x9_1), (wrap64 (x17_1 + 1)), (by first | rfl | (simp; done) | (simp [*]; done)), (by first | rfl | (simp; done) | (simp [*]; done)), H', ⟨by have := HK1.out; omega⟩, ⟨by exact r_ HO140.out⟩, ⟨by (with_reducible repeat (first | apply Kd.Q_alloc | apply Kd.Q_drewN | apply Kd.Q_drew)); exact Kd.Q_mono HO137.out (fun _ hk => hk.2)⟩, HE, ⟨b_⟩⟩
   ·rw [if_neg c4] at H
    have c4b0 := decide_eq_false c4
    clear c4
    obtain rfl := Option.some.inj H
    go_wp2
    go_ret
    exact ⟨_, by first | rfl | (simp [errW_none, errW_some] <;> rfl) | (simp [*, errW_none, errW_some] <;> rfl), _, HE.out, by refine r_ ?_; exact Kd.R_mono HO_7.out (fun _ hk => trivial), b_⟩

/-! ### spec_PlayObject: function 10 -/
def spec_PlayObject.f (k : Nat) (a0 : Int) (l1 : List (S77)) (l2 : List Int) : Option (List Nat × Bool) := (spec_l16Kind.f a0).bind fun t141 => (if t141 = true then ((spec_l16Good.f k l1).bind fun t142 => (if t142 = true then ((spec_l16Order.f k l1 l2).bind fun t143 => (if t143 = true then ((spec_l16Play.f k a0 l1 l2).bind fun t144 => (some (t144, true))) else (some (([] : List Nat), false)))) else (some (([] : List Nat), false)))) else (some (([] : List Nat), false)))
set_option maxHeartbeats 8000000 in
set_option maxRecDepth 100000 in
theorem spec_PlayObject.calls (k : Nat) (a0 : Int) (A1 : Option Addr) (c1 : Nat) (l1 : List (S77)) (A2 : Option Addr) (c2 : Nat) (l2 : List Int) (r1 : List Nat) (r2 : Bool) (w : World) (hr1 : Kd.C k77 w A1 l1.length l1) (hc1 : l1.length ≤ c1) (hr2 : Kd.C (Kd.int .i64) w A2 l2.length l2) (hc2 : l2.length ≤ c2) (h : spec_PlayObject.f k a0 l1 l2 = some (r1, r2)) :
  Calls Try.prog 10 #[.int .i64 a0, .slice A1 l1.length c1, .slice A2 l2.length c2] w fun e w' => ∃ (v0_ : Value) (r_ : List Nat), e = .returned (.tuple #[v0_, .bool r2]) ∧ eqvL r_ r1 ∧ Kd.R Kd.float 55 w' w.heap.size (fun _ => True) v0_ r_ ∧ Below w.heap.size w w' := by
 have HR1 := a_ hr1
 have HC1 := a_ hc1
 clear hr1 hc1
 have HR2 := a_ hr2
 have HC2 := a_ hc2
 clear hr2 hc2
 have HB := a_ (Below.refl w.heap.size w)
 have H : ((spec_l16Kind.f a0).bind fun t141 => (if t141 = true then ((spec_l16Good.f k l1).bind fun t142 => (if t142 = true then ((spec_l16Order.f k l1 l2).bind fun t143 => (if t143 = true then ((spec_l16Play.f k a0 l1 l2).bind fun t144 => (some (t144, true))) else (some (([] : List Nat), false)))) else (some (([] : List Nat), false)))) else (some (([] : List Nat), false)))) = some (r1, r2) := h
 clear h
 replace H := Option.bind_eq_some_iff.mp H
 obtain ⟨t141, A40, H⟩ := H
 try dsimp only at H
 have A4 := a_ A40
 clear A40
 by_cases c5 : t141 = true
 ·subst c5
  rw [if_pos rfl] at H
  replace H := Option.bind_eq_some_iff.mp H
  obtain ⟨t142, A60, H⟩ := H
  try dsimp only at H
  have A6 := a_ A60; clear A60
  by_cases c7 : t142 = true
  ·subst c7
   rw [if_pos rfl] at H
   replace H := Option.bind_eq_some_iff.mp H
   obtain ⟨t143, A80, H⟩ := H
   try dsimp only at H
   have A8 := a_ A80; clear A80
   by_cases c9 : t143 = true
   ·subst c9
    rw [if_pos rfl] at H
    replace H := Option.bind_eq_some_iff.mp H
    obtain ⟨t144, A100, H⟩ := H
    try dsimp only at H
    have A10 := a_ A100; clear A100
    simp only [Option.some.injEq, Prod.mk.injEq] at H
    obtain ⟨rfl, rfl⟩ := H
    go_enter Try.func10, Try.ntmps10
    go_wp2_with (first | ((with_reducible refine gate_callee (f := 58) rfl ?_); refine goesL_ (some 9) rfl rfl Try.func58 (by kernel_rfl) rfl #[.int .i64 a0] rfl la_ ?_; (with_reducible refine (spec_l16Kind.calls a0 true _ A4.out).mono ?_); rintro e w' ⟨rfl, ⟨nd, rfl⟩⟩; refine ⟨_, rfl, ?_⟩) | (go_at_call 59; (with_reducible refine (spec_l16Good.calls k _ _ l1 true _ ?side1 ?side2 A6.out).mono ?_); (case side1 => repeat (first | exact HR1.out | (with_reducible refine Kd.C_alloc ?_ _) | (with_reducible refine Kd.C_drewN ?_ _) | (with_reducible refine Kd.C_drew ?_))); (case side2 => exact HC1.out); rintro e w11 ⟨rfl, hb⟩; have n0_ := a_ (below_step b_ hb); clear HB; have HB := n0_; clear n0_; (try clear hb); (try clear hb2); (try clear hk); (try clear hi)) | (go_at_call 60; (with_reducible refine (spec_l16Order.calls k _ _ l1 _ _ l2 true _ ?side1 ?side2 ?side3 ?side4 A8.out).mono ?_); (case side1 => repeat (first | exact (Kd.C_below HR1.out HB.out) | (with_reducible refine Kd.C_alloc ?_ _) | (with_reducible refine Kd.C_drewN ?_ _) | (with_reducible refine Kd.C_drew ?_))); (case side2 => exact HC1.out); (case side3 => repeat (first | exact (Kd.C_below HR2.out HB.out) | (with_reducible refine Kd.C_alloc ?_ _) | (with_reducible refine Kd.C_drewN ?_ _) | (with_reducible refine Kd.C_drew ?_))); (case side4 => exact HC2.out); rintro e w' ⟨rfl, ⟨nd, rfl⟩⟩) | ((with_reducible refine gate_callee (f := 61) rfl ?_); refine goesL_ (some 25) rfl rfl Try.func61 (by kernel_rfl) rfl #[.int .i64 a0, .slice A1 l1.length c1, .slice A2 l2.length c2] rfl la_ ?_; (with_reducible refine (spec_l16Play.calls k a0 _ _ l1 _ _ l2 t144 _ ?side1 ?side2 ?side3 ?side4 A10.out).mono ?_); (case side1 => repeat (first | exact (Kd.C_below HR1.out b_) | (with_reducible refine Kd.C_alloc ?_ _) | (with_reducible refine Kd.C_drewN ?_ _) | (with_reducible refine Kd.C_drew ?_))); (case side2 => exact HC1.out); (case side3 => repeat (first | exact (Kd.C_below HR2.out b_) | (with_reducible refine Kd.C_alloc ?_ _) | (with_reducible refine Kd.C_drewN ?_ _) | (with_reducible refine Kd.C_drew ?_))); (case side4 => exact HC2.out); rintro e w12 ⟨v145, t144, rfl, he_, ho0, hb⟩; refine ⟨_, rfl, ?_⟩; have HE_ := a_ he_; clear he_; have n0_ := a_ (Kd.R_lower ho0 (below_size b_)); have n1_ := a_ (below_step b_ hb); clear HB; have HO146 := n0_; have HB := n1_; clear n0_ n1_; (try clear hb); (try clear hb2); (try clear hk); (try clear hi); (try clear ho0)))
    go_ret2
    first | (exact ⟨_, by first | rfl | (simp [errW_none, errW_some] <;> rfl) | (simp [*, errW_none, errW_some] <;> rfl), _, HE_.out, by exact r_ HO146.out, b_⟩) | (exact ⟨_, _, by first | rfl | (simp [errW_none, errW_some] <;> rfl) | (simp [*, errW_none, errW_some] <;> rfl), HE_.out, by exact r_ HO146.out, b_⟩)
   ·replace c9 := Bool.eq_false_iff.mpr c9
    subst c9
    rw [if_neg (show ¬ (false = true) by decide)] at H
    simp only [Option.some.injEq, Prod.mk.injEq] at H
    obtain ⟨rfl, rfl⟩ := H
    go_enter Try.func10, Try.ntmps10
    go_wp2_with (first | ((with_reducible refine gate_callee (f := 58) rfl ?_); refine goesL_ (some 9) rfl rfl Try.func58 (by kernel_rfl) rfl #[.int .i64 a0] rfl la_ ?_; (with_reducible refine (spec_l16Kind.calls a0 true _ A4.out).mono ?_); rintro e w' ⟨rfl, ⟨nd, rfl⟩⟩; refine ⟨_, rfl, ?_⟩) | (go_at_call 59; (with_reducible refine (spec_l16Good.calls k _ _ l1 true _ ?side1 ?side2 A6.out).mono ?_); (case side1 => repeat (first | exact HR1.out | (with_reducible refine Kd.C_alloc ?_ _) | (with_reducible refine Kd.C_drewN ?_ _) | (with_reducible refine Kd.C_drew ?_))); (case side2 => exact HC1.out); rintro e w13 ⟨rfl, hb⟩; have n0_ := a_ (below_step b_ hb); clear HB; have HB := n0_; clear n0_; (try clear hb); (try clear hb2); (try clear hk); (try clear hi)) | (go_at_call 60; (with_reducible refine (spec_l16Order.calls k _ _ l1 _ _ l2 false _ ?side1 ?side2 ?side3 ?side4 A8.out).mono ?_); (case side1 => repeat (first | exact (Kd.C_below HR1.out HB.out) | (with_reducible refine Kd.C_alloc ?_ _) | (with_reducible refine Kd.C_drewN ?_ _) | (with_reducible refine Kd.C_drew ?_))); (case side2 => exact HC1.out); (case side3 => repeat (first | exact (Kd.C_below HR2.out HB.out) | (with_reducible refine Kd.C_alloc ?_ _) | (with_reducible refine Kd.C_drewN ?_ _) | (with_reducible refine Kd.C_drew ?_))); (case side4 => exact HC2.out); rintro e w' ⟨rfl, ⟨nd, rfl⟩⟩))
    go_ret2
    first | (exact ⟨_, by first | rfl | (simp [errW_none, errW_some] <;> rfl) | (simp [*, errW_none, errW_some] <;> rfl), _, eqvL.refl _, by first | exact Kd.R_nil _ _ _ _ _ | exact Kd.N_nil _ _ _ _ _ | exact Kd.V_nil _ _ _ _ _ | exact Kd.Q_nil _ _ _ _ _ | exact Kd.S_nil _ _ _ _ _, b_⟩) | (exact ⟨_, _, by first | rfl | (simp [errW_none, errW_some] <;> rfl) | (simp [*, errW_none, errW_some] <;> rfl), eqvL.refl _, by first | exact Kd.R_nil _ _ _ _ _ | exact Kd.N_nil _ _ _ _ _ | exact Kd.V_nil _ _ _ _ _ | exact Kd.Q_nil _ _ _ _ _ | exact Kd.S_nil _ _ _ _ _, b_⟩)
  ·replace c7 := Bool.eq_false_iff.mpr c7
   subst c7
   rw [if_neg (show ¬ (false = true) by decide)] at H
   simp only [Option.some.injEq, Prod.mk.injEq] at H
   obtain ⟨rfl, rfl⟩ := H
   go_enter Try.func10, Try.ntmps10
   go_wp2_with (first | ((with_reducible refine gate_callee (f := 58) rfl ?_); refine goesL_ (some 9) rfl rfl Try.func58 (by kernel_rfl) rfl #[.int .i64 a0] rfl la_ ?_; (with_reducible refine (spec_l16Kind.calls a0 true _ A4.out).mono ?_); rintro e w' ⟨rfl, ⟨nd, rfl⟩⟩; refine ⟨_, rfl, ?_⟩) | (go_at_call 59; (with_reducible refine (spec_l16Good.calls k _ _ l1 false _ ?side1 ?side2 A6.out).mono ?_); (case side1 => repeat (first | exact HR1.out | (with_reducible refine Kd.C_alloc ?_ _) | (with_reducible refine Kd.C_drewN ?_ _) | (with_reducible refine Kd.C_drew ?_))); (case side2 => exact HC1.out); rintro e w14 ⟨rfl, hb⟩; have n0_ := a_ (below_step b_ hb); clear HB; have HB := n0_; clear n0_; (try clear hb); (try clear hb2); (try clear hk); (try clear hi)))
   go_ret2
   first | (exact ⟨_, by first | rfl | (simp [errW_none, errW_some] <;> rfl) | (simp [*, errW_none, errW_some] <;> rfl), _, eqvL.refl _, by first | exact Kd.R_nil _ _ _ _ _ | exact Kd.N_nil _ _ _ _ _ | exact Kd.V_nil _ _ _ _ _ | exact Kd.Q_nil _ _ _ _ _ | exact Kd.S_nil _ _ _ _ _, b_⟩) | (exact ⟨_, _, by first | rfl | (simp [errW_none, errW_some] <;> rfl) | (simp [*, errW_none, errW_some] <;> rfl), eqvL.refl _, by first | exact Kd.R_nil _ _ _ _ _ | exact Kd.N_nil _ _ _ _ _ | exact Kd.V_nil _ _ _ _ _ | exact Kd.Q_nil _ _ _ _ _ | exact Kd.S_nil _ _ _ _ _, b_⟩)
 ·replace c5 := Bool.eq_false_iff.mpr c5
  subst c5
  rw [if_neg (show ¬ (false = true) by decide)] at H
  simp only [Option.some.injEq, Prod.mk.injEq] at H
  obtain ⟨rfl, rfl⟩ := H
  go_enter Try.func10, Try.ntmps10
  go_wp2_with (first | ((with_reducible refine gate_callee (f := 58) rfl ?_); refine goesL_ (some 9) rfl rfl Try.func58 (by kernel_rfl) rfl #[.int .i64 a0] rfl la_ ?_; (with_reducible refine (spec_l16Kind.calls a0 false _ A4.out).mono ?_); rintro e w' ⟨rfl, ⟨nd, rfl⟩⟩; refine ⟨_, rfl, ?_⟩))
  go_ret2
  first | (exact ⟨_, by first | rfl | (simp [errW_none, errW_some] <;> rfl) | (simp [*, errW_none, errW_some] <;> rfl), _, eqvL.refl _, by first | exact Kd.R_nil _ _ _ _ _ | exact Kd.N_nil _ _ _ _ _ | exact Kd.V_nil _ _ _ _ _ | exact Kd.Q_nil _ _ _ _ _ | exact Kd.S_nil _ _ _ _ _, b_⟩) | (exact ⟨_, _, by first | rfl | (simp [errW_none, errW_some] <;> rfl) | (simp [*, errW_none, errW_some] <;> rfl), eqvL.refl _, by first | exact Kd.R_nil _ _ _ _ _ | exact Kd.N_nil _ _ _ _ _ | exact Kd.V_nil _ _ _ _ _ | exact Kd.Q_nil _ _ _ _ _ | exact Kd.S_nil _ _ _ _ _, b_⟩)

/-! ### impl_in: function 78 -/
def impl_in.f (a0 : Int) (a1 : Int) (a2 : Int) : Option (Bool) := if a1 ≤ a0 then (some (decide (a0 ≤ a2))) else (some false)
set_option maxHeartbeats 8000000 in
set_option maxRecDepth 100000 in
theorem impl_in.calls (a0 : Int) (a1 : Int) (a2 : Int) (r : Bool) (w : World) (h : impl_in.f a0 a1 a2 = some r) :
  Calls Try.prog 78 #[.int .i64 a0, .int .i64 a1, .int .i64 a2] w fun e w' => e = .returned (.bool r) ∧ Drawn0 w w' := by
 have H : (if a1 ≤ a0 then (some (decide (a0 ≤ a2))) else (some false)) = some r := h
 clear h
 by_cases c4 : a1 ≤ a0
 ·rw [if_pos c4] at H
  have c4b0 := decide_eq_true c4
  clear c4
  obtain rfl := Option.some.inj H
  go_enter Try.func78, Try.ntmps78
  go_wp2
  go_ret
  exact ⟨by first | rfl | (simp; done) | (simp [*]; done), by repeat (first | exact Drawn0.refl _ | apply Drawn0.step)⟩
 ·rw [if_neg c4] at H
  have c4b0 := decide_eq_false c4
  clear c4
  obtain rfl := Option.some.inj H
  go_enter Try.func78, Try.ntmps78
  go_wp2
  go_ret
  exact ⟨by first | rfl | (simp; done) | (simp [*]; done), by repeat (first | exact Drawn0.refl _ | apply Drawn0.step)⟩

end Go.Proofs.Ythdpiceiemkjlaa.GFnOneOrder

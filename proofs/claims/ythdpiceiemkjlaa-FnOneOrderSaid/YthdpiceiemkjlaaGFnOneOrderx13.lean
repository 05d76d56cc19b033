-- Printed by wip/tools/print2.py out of the translation: walks and plain functions; Lean checks them.
import Derived.Test.YthdpiceiemkjlaaGFnOneOrderx0
import Derived.Test.YthdpiceiemkjlaaGFnOneOrderx3
import Derived.Test.YthdpiceiemkjlaaGFnOneOrderx5
import Derived.Test.YthdpiceiemkjlaaGFnOneOrderx9
import Derived.Test.YthdpiceiemkjlaaGFnOneOrderx12
namespace Go.Proofs.Ythdpiceiemkjlaa.GFnOneOrder
open Go.RowKit Go.Proofs.YthdpiceiemkjlaaW.PrintWords Go.Proofs.YthdpiceiemkjlaaW.PrintLast Go.Proofs.YthdpiceiemkjlaaW.PrintMore
attribute [local go_sem] max2_int min2_int max_two min_two max_three min_three max_four min_four   -- for this text's walks alone
set_option linter.unusedVariables false
set_option linter.unusedSimpArgs false

/-! What a search keeps: all that is elder than w0, and what its caller has but the variables of the function that it is handed (S_), of which J tells. -/
namespace Srch
structure Bel (S_ : Nat → Prop) (J : World → Prop) (w0 w W : World) : Prop where
 b : Below w0.heap.size w0 W
 k : Kept w W S_
 c : ∀ k, S_ k → w0.heap.size ≤ k ∧ k < w.heap.size
 c0 : w0.heap.size ≤ w.heap.size
 j : J W
 st : ∀ W1 W2 : World, (∀ k, S_ k → W2.heap[k]? = W1.heap[k]?) → J W1 → J W2
section
variable {S_ : Nat → Prop} {J J' : World → Prop} {w0 w W W2 : World}
theorem move (h : Bel S_ J w0 w W) (hb : Below w.heap.size W W2) : Bel S_ J w0 w W2 :=
 ⟨h.b.trans (hb.mono h.c0), ⟨Nat.le_trans h.k.1 hb.size, fun i hi hn => (hb.block i hi).trans (h.k.2 i hi hn)⟩, h.c, h.c0, h.st W W2 (fun k hk => hb.block k (h.c k hk).2) h.j, h.st⟩
theorem below_step (h : Bel S_ J w0 w W) (hb : Below W.heap.size W W2) : Bel S_ J w0 w W2 := move h (hb.mono h.k.1)
theorem below_size (h : Bel S_ J w0 w W) : w.heap.size ≤ W.heap.size := h.k.1
theorem vA_ (h : Bel S_ J w0 w W) (o : Obj) : Bel S_ J w0 w (W.alloc o) := below_step h (below_alloc (Below.refl _ _) o)
theorem vN_ (h : Bel S_ J w0 w W) (n : Nat) : Bel S_ J w0 w (W.drewN n) := move h (pw_below_drewN (Below.refl _ _) n)
theorem vD_ (h : Bel S_ J w0 w W) : Bel S_ J w0 w W.drew := move h (Below.refl _ _).drew
theorem below_drew1 (h : Bel S_ J w0 w W) : Bel S_ J w0 w W.drew := vD_ h
theorem vS_ {g j : Nat} {v : Value} (h : Bel S_ J w0 w W) (hg : w.heap.size ≤ g) : Bel S_ J w0 w (W.setCell ⟨g, j, none⟩ v) := move h ((Below.refl _ _).setCell hg _)
theorem here (h : Bel S_ J w0 w W) : Bel S_ J w0 W W := ⟨h.b, Kept.refl _ _, fun k hk => ⟨(h.c k hk).1, Nat.lt_of_lt_of_le (h.c k hk).2 h.k.1⟩, Nat.le_trans h.c0 h.k.1, h.j, h.st⟩
theorem after (h : Bel S_ J w0 w W) (hb : Bel S_ J' w0 W W2) : Bel S_ J' w0 w W2 := ⟨hb.b, h.k.then_ hb.k (fun _ hk => .inl hk), h.c, h.c0, hb.j, hb.st⟩
theorem C_kb {α : Type} {d : Kd α} {A : Option Addr} {n : Nat} {xs : List α} (h : Kd.F d w (fun k => ¬ S_ k) A n xs) (hb : Bel S_ J w0 w W) : d.C W A n xs := h W (fun k hk hlt => hb.k.2 k hlt hk)
theorem F_kb {α : Type} {d : Kd α} {A : Option Addr} {n : Nat} {xs : List α} (h : Kd.F d w (fun k => ¬ S_ k) A n xs) (hb : Bel S_ J w0 w W) : Kd.F d W (fun k => k < w.heap.size ∧ ¬ S_ k) A n xs :=
 fun W' hW => h W' (fun k hk hlt => (hW k ⟨hlt, hk⟩ (Nat.lt_of_lt_of_le hlt hb.k.1)).trans (hb.k.2 k hlt hk))
end
/-- An order is found, and the search stops. -/
structure Fnd (S_ : Nat → Prop) (F_ : List Int → World → Prop) (o : List Int) (w0 w W : World) : Prop where
 b : Below w0.heap.size w0 W
 k : Kept w W S_
 j : F_ o W
theorem Fnd.after {S_ : Nat → Prop} {J : World → Prop} {F_ : List Int → World → Prop} {o : List Int} {w0 w W W2 : World} (h : Bel S_ J w0 w W) (hb : Fnd S_ F_ o w0 W W2) : Fnd S_ F_ o w0 w W2 := ⟨hb.b, h.k.then_ hb.k (fun _ hk => .inl hk), hb.j⟩
/-- What the function that is handed over answers: it goes on (with another state), or stops. -/
def ans (mr : Int → List Int → Option Int) (n : Int) (l : List Int) : Int × Option (List Int) := match mr n l with
 | some m => (m, none)
 | none => (n, some l)
def Post (S_ : Nat → Prop) (J_ : Int → World → Prop) (F_ : List Int → World → Prop) (w0 w : World) (r : Int × Option (List Int)) (W : World) : Prop := match r.2 with
 | none => Bel S_ (J_ r.1) w0 w W
 | some o => Fnd S_ F_ o w0 w W
def Does (f : Nat) (args : Value → Array Value) (S_ : Nat → Prop) (J_ : Int → World → Prop) (F_ : List Int → World → Prop) (mr : Int → List Int → Option Int) (w0 : World) : Prop :=
 ∀ (n : Int) (A : Option Addr) (c : Nat) (l : List Int) (w W : World), Bel S_ (J_ n) w0 w W → Kd.R (Kd.int .i64) 3 W w0.heap.size (fun k => ¬ S_ k) (.slice A l.length c) l → Calls Try.prog f (args (.slice A l.length c)) W fun e W' => e = .returned (.bool (ans mr n l).2.isNone) ∧ Post S_ J_ F_ w0 w (ans mr n l) W'
/-- The function that is handed over is one of two: it counts, or keeps the order and stops. -/
def Hands (cl : Value) (S_ : Nat → Prop) (J_ : Int → World → Prop) (F_ : List Int → World → Prop) (mr : Int → List Int → Option Int) (w0 : World) : Prop :=
 (∃ gc : Nat, cl = .func (.func 75) #[] #[.pointer (some ⟨gc, 0, none⟩)] ∧ Does 75 (fun v => #[v, .pointer (some ⟨gc, 0, none⟩)]) S_ J_ F_ mr w0) ∨
 (∃ gf gi : Nat, cl = .func (.func 74) #[] #[.pointer (some ⟨gf, 0, none⟩), .pointer (some ⟨gi, 0, none⟩)] ∧ Does 74 (fun v => #[v, .pointer (some ⟨gf, 0, none⟩), .pointer (some ⟨gi, 0, none⟩)]) S_ J_ F_ mr w0)
theorem bs_ (S_ : Nat → Prop) (J : World → Prop) (w0 w : World) {W W2 : World} (h : Bel S_ J w0 w W) (hb : Below W.heap.size W W2) : Bel S_ J w0 w W2 := below_step h hb
theorem bz_ (S_ : Nat → Prop) (J : World → Prop) (w0 w : World) {W : World} (h : Bel S_ J w0 w W) : w.heap.size ≤ W.heap.size := h.k.1
end Srch
/-! ### impl_search: function 168 -/
mutual
def impl_search.l0 : Nat → List (S77) → List Int → List (S77) → Int → Int → Int → List Nat → (Int → List Int → Option Int) → Int → Option (Int × Option (List Int))
 | 0, _, _, _, _, _, _, _, _, _ => none
 | k + 1, x0, x1, x24, x25, x26, x264000, x264001, mr, xn => if x26 < x25 then (if 0 ≤ x26 then (if x26 < (x24.length : Int) then ((slices_Contains_int_int.f k x1 x26).bind fun t267 => (if t267 = true then (impl_search.l0 k x0 x1 x24 x25 (wrap64 (x26 + 1)) x264000 x264001 mr xn) else (impl_search.l1 k x0 x1 x26 false x24 x25 x26 x0 (x0.length : Int) 0 x264000 x264001 ((rd_T77 x24 x26).f0) ((rd_T77 x24 x26).f1) ((rd_T77 x24 x26).f2) ((rd_T77 x24 x26).f3) ((rd_T77 x24 x26).f4) mr xn))) else (none)) else (none)) else (some (xn, (none : Option (List Int))))
def impl_search.l1 : Nat → List (S77) → List Int → Int → Bool → List (S77) → Int → Int → List (S77) → Int → Int → Int → List Nat → Int → Int → Int → Bool → Nat → (Int → List Int → Option Int) → Int → Option (Int × Option (List Int))
 | 0, _, _, _, _, _, _, _, _, _, _, _, _, _, _, _, _, _, _, _ => none
 | k + 1, x0, x1, x9, x11, x24, x25, x26, x34, x35, x36, x264000, x264001, x267000, x267001, x267002, x267003, x267004, mr, xn => if x36 < x35 then (if 0 ≤ x36 then (if x36 < (x34.length : Int) then (if x11 = true then (impl_search.l1 k x0 x1 x9 true x24 x25 x26 x34 x35 (wrap64 (x36 + 1)) x264000 x264001 x267000 x267001 x267002 x267003 x267004 mr xn) else ((impl_Call_ahead.f ((rd_T77 x34 x36).f0) ((rd_T77 x34 x36).f1) ((rd_T77 x34 x36).f2) ((rd_T77 x34 x36).f3) ((rd_T77 x34 x36).f4) x267000 x267001 x267002 x267003 x267004).bind fun t270 => (if t270 = true then ((slices_Contains_int_int.f k x1 x36).bind fun t271 => (impl_search.l1 k x0 x1 x9 (!t271) x24 x25 x26 x34 x35 (wrap64 (x36 + 1)) x264000 x264001 x267000 x267001 x267002 x267003 x267004 mr xn)) else (impl_search.l1 k x0 x1 x9 false x24 x25 x26 x34 x35 (wrap64 (x36 + 1)) x264000 x264001 x267000 x267001 x267002 x267003 x267004 mr xn)))) else (none)) else (none)) else ((impl_object_play.f k x264000 x264001 x267000 x267001 x267002 x267003 x267004).bind fun bt272 => (if x11 = true then (impl_search.l0 k x0 x1 x24 x25 (wrap64 (x26 + 1)) x264000 x264001 mr xn) else ((impl_SameNum.f bt272.1 x267004).bind fun t278 => (if t278 = true then ((slices_Clone_int_int.f x1).bind fun t279 => ((some (([x9] : List Int) : List Int)).bind fun y282 => (if t279.length + y282.length < 17592186044416 then ((impl_search.f k x0 (t279 ++ y282) bt272.2.1 bt272.2.2 mr xn).bind fun t288 => (if t288.2.isNone = true then (impl_search.l0 k x0 x1 x24 x25 (wrap64 (x26 + 1)) x264000 x264001 mr t288.1) else (some t288))) else (none)))) else (impl_search.l0 k x0 x1 x24 x25 (wrap64 (x26 + 1)) x264000 x264001 mr xn)))))
def impl_search.f : Nat → List (S77) → List Int → Int → List Nat → (Int → List Int → Option Int) → Int → Option (Int × Option (List Int))
 | 0, _, _, _, _, _, _ => none
 | k + 1, l0, l1, a2_0, l2_1, mr, xn => if (l1.length : Int) = (l0.length : Int) then (some (Srch.ans mr xn l1)) else (impl_search.l0 k l0 l1 l0 (l0.length : Int) 0 a2_0 l2_1 mr xn)
end
def impl_search.T14 : Bool × List (List Nat × List Nat) := (true, [([], []), ([0], [0]), ([1], [1]), ([2], [2]), ([2], [2]), ([4, 2], [2, 4]), ([3, 5, 2, 2], [2, 3, 5]), ([2, 6], [2, 6]), ([7, 6], [7]), ([8], [8]), ([8], [8]), ([10, 8, 8], [8, 10]), ([8], [8]), ([12, 8], [8, 12]), ([11, 13, 11, 8], [8, 11, 13]), ([8], [8]), ([8], [8]), ([9, 14, 15, 16, 14, 8], [8, 9, 14, 15, 16]), ([17, 8], [8, 17]), ([8, 18], [8, 18])])
def impl_search.B14 : List Nat := [0, 1, 3, 7, 7, 23, 63, 127, 255, 511, 511, 1535, 511, 4607, 15871, 511, 511, 131071, 262143, 524287]
theorem impl_search.tab14 : rtab .any (opsOf Try.f72 14) = impl_search.T14 := by kernel_rfl
theorem impl_search.bits14 : waitsOk impl_search.T14.2 impl_search.B14 = true := by kernel_rfl
set_option maxHeartbeats 8000000 in
set_option maxRecDepth 100000 in
theorem impl_search.calls (cl : Value) (S_ : Nat → Prop) (J_ : Int → World → Prop) (F_ : List Int → World → Prop) (mr : Int → List Int → Option Int) (w0 : World) (hcl : Srch.Hands cl S_ J_ F_ mr w0) (A0 : Option Addr) (c0 : Nat) (l0 : List (S77)) (hr0 : Kd.C k77 w0 A0 l0.length l0) (hc0 : l0.length ≤ c0) (k : Nat) : ∀ (A1 : Option Addr) (c1 : Nat) (l1 : List Int) (a2_0 : Int) (A2_1 : Option Addr) (c2_1 : Nat) (l2_1 : List Nat) (xn : Int) (r : Int × Option (List Int)) (w : World) (hB : Srch.Bel S_ (J_ xn) w0 w w) (ho1 : Kd.R (Kd.int .i64) 3 w w0.heap.size (fun k_ => ¬ S_ k_) (.slice A1 l1.length c1) l1) (hr2_1 : Kd.F Kd.float w (fun k_ => ¬ S_ k_) A2_1 l2_1.length l2_1) (hc2_1 : l2_1.length ≤ c2_1) (h : impl_search.f k l0 l1 a2_0 l2_1 mr xn = some r),
  Calls Try.prog 72 #[.slice A0 l0.length c0, .slice A1 l1.length c1, .agg #[.int .i64 a2_0, .slice A2_1 l2_1.length c2_1], cl] w fun e w' => e = .returned (.bool r.2.isNone) ∧ Srch.Post S_ J_ F_ w0 w r w' := by
 induction k using Nat.strongRecOn with
 | _ k ih =>
 intro A1 c1 l1 a2_0 A2_1 c2_1 l2_1 xn r w hB ho1 hr2_1 hc2_1 h
 have hr1 := Kd.R_F ho1
 have hc1 := (Kd.R_reads' ho1).2.1
 have HO1 := a_ ho1
 clear ho1
 cases k with
 | zero => exact absurd h (by simp [impl_search.f])
 | succ k =>
 simp only [impl_search.f] at h
 have hu88 := Try.underlying88
 have hu77 := Try.underlying77
 have HR0 := a_ hr0
 have HC0 := a_ hc0
 clear hr0 hc0
 have HR1 := a_ hr1
 have HC1 := a_ hc1
 clear hr1 hc1
 have HR2_1 := a_ hr2_1
 have HC2_1 := a_ hc2_1
 clear hr2_1 hc2_1
 have HB := a_ hB
 have HCL := a_ hcl
 clear hB
 have H : (if (l1.length : Int) = (l0.length : Int) then (some (Srch.ans mr xn l1)) else (impl_search.l0 k l0 l1 l0 (l0.length : Int) 0 a2_0 l2_1 mr xn)) = some r := h
 clear h
 by_cases c5 : (l1.length : Int) = (l0.length : Int)
 ·rw [if_pos c5] at H
  have c5b0 := beq_iff_eq.mpr c5
  have c5b1 := bne_eq_false_iff_eq.mpr c5
  have c5b2 : (l1.length == l0.length) = true := by first | simpa using c5 | (simp at c5 ⊢; omega)
  clear c5
  obtain rfl := Option.some.inj H
  rcases HCL.out with ⟨gc, rfl, hdo⟩ | ⟨gf, gi, rfl, hdo⟩
  ·go_enter Try.func72, Try.ntmps72
   go_wp2_with (first | ((with_reducible refine gate_dst (N := 6) rfl ?_); (try (refine gate_guard (by rfl) ?_; dsimp only)); refine box_event ?hg (N := 6) ?hd (cs := #[.int .i64 a2_0, .slice A2_1 l2_1.length c2_1]) (t := 88) ?hr ?_; (case hd => rfl); (case hg => rfl); (case hr => first | (go_simp; done) | (go_simp; rfl)); intro gb263 hg w7 hbox hb; have HBX := a_ hb; have n0_ := a_ (Srch.bs_ S_ (J_ xn) w0 w (by repeat (first | (with_reducible first|exact HB.out|apply Srch.vA_|apply Srch.vN_|apply Srch.vD_) | exact HB.out)) hb); have n1_ := a_ (hbox); have n2_ := a_ ((by rw [hg]; exact (Srch.bz_ S_ (J_ xn) w0 w (by repeat (first | (with_reducible first|exact HB.out|apply Srch.vA_|apply Srch.vN_|apply Srch.vD_) | exact HB.out))) : w.heap.size ≤ gb263)); have n3_ := a_ ((by rw [hg]; exact (Srch.bz_ S_ (J_ xn) w0 w (by repeat (first | (with_reducible first|exact HB.out|apply Srch.vA_|apply Srch.vN_|apply Srch.vD_) | exact HB.out))) : w.heap.size ≤ gb263)); clear HB; have HB := n0_; have BK263 := n1_; have GW263 := n2_; have GE263 := n3_; clear n0_ n1_ n2_ n3_; clear hb hbox hg) | (go_at_call 75; refine (hdo xn _ _ l1 w _ HB.out (Kd.R_below HO1.out HBX.out)).mono ?_; rintro e w8 ⟨rfl, hp_⟩; clear HB BK263; have HB := a_ hp_; clear hp_))
   go_ret
   exact ⟨rfl, HB.out⟩
  ·go_enter Try.func72, Try.ntmps72
   go_wp2_with (first | ((with_reducible refine gate_dst (N := 6) rfl ?_); (try (refine gate_guard (by rfl) ?_; dsimp only)); refine box_event ?hg (N := 6) ?hd (cs := #[.int .i64 a2_0, .slice A2_1 l2_1.length c2_1]) (t := 88) ?hr ?_; (case hd => rfl); (case hg => rfl); (case hr => first | (go_simp; done) | (go_simp; rfl)); intro gb263 hg w7 hbox hb; have HBX := a_ hb; have n0_ := a_ (Srch.bs_ S_ (J_ xn) w0 w (by repeat (first | (with_reducible first|exact HB.out|apply Srch.vA_|apply Srch.vN_|apply Srch.vD_) | exact HB.out)) hb); have n1_ := a_ (hbox); have n2_ := a_ ((by rw [hg]; exact (Srch.bz_ S_ (J_ xn) w0 w (by repeat (first | (with_reducible first|exact HB.out|apply Srch.vA_|apply Srch.vN_|apply Srch.vD_) | exact HB.out))) : w.heap.size ≤ gb263)); have n3_ := a_ ((by rw [hg]; exact (Srch.bz_ S_ (J_ xn) w0 w (by repeat (first | (with_reducible first|exact HB.out|apply Srch.vA_|apply Srch.vN_|apply Srch.vD_) | exact HB.out))) : w.heap.size ≤ gb263)); clear HB; have HB := n0_; have BK263 := n1_; have GW263 := n2_; have GE263 := n3_; clear n0_ n1_ n2_ n3_; clear hb hbox hg) | (go_at_call 74; refine (hdo xn _ _ l1 w _ HB.out (Kd.R_below HO1.out HBX.out)).mono ?_; rintro e w8 ⟨rfl, hp_⟩; clear HB BK263; have HB := a_ hp_; clear hp_))
   go_ret
   exact ⟨rfl, HB.out⟩
 ·rw [if_neg c5] at H
  have c5b0 := beq_eq_false_iff_ne.mpr c5
  have c5b1 := bne_iff_ne.mpr c5
  have c5b2 : (l1.length == l0.length) = false := by first | simpa using c5 | (simp at c5 ⊢; omega)
  have H' := a_ H
  clear H
  go_enter Try.func72, Try.ntmps72
  go_wp2_with (first | ((with_reducible refine gate_dst (N := 6) rfl ?_); (try (refine gate_guard (by rfl) ?_; dsimp only)); refine box_event ?hg (N := 6) ?hd (cs := #[.int .i64 a2_0, .slice A2_1 l2_1.length c2_1]) (t := 88) ?hr ?_; (case hd => rfl); (case hg => rfl); (case hr => first | (go_simp; done) | (go_simp; rfl)); intro gb263 hg w9 hbox hb; have n0_ := a_ (Srch.bs_ S_ (J_ xn) w0 w (by repeat (first | (with_reducible first|exact HB.out|apply Srch.vA_|apply Srch.vN_|apply Srch.vD_) | exact HB.out)) hb); have n1_ := a_ (hbox); have n2_ := a_ ((by rw [hg]; exact (Srch.bz_ S_ (J_ xn) w0 w (by repeat (first | (with_reducible first|exact HB.out|apply Srch.vA_|apply Srch.vN_|apply Srch.vD_) | exact HB.out))) : w.heap.size ≤ gb263)); have n3_ := a_ ((by rw [hg]; exact (Srch.bz_ S_ (J_ xn) w0 w (by repeat (first | (with_reducible first|exact HB.out|apply Srch.vA_|apply Srch.vN_|apply Srch.vD_) | exact HB.out))) : w.heap.size ≤ gb263)); clear HB; have HB := n0_; have BK263 := n1_; have GW263 := n2_; have GE263 := n3_; clear n0_ n1_ n2_ n3_; clear hb hbox hg))
  go_loopg [26] k (fun kq v26 w' => ∃ (xn_1 : Int) (x26_1 : Int), v26 = .int .i64 x26_1 ∧ Aside0 (impl_search.l0 kq l0 l1 l0 (l0.length : Int) x26_1 a2_0 l2_1 mr xn_1 = some r) ∧ Aside0 (kq ≤ k) ∧ Aside0 (w'.heap[gb263]? = some (.cells #[.int .i64 a2_0, (.slice A2_1 l2_1.length c2_1)] 88 (0, 0))) ∧ Aside0 (Srch.Bel S_ (J_ xn_1) w0 w w'))
  case atStart => exact ⟨xn, (0), (by first | rfl | (simp; done) | (simp [*]; done)), H', ⟨Nat.le_refl _⟩, ⟨by exact q_ BK263.out⟩, ⟨by repeat (first | (with_reducible first|exact HB.out|apply Srch.vA_|apply Srch.vN_|apply Srch.vD_ | refine Srch.vS_ ?_ GE263.out) | exact HB.out)⟩⟩
  case round =>
   clear H'
   (try clear c1); (try clear c2); (try clear p2); (try clear c5); (try clear c5b0); (try clear c5b1); (try clear c5b2); (try clear c7)
   obtain ⟨xn_1, x26_1, rfl, HA, HK1, BK263, HB⟩ := hrel
   cases gk with
   | zero => exact absurd HA.out (by simp [impl_search.l0])
   | succ k1 =>
    have H := HA.out; clear HA
    simp only [impl_search.l0] at H
    by_cases c10 : x26_1 < (l0.length : Int)
    ·rw [if_pos c10] at H
     have c10b0 := decide_eq_true c10
     clear c10
     replace H := ig_ H
     obtain ⟨c11b0, H⟩ := H
     replace H := ig_ H
     obtain ⟨c12b0, H⟩ := H
     replace H := Option.bind_eq_some_iff.mp H
     obtain ⟨t267, A130, H⟩ := H
     try dsimp only at H
     have A13 := a_ A130; clear A130
     by_cases c14 : t267 = true
     ·subst c14
      rw [if_pos rfl] at H
      have H' := a_ H
      clear H
      have p265 : 0 ≤ (x26_1 : Int) := od_
      have q265 : x26_1 < (l0.length : Int) := od_
      obtain ⟨ad265, e265, hx265_0, hx265_1, hx265_2, hx265_3, hx265_4⟩ := at_T77 HR0.out x26_1 p265 q265
      cases e265
      try replace hx265_0 := cl_ HB.out.b hx265_0
      try replace hx265_1 := cl_ HB.out.b hx265_1
      try replace hx265_2 := cl_ HB.out.b hx265_2
      try replace hx265_3 := cl_ HB.out.b hx265_3
      try replace hx265_4 := cl_ HB.out.b hx265_4
      replace p265 := eq_true p265; replace q265 := eq_true q265
      go_wp2_with (first | ((with_reducible refine gate_dst (N := 10) rfl ?_); (try (refine gate_guard (by rfl) ?_; dsimp only)); refine box_event ?hg (N := 10) ?hd (cs := #[.int .i64 0, .int .i64 0, .int .i64 0, .bool false, .float .f64 0]) (t := 77) ?hr ?_; (case hd => rfl); (case hg => rfl); (case hr => first | (go_simp; done) | (go_simp; rfl)); intro gb266 hg w15 hbox hb; have n0_ := a_ (blk_below (q_ BK263.out) hb); have n1_ := a_ (Srch.bs_ S_ (J_ xn_1) w0 w (by repeat (first | (with_reducible first|exact HB.out|apply Srch.vA_|apply Srch.vN_|apply Srch.vD_ | refine Srch.vS_ ?_ GE263.out) | exact HB.out)) hb); have n2_ := a_ (hbox); have n3_ := a_ ((by rw [hg]; exact (Srch.bz_ S_ (J_ xn_1) w0 w (by repeat (first | (with_reducible first|exact HB.out|apply Srch.vA_|apply Srch.vN_|apply Srch.vD_ | refine Srch.vS_ ?_ GE263.out) | exact HB.out))) : w.heap.size ≤ gb266)); have n4_ := a_ ((by rw [hg]; exact (Srch.bz_ S_ (J_ xn_1) w0 w (by repeat (first | (with_reducible first|exact HB.out|apply Srch.vA_|apply Srch.vN_|apply Srch.vD_ | refine Srch.vS_ ?_ GE263.out) | exact HB.out))) : w.heap.size ≤ gb266)); have n5_ := a_ ((by rw [hg]; exact Nat.ne_of_lt (blk_lt (g := gb263) (o := .cells #[.int .i64 a2_0, .slice A2_1 l2_1.length c2_1] 88 (0, 0)) (q_ BK263.out)) : gb263 ≠ gb266)); have n6_ := a_ ((by rw [hg]; exact Nat.ne_of_gt (blk_lt (g := gb263) (o := .cells #[.int .i64 a2_0, .slice A2_1 l2_1.length c2_1] 88 (0, 0)) (q_ BK263.out)) : gb266 ≠ gb263)); clear BK263; clear HB; have BK263 := n0_; have HB := n1_; have BK266 := n2_; have GW266 := n3_; have GE266 := n4_; have NB263_266 := n5_; have NB266_263 := n6_; clear n0_ n1_ n2_ n3_ n4_ n5_ n6_; clear hb hbox hg; have hnb16 := NB266_263.out; have hnc16 := NB263_266.out; obtain ⟨hcz17_0, hcz17_1, hcz17_2, hcz17_3, hcz17_4, hfz17_0, hfz17_1, hfz17_2, hfz17_3, hfz17_4⟩ := cz5_ BK266.out) | ((with_reducible refine gate_callee (f := 109) rfl ?_); refine goesL_ (some 33) rfl rfl Try.func109 (by kernel_rfl) rfl #[.slice A1 l1.length c1, .int .i64 x26_1] rfl la_ ?_; (with_reducible refine (slices_Contains_int_int.calls k1 _ _ l1 x26_1 true _ ?side1 ?side2 A13.out).mono ?_); (case side1 => exact Srch.C_kb (J := J_ xn_1) (w0 := w0) (S_ := S_) HR1.out (by repeat (first | (with_reducible first|exact HB.out|apply Srch.vA_|apply Srch.vN_|apply Srch.vD_ | refine Srch.vS_ ?_ GE263.out | refine Srch.vS_ ?_ GE266.out) | exact HB.out))); (case side2 => exact HC1.out); rintro e w' ⟨rfl, ⟨nd, rfl⟩⟩; refine ⟨_, rfl, ?_⟩))
      go_roundg k1
      case measure => have := HK1.out; omega
      case rel => exact ⟨xn_1, (wrap64 (x26_1 + 1)), (by first | rfl | (simp; done) | (simp [*]; done)), H', ⟨by have := HK1.out; omega⟩, ⟨by refine q_ ?_; refine blk_far ?_ NB263_266.out _; refine q_ ?_; refine blk_far ?_ NB263_266.out _; refine q_ ?_; refine blk_far ?_ NB263_266.out _; refine q_ ?_; refine blk_far ?_ NB263_266.out _; refine q_ ?_; refine blk_far ?_ NB263_266.out _; exact q_ BK263.out⟩, ⟨by repeat (first | (with_reducible first|exact HB.out|apply Srch.vA_|apply Srch.vN_|apply Srch.vD_ | refine Srch.vS_ ?_ GE263.out | refine Srch.vS_ ?_ GE266.out) | exact HB.out)⟩⟩
     ·replace c14 := Bool.eq_false_iff.mpr c14
      subst c14
      rw [if_neg (show ¬ (false = true) by decide)] at H
      have H' := a_ H
      clear H
      have p265 : 0 ≤ (x26_1 : Int) := od_
      have q265 : x26_1 < (l0.length : Int) := od_
      obtain ⟨ad265, e265, hx265_0, hx265_1, hx265_2, hx265_3, hx265_4⟩ := at_T77 HR0.out x26_1 p265 q265
      cases e265
      try replace hx265_0 := cl_ HB.out.b hx265_0
      try replace hx265_1 := cl_ HB.out.b hx265_1
      try replace hx265_2 := cl_ HB.out.b hx265_2
      try replace hx265_3 := cl_ HB.out.b hx265_3
      try replace hx265_4 := cl_ HB.out.b hx265_4
      replace p265 := eq_true p265; replace q265 := eq_true q265
      go_wp2_with (first | ((with_reducible refine gate_dst (N := 10) rfl ?_); (try (refine gate_guard (by rfl) ?_; dsimp only)); refine box_event ?hg (N := 10) ?hd (cs := #[.int .i64 0, .int .i64 0, .int .i64 0, .bool false, .float .f64 0]) (t := 77) ?hr ?_; (case hd => rfl); (case hg => rfl); (case hr => first | (go_simp; done) | (go_simp; rfl)); intro gb266 hg w18 hbox hb; have n0_ := a_ (blk_below (q_ BK263.out) hb); have n1_ := a_ (Srch.bs_ S_ (J_ xn_1) w0 w (by repeat (first | (with_reducible first|exact HB.out|apply Srch.vA_|apply Srch.vN_|apply Srch.vD_ | refine Srch.vS_ ?_ GE263.out) | exact HB.out)) hb); have n2_ := a_ (hbox); have n3_ := a_ ((by rw [hg]; exact (Srch.bz_ S_ (J_ xn_1) w0 w (by repeat (first | (with_reducible first|exact HB.out|apply Srch.vA_|apply Srch.vN_|apply Srch.vD_ | refine Srch.vS_ ?_ GE263.out) | exact HB.out))) : w.heap.size ≤ gb266)); have n4_ := a_ ((by rw [hg]; exact (Srch.bz_ S_ (J_ xn_1) w0 w (by repeat (first | (with_reducible first|exact HB.out|apply Srch.vA_|apply Srch.vN_|apply Srch.vD_ | refine Srch.vS_ ?_ GE263.out) | exact HB.out))) : w.heap.size ≤ gb266)); have n5_ := a_ ((by rw [hg]; exact Nat.ne_of_lt (blk_lt (g := gb263) (o := .cells #[.int .i64 a2_0, .slice A2_1 l2_1.length c2_1] 88 (0, 0)) (q_ BK263.out)) : gb263 ≠ gb266)); have n6_ := a_ ((by rw [hg]; exact Nat.ne_of_gt (blk_lt (g := gb263) (o := .cells #[.int .i64 a2_0, .slice A2_1 l2_1.length c2_1] 88 (0, 0)) (q_ BK263.out)) : gb266 ≠ gb263)); clear BK263; clear HB; have BK263 := n0_; have HB := n1_; have BK266 := n2_; have GW266 := n3_; have GE266 := n4_; have NB263_266 := n5_; have NB266_263 := n6_; clear n0_ n1_ n2_ n3_ n4_ n5_ n6_; clear hb hbox hg; have hnb19 := NB266_263.out; have hnc19 := NB263_266.out; obtain ⟨hcz20_0, hcz20_1, hcz20_2, hcz20_3, hcz20_4, hfz20_0, hfz20_1, hfz20_2, hfz20_3, hfz20_4⟩ := cz5_ BK266.out) | ((with_reducible refine gate_callee (f := 109) rfl ?_); refine goesL_ (some 33) rfl rfl Try.func109 (by kernel_rfl) rfl #[.slice A1 l1.length c1, .int .i64 x26_1] rfl la_ ?_; (with_reducible refine (slices_Contains_int_int.calls k1 _ _ l1 x26_1 false _ ?side1 ?side2 A13.out).mono ?_); (case side1 => exact Srch.C_kb (J := J_ xn_1) (w0 := w0) (S_ := S_) HR1.out (by repeat (first | (with_reducible first|exact HB.out|apply Srch.vA_|apply Srch.vN_|apply Srch.vD_ | refine Srch.vS_ ?_ GE263.out | refine Srch.vS_ ?_ GE266.out) | exact HB.out))); (case side2 => exact HC1.out); rintro e w' ⟨rfl, ⟨nd, rfl⟩⟩; refine ⟨_, rfl, ?_⟩))
      go_loopg [11, 36] k1 (fun kq v11 v36 w' => ∃ (x11_2 : Bool) (x36_2 : Int), v11 = .bool x11_2 ∧ v36 = .int .i64 x36_2 ∧ Aside0 (impl_search.l1 kq l0 l1 x26_1 x11_2 l0 (l0.length : Int) x26_1 l0 (l0.length : Int) x36_2 a2_0 l2_1 ((rd_T77 l0 x26_1).f0) ((rd_T77 l0 x26_1).f1) ((rd_T77 l0 x26_1).f2) ((rd_T77 l0 x26_1).f3) ((rd_T77 l0 x26_1).f4) mr xn_1 = some r) ∧ Aside0 (kq ≤ k1) ∧ Aside0 (w'.heap[gb263]? = some (.cells #[.int .i64 a2_0, (.slice A2_1 l2_1.length c2_1)] 88 (0, 0))) ∧ Aside0 (w'.heap[gb266]? = some (.cells #[.int .i64 ((rd_T77 l0 x26_1).f0), .int .i64 ((rd_T77 l0 x26_1).f1), .int .i64 ((rd_T77 l0 x26_1).f2), .bool ((rd_T77 l0 x26_1).f3), .float .f64 ((rd_T77 l0 x26_1).f4)] 77 (0, 0))) ∧ Aside0 (Srch.Bel S_ (J_ xn_1) w0 w w'))
      case atStart => exact ⟨(false), (0), (by first | rfl | (simp; done) | (simp [*]; done)), (by first | rfl | (simp; done) | (simp [*]; done)), H', ⟨Nat.le_refl _⟩, ⟨by refine q_ ?_; refine blk_far ?_ NB263_266.out _; refine q_ ?_; refine blk_far ?_ NB263_266.out _; refine q_ ?_; refine blk_far ?_ NB263_266.out _; refine q_ ?_; refine blk_far ?_ NB263_266.out _; refine q_ ?_; refine blk_far ?_ NB263_266.out _; exact q_ BK263.out⟩, ⟨by refine q_ ?_; refine blk_put (cs := #[.int .i64 ((rd_T77 l0 x26_1).f0), .int .i64 ((rd_T77 l0 x26_1).f1), .int .i64 ((rd_T77 l0 x26_1).f2), .bool ((rd_T77 l0 x26_1).f3), .float .f64 0]) ?_ 4 _ rfl; refine q_ ?_; refine blk_put (cs := #[.int .i64 ((rd_T77 l0 x26_1).f0), .int .i64 ((rd_T77 l0 x26_1).f1), .int .i64 ((rd_T77 l0 x26_1).f2), .bool false, .float .f64 0]) ?_ 3 _ rfl; refine q_ ?_; refine blk_put (cs := #[.int .i64 ((rd_T77 l0 x26_1).f0), .int .i64 ((rd_T77 l0 x26_1).f1), .int .i64 0, .bool false, .float .f64 0]) ?_ 2 _ rfl; refine q_ ?_; refine blk_put (cs := #[.int .i64 ((rd_T77 l0 x26_1).f0), .int .i64 0, .int .i64 0, .bool false, .float .f64 0]) ?_ 1 _ rfl; refine q_ ?_; refine blk_put (cs := #[.int .i64 0, .int .i64 0, .int .i64 0, .bool false, .float .f64 0]) ?_ 0 _ rfl; exact q_ BK266.out⟩, ⟨by repeat (first | (with_reducible first|exact HB.out|apply Srch.vA_|apply Srch.vN_|apply Srch.vD_ | refine Srch.vS_ ?_ GE263.out | refine Srch.vS_ ?_ GE266.out) | exact HB.out)⟩⟩
      case round =>
       clear H'
       (try clear c1); (try clear c2); (try clear p2); (try clear q2); (try clear hx2); (try clear c5); (try clear c5b0); (try clear c5b1); (try clear c5b2); (try clear p6); (try clear c7); (try clear c10); (try clear c10b0); (try clear c11); (try clear c11b0); (try clear c12); (try clear c12b0); (try clear c14); (try clear c16); (try clear c19); (try clear hcz17_0); (try clear hcz17_1); (try clear hcz17_2); (try clear hcz17_3); (try clear hcz17_4); (try clear hcz20_0); (try clear hcz20_1); (try clear hcz20_2); (try clear hcz20_3); (try clear hcz20_4); (try clear hfz17_0); (try clear hfz17_1); (try clear hfz17_2); (try clear hfz17_3); (try clear hfz17_4); (try clear hfz20_0); (try clear hfz20_1); (try clear hfz20_2); (try clear hfz20_3); (try clear hfz20_4); (try clear hx265_0); (try clear hx265_1); (try clear hx265_2); (try clear hx265_3); (try clear hx265_4); (try clear p2); (try clear p265); (try clear q265)
       obtain ⟨x11_2, x36_2, rfl, rfl, HA, HK2, BK263, BK266, HB⟩ := hrel
       cases gk with
       | zero => exact absurd HA.out (by simp [impl_search.l1])
       | succ k2 =>
        have H := HA.out; clear HA
        simp only [impl_search.l1] at H
        by_cases c21 : x36_2 < (l0.length : Int)
        ·rw [if_pos c21] at H
         have c21b0 := decide_eq_true c21
         clear c21
         replace H := ig_ H
         obtain ⟨c22b0, H⟩ := H
         replace H := ig_ H
         obtain ⟨c23b0, H⟩ := H
         by_cases c24 : x11_2 = true
         ·subst c24
          rw [if_pos rfl] at H
          have H' := a_ H
          clear H
          have p268 : 0 ≤ (x36_2 : Int) := od_
          have q268 : x36_2 < (l0.length : Int) := od_
          obtain ⟨ad268, e268, hx268_0, hx268_1, hx268_2, hx268_3, hx268_4⟩ := at_T77 HR0.out x36_2 p268 q268
          obtain rfl : ad265 = ad268 := (by injection e268)
          try replace hx268_0 := cl_ HB.out.b hx268_0
          try replace hx268_1 := cl_ HB.out.b hx268_1
          try replace hx268_2 := cl_ HB.out.b hx268_2
          try replace hx268_3 := cl_ HB.out.b hx268_3
          try replace hx268_4 := cl_ HB.out.b hx268_4
          replace p268 := eq_true p268; replace q268 := eq_true q268
          go_wp2_with (first | ((with_reducible refine gate_dst (N := 13) rfl ?_); (try (refine gate_guard (by rfl) ?_; dsimp only)); refine box_event ?hg (N := 13) ?hd (cs := #[.int .i64 0, .int .i64 0, .int .i64 0, .bool false, .float .f64 0]) (t := 77) ?hr ?_; (case hd => rfl); (case hg => rfl); (case hr => first | (go_simp; done) | (go_simp; rfl)); intro gb269 hg w25 hbox hb; have n0_ := a_ (blk_below (q_ BK263.out) hb); have n1_ := a_ (blk_below (q_ BK266.out) hb); have n2_ := a_ (Srch.bs_ S_ (J_ xn_1) w0 w (by repeat (first | (with_reducible first|exact HB.out|apply Srch.vA_|apply Srch.vN_|apply Srch.vD_ | refine Srch.vS_ ?_ GE263.out | refine Srch.vS_ ?_ GE266.out) | exact HB.out)) hb); have n3_ := a_ (hbox); have n4_ := a_ ((by rw [hg]; exact (Srch.bz_ S_ (J_ xn_1) w0 w (by repeat (first | (with_reducible first|exact HB.out|apply Srch.vA_|apply Srch.vN_|apply Srch.vD_ | refine Srch.vS_ ?_ GE263.out | refine Srch.vS_ ?_ GE266.out) | exact HB.out))) : w.heap.size ≤ gb269)); have n5_ := a_ ((by rw [hg]; exact (Srch.bz_ S_ (J_ xn_1) w0 w (by repeat (first | (with_reducible first|exact HB.out|apply Srch.vA_|apply Srch.vN_|apply Srch.vD_ | refine Srch.vS_ ?_ GE263.out | refine Srch.vS_ ?_ GE266.out) | exact HB.out))) : w.heap.size ≤ gb269)); have n6_ := a_ ((by rw [hg]; exact Nat.ne_of_lt (blk_lt (g := gb263) (o := .cells #[.int .i64 a2_0, .slice A2_1 l2_1.length c2_1] 88 (0, 0)) (q_ BK263.out)) : gb263 ≠ gb269)); have n7_ := a_ ((by rw [hg]; exact Nat.ne_of_gt (blk_lt (g := gb263) (o := .cells #[.int .i64 a2_0, .slice A2_1 l2_1.length c2_1] 88 (0, 0)) (q_ BK263.out)) : gb269 ≠ gb263)); have n8_ := a_ ((by rw [hg]; exact Nat.ne_of_lt (blk_lt (g := gb266) (o := .cells #[.int .i64 ((rd_T77 l0 x26_1).f0), .int .i64 ((rd_T77 l0 x26_1).f1), .int .i64 ((rd_T77 l0 x26_1).f2), .bool ((rd_T77 l0 x26_1).f3), .float .f64 ((rd_T77 l0 x26_1).f4)] 77 (0, 0)) (q_ BK266.out)) : gb266 ≠ gb269)); have n9_ := a_ ((by rw [hg]; exact Nat.ne_of_gt (blk_lt (g := gb266) (o := .cells #[.int .i64 ((rd_T77 l0 x26_1).f0), .int .i64 ((rd_T77 l0 x26_1).f1), .int .i64 ((rd_T77 l0 x26_1).f2), .bool ((rd_T77 l0 x26_1).f3), .float .f64 ((rd_T77 l0 x26_1).f4)] 77 (0, 0)) (q_ BK266.out)) : gb269 ≠ gb266)); clear BK263; clear BK266; clear HB; have BK263 := n0_; have BK266 := n1_; have HB := n2_; have BK269 := n3_; have GW269 := n4_; have GE269 := n5_; have NB263_269 := n6_; have NB269_263 := n7_; have NB266_269 := n8_; have NB269_266 := n9_; clear n0_ n1_ n2_ n3_ n4_ n5_ n6_ n7_ n8_ n9_; clear hb hbox hg; have hnb26 := NB269_263.out; have hnc26 := NB263_269.out; have hnb27 := NB269_266.out; have hnc27 := NB266_269.out; obtain ⟨hcz28_0, hcz28_1, hcz28_2, hcz28_3, hcz28_4, hfz28_0, hfz28_1, hfz28_2, hfz28_3, hfz28_4⟩ := cz5_ BK269.out))
          go_roundg k2
          case measure => have := HK1.out; have := HK2.out; omega
          case rel => exact ⟨(true), (wrap64 (x36_2 + 1)), (by first | rfl | (simp; done) | (simp [*]; done)), (by first | rfl | (simp; done) | (simp [*]; done)), H', ⟨by have := HK1.out; have := HK2.out; omega⟩, ⟨by refine q_ ?_; refine blk_far ?_ NB263_269.out _; refine q_ ?_; refine blk_far ?_ NB263_269.out _; refine q_ ?_; refine blk_far ?_ NB263_269.out _; refine q_ ?_; refine blk_far ?_ NB263_269.out _; refine q_ ?_; refine blk_far ?_ NB263_269.out _; exact q_ BK263.out⟩, ⟨by refine q_ ?_; refine blk_far ?_ NB266_269.out _; refine q_ ?_; refine blk_far ?_ NB266_269.out _; refine q_ ?_; refine blk_far ?_ NB266_269.out _; refine q_ ?_; refine blk_far ?_ NB266_269.out _; refine q_ ?_; refine blk_far ?_ NB266_269.out _; exact q_ BK266.out⟩, ⟨by repeat (first | (with_reducible first|exact HB.out|apply Srch.vA_|apply Srch.vN_|apply Srch.vD_ | refine Srch.vS_ ?_ GE263.out | refine Srch.vS_ ?_ GE266.out | refine Srch.vS_ ?_ GE269.out) | exact HB.out)⟩⟩
         ·replace c24 := Bool.eq_false_iff.mpr c24
          subst c24
          rw [if_neg (show ¬ (false = true) by decide)] at H
          replace H := Option.bind_eq_some_iff.mp H
          obtain ⟨t270, A290, H⟩ := H
          try dsimp only at H
          have A29 := a_ A290; clear A290
          by_cases c30 : t270 = true
          ·subst c30
           rw [if_pos rfl] at H
           replace H := Option.bind_eq_some_iff.mp H
           obtain ⟨t271, A310, H⟩ := H
           try dsimp only at H
           have A31 := a_ A310; clear A310
           have H' := a_ H
           clear H
           have p268 : 0 ≤ (x36_2 : Int) := od_
           have q268 : x36_2 < (l0.length : Int) := od_
           obtain ⟨ad268, e268, hx268_0, hx268_1, hx268_2, hx268_3, hx268_4⟩ := at_T77 HR0.out x36_2 p268 q268
           obtain rfl : ad265 = ad268 := (by injection e268)
           try replace hx268_0 := cl_ HB.out.b hx268_0
           try replace hx268_1 := cl_ HB.out.b hx268_1
           try replace hx268_2 := cl_ HB.out.b hx268_2
           try replace hx268_3 := cl_ HB.out.b hx268_3
           try replace hx268_4 := cl_ HB.out.b hx268_4
           replace p268 := eq_true p268; replace q268 := eq_true q268
           go_wp2_with (first | ((with_reducible refine gate_dst (N := 13) rfl ?_); (try (refine gate_guard (by rfl) ?_; dsimp only)); refine box_event ?hg (N := 13) ?hd (cs := #[.int .i64 0, .int .i64 0, .int .i64 0, .bool false, .float .f64 0]) (t := 77) ?hr ?_; (case hd => rfl); (case hg => rfl); (case hr => first | (go_simp; done) | (go_simp; rfl)); intro gb269 hg w32 hbox hb; have n0_ := a_ (blk_below (q_ BK263.out) hb); have n1_ := a_ (blk_below (q_ BK266.out) hb); have n2_ := a_ (Srch.bs_ S_ (J_ xn_1) w0 w (by repeat (first | (with_reducible first|exact HB.out|apply Srch.vA_|apply Srch.vN_|apply Srch.vD_ | refine Srch.vS_ ?_ GE263.out | refine Srch.vS_ ?_ GE266.out) | exact HB.out)) hb); have n3_ := a_ (hbox); have n4_ := a_ ((by rw [hg]; exact (Srch.bz_ S_ (J_ xn_1) w0 w (by repeat (first | (with_reducible first|exact HB.out|apply Srch.vA_|apply Srch.vN_|apply Srch.vD_ | refine Srch.vS_ ?_ GE263.out | refine Srch.vS_ ?_ GE266.out) | exact HB.out))) : w.heap.size ≤ gb269)); have n5_ := a_ ((by rw [hg]; exact (Srch.bz_ S_ (J_ xn_1) w0 w (by repeat (first | (with_reducible first|exact HB.out|apply Srch.vA_|apply Srch.vN_|apply Srch.vD_ | refine Srch.vS_ ?_ GE263.out | refine Srch.vS_ ?_ GE266.out) | exact HB.out))) : w.heap.size ≤ gb269)); have n6_ := a_ ((by rw [hg]; exact Nat.ne_of_lt (blk_lt (g := gb263) (o := .cells #[.int .i64 a2_0, .slice A2_1 l2_1.length c2_1] 88 (0, 0)) (q_ BK263.out)) : gb263 ≠ gb269)); have n7_ := a_ ((by rw [hg]; exact Nat.ne_of_gt (blk_lt (g := gb263) (o := .cells #[.int .i64 a2_0, .slice A2_1 l2_1.length c2_1] 88 (0, 0)) (q_ BK263.out)) : gb269 ≠ gb263)); have n8_ := a_ ((by rw [hg]; exact Nat.ne_of_lt (blk_lt (g := gb266) (o := .cells #[.int .i64 ((rd_T77 l0 x26_1).f0), .int .i64 ((rd_T77 l0 x26_1).f1), .int .i64 ((rd_T77 l0 x26_1).f2), .bool ((rd_T77 l0 x26_1).f3), .float .f64 ((rd_T77 l0 x26_1).f4)] 77 (0, 0)) (q_ BK266.out)) : gb266 ≠ gb269)); have n9_ := a_ ((by rw [hg]; exact Nat.ne_of_gt (blk_lt (g := gb266) (o := .cells #[.int .i64 ((rd_T77 l0 x26_1).f0), .int .i64 ((rd_T77 l0 x26_1).f1), .int .i64 ((rd_T77 l0 x26_1).f2), .bool ((rd_T77 l0 x26_1).f3), .float .f64 ((rd_T77 l0 x26_1).f4)] 77 (0, 0)) (q_ BK266.out)) : gb269 ≠ gb266)); clear BK263; clear BK266; clear HB; have BK263 := n0_; have BK266 := n1_; have HB := n2_; have BK269 := n3_; have GW269 := n4_; have GE269 := n5_; have NB263_269 := n6_; have NB269_263 := n7_; have NB266_269 := n8_; have NB269_266 := n9_; clear n0_ n1_ n2_ n3_ n4_ n5_ n6_ n7_ n8_ n9_; clear hb hbox hg; have hnb33 := NB269_263.out; have hnc33 := NB263_269.out; have hnb34 := NB269_266.out; have hnc34 := NB266_269.out; obtain ⟨hcz35_0, hcz35_1, hcz35_2, hcz35_3, hcz35_4, hfz35_0, hfz35_1, hfz35_2, hfz35_3, hfz35_4⟩ := cz5_ BK269.out; have hnb36 := NB266_263.out; have hnc36 := NB263_266.out; obtain ⟨hcz37_0, hcz37_1, hcz37_2, hcz37_3, hcz37_4, hfz37_0, hfz37_1, hfz37_2, hfz37_3, hfz37_4⟩ := cz5_ BK266.out) | (go_at_call 69; (with_reducible refine (impl_Call_ahead.calls ((rd_T77 l0 x36_2).f0) ((rd_T77 l0 x36_2).f1) ((rd_T77 l0 x36_2).f2) ((rd_T77 l0 x36_2).f3) ((rd_T77 l0 x36_2).f4) ((rd_T77 l0 x26_1).f0) ((rd_T77 l0 x26_1).f1) ((rd_T77 l0 x26_1).f2) ((rd_T77 l0 x26_1).f3) ((rd_T77 l0 x26_1).f4) true _ A29.out).mono ?_); rintro e w38 ⟨rfl, hb⟩; have n0_ := a_ (blk_below (g := gb263) (o := .cells #[.int .i64 a2_0, .slice A2_1 l2_1.length c2_1] 88 (0, 0)) (by refine q_ ?_; refine blk_far ?_ NB263_269.out _; refine q_ ?_; refine blk_far ?_ NB263_269.out _; refine q_ ?_; refine blk_far ?_ NB263_269.out _; refine q_ ?_; refine blk_far ?_ NB263_269.out _; refine q_ ?_; refine blk_far ?_ NB263_269.out _; exact q_ BK263.out) hb); have n1_ := a_ (blk_below (g := gb266) (o := .cells #[.int .i64 ((rd_T77 l0 x26_1).f0), .int .i64 ((rd_T77 l0 x26_1).f1), .int .i64 ((rd_T77 l0 x26_1).f2), .bool ((rd_T77 l0 x26_1).f3), .float .f64 ((rd_T77 l0 x26_1).f4)] 77 (0, 0)) (by refine q_ ?_; refine blk_far ?_ NB266_269.out _; refine q_ ?_; refine blk_far ?_ NB266_269.out _; refine q_ ?_; refine blk_far ?_ NB266_269.out _; refine q_ ?_; refine blk_far ?_ NB266_269.out _; refine q_ ?_; refine blk_far ?_ NB266_269.out _; exact q_ BK266.out) hb); have n2_ := a_ (blk_below (g := gb269) (o := .cells #[.int .i64 ((rd_T77 l0 x36_2).f0), .int .i64 ((rd_T77 l0 x36_2).f1), .int .i64 ((rd_T77 l0 x36_2).f2), .bool ((rd_T77 l0 x36_2).f3), .float .f64 ((rd_T77 l0 x36_2).f4)] 77 (0, 0)) (by refine q_ ?_; refine blk_put (cs := #[.int .i64 ((rd_T77 l0 x36_2).f0), .int .i64 ((rd_T77 l0 x36_2).f1), .int .i64 ((rd_T77 l0 x36_2).f2), .bool ((rd_T77 l0 x36_2).f3), .float .f64 0]) ?_ 4 _ rfl; refine q_ ?_; refine blk_put (cs := #[.int .i64 ((rd_T77 l0 x36_2).f0), .int .i64 ((rd_T77 l0 x36_2).f1), .int .i64 ((rd_T77 l0 x36_2).f2), .bool false, .float .f64 0]) ?_ 3 _ rfl; refine q_ ?_; refine blk_put (cs := #[.int .i64 ((rd_T77 l0 x36_2).f0), .int .i64 ((rd_T77 l0 x36_2).f1), .int .i64 0, .bool false, .float .f64 0]) ?_ 2 _ rfl; refine q_ ?_; refine blk_put (cs := #[.int .i64 ((rd_T77 l0 x36_2).f0), .int .i64 0, .int .i64 0, .bool false, .float .f64 0]) ?_ 1 _ rfl; refine q_ ?_; refine blk_put (cs := #[.int .i64 0, .int .i64 0, .int .i64 0, .bool false, .float .f64 0]) ?_ 0 _ rfl; exact q_ BK269.out) hb); have n3_ := a_ (Srch.bs_ S_ (J_ xn_1) w0 w (by repeat (first | (with_reducible first|exact HB.out|apply Srch.vA_|apply Srch.vN_|apply Srch.vD_ | refine Srch.vS_ ?_ GE263.out | refine Srch.vS_ ?_ GE266.out | refine Srch.vS_ ?_ GE269.out) | exact HB.out)) hb); clear BK263; clear BK266; clear BK269; clear HB; have BK263 := n0_; have BK266 := n1_; have BK269 := n2_; have HB := n3_; clear n0_ n1_ n2_ n3_; (try clear hb); (try clear hb2); (try clear hk); (try clear hi)) | (go_at_call 109; (with_reducible refine (slices_Contains_int_int.calls k2 _ _ l1 x36_2 t271 _ ?side1 ?side2 A31.out).mono ?_); (case side1 => exact c_ (Srch.C_kb (J := J_ xn_1) (w0 := w0) (S_ := S_) HR1.out HB.out)); (case side2 => exact HC1.out); rintro e w' ⟨rfl, ⟨nd, rfl⟩⟩))
           go_roundg k2
           case measure => have := HK1.out; have := HK2.out; omega
           case rel => exact ⟨(!t271), (wrap64 (x36_2 + 1)), (by first | rfl | (simp; done) | (simp [*]; done)), (by first | rfl | (simp; done) | (simp [*]; done)), H', ⟨by have := HK1.out; have := HK2.out; omega⟩, ⟨by exact q_ BK263.out⟩, ⟨by exact q_ BK266.out⟩, ⟨by repeat (first | (with_reducible first|exact HB.out|apply Srch.vA_|apply Srch.vN_|apply Srch.vD_ | refine Srch.vS_ ?_ GE263.out | refine Srch.vS_ ?_ GE266.out | refine Srch.vS_ ?_ GE269.out) | exact HB.out)⟩⟩
          ·replace c30 := Bool.eq_false_iff.mpr c30
           subst c30
           rw [if_neg (show ¬ (false = true) by decide)] at H
           have H' := a_ H
           clear H
           have p268 : 0 ≤ (x36_2 : Int) := od_
           have q268 : x36_2 < (l0.length : Int) := od_
           obtain ⟨ad268, e268, hx268_0, hx268_1, hx268_2, hx268_3, hx268_4⟩ := at_T77 HR0.out x36_2 p268 q268
           obtain rfl : ad265 = ad268 := (by injection e268)
           try replace hx268_0 := cl_ HB.out.b hx268_0
           try replace hx268_1 := cl_ HB.out.b hx268_1
           try replace hx268_2 := cl_ HB.out.b hx268_2
           try replace hx268_3 := cl_ HB.out.b hx268_3
           try replace hx268_4 := cl_ HB.out.b hx268_4
           replace p268 := eq_true p268; replace q268 := eq_true q268
           go_wp2_with (first | ((with_reducible refine gate_dst (N := 13) rfl ?_); (try (refine gate_guard (by rfl) ?_; dsimp only)); refine box_event ?hg (N := 13) ?hd (cs := #[.int .i64 0, .int .i64 0, .int .i64 0, .bool false, .float .f64 0]) (t := 77) ?hr ?_; (case hd => rfl); (case hg => rfl); (case hr => first | (go_simp; done) | (go_simp; rfl)); intro gb269 hg w39 hbox hb; have n0_ := a_ (blk_below (q_ BK263.out) hb); have n1_ := a_ (blk_below (q_ BK266.out) hb); have n2_ := a_ (Srch.bs_ S_ (J_ xn_1) w0 w (by repeat (first | (with_reducible first|exact HB.out|apply Srch.vA_|apply Srch.vN_|apply Srch.vD_ | refine Srch.vS_ ?_ GE263.out | refine Srch.vS_ ?_ GE266.out) | exact HB.out)) hb); have n3_ := a_ (hbox); have n4_ := a_ ((by rw [hg]; exact (Srch.bz_ S_ (J_ xn_1) w0 w (by repeat (first | (with_reducible first|exact HB.out|apply Srch.vA_|apply Srch.vN_|apply Srch.vD_ | refine Srch.vS_ ?_ GE263.out | refine Srch.vS_ ?_ GE266.out) | exact HB.out))) : w.heap.size ≤ gb269)); have n5_ := a_ ((by rw [hg]; exact (Srch.bz_ S_ (J_ xn_1) w0 w (by repeat (first | (with_reducible first|exact HB.out|apply Srch.vA_|apply Srch.vN_|apply Srch.vD_ | refine Srch.vS_ ?_ GE263.out | refine Srch.vS_ ?_ GE266.out) | exact HB.out))) : w.heap.size ≤ gb269)); have n6_ := a_ ((by rw [hg]; exact Nat.ne_of_lt (blk_lt (g := gb263) (o := .cells #[.int .i64 a2_0, .slice A2_1 l2_1.length c2_1] 88 (0, 0)) (q_ BK263.out)) : gb263 ≠ gb269)); have n7_ := a_ ((by rw [hg]; exact Nat.ne_of_gt (blk_lt (g := gb263) (o := .cells #[.int .i64 a2_0, .slice A2_1 l2_1.length c2_1] 88 (0, 0)) (q_ BK263.out)) : gb269 ≠ gb263)); have n8_ := a_ ((by rw [hg]; exact Nat.ne_of_lt (blk_lt (g := gb266) (o := .cells #[.int .i64 ((rd_T77 l0 x26_1).f0), .int .i64 ((rd_T77 l0 x26_1).f1), .int .i64 ((rd_T77 l0 x26_1).f2), .bool ((rd_T77 l0 x26_1).f3), .float .f64 ((rd_T77 l0 x26_1).f4)] 77 (0, 0)) (q_ BK266.out)) : gb266 ≠ gb269)); have n9_ := a_ ((by rw [hg]; exact Nat.ne_of_gt (blk_lt (g := gb266) (o := .cells #[.int .i64 ((rd_T77 l0 x26_1).f0), .int .i64 ((rd_T77 l0 x26_1).f1), .int .i64 ((rd_T77 l0 x26_1).f2), .bool ((rd_T77 l0 x26_1).f3), .float .f64 ((rd_T77 l0 x26_1).f4)] 77 (0, 0)) (q_ BK266.out)) : gb269 ≠ gb266)); clear BK263; clear BK266; clear HB; have BK263 := n0_; have BK266 := n1_; have HB := n2_; have BK269 := n3_; have GW269 := n4_; have GE269 := n5_; have NB263_269 := n6_; have NB269_263 := n7_; have NB266_269 := n8_; have NB269_266 := n9_; clear n0_ n1_ n2_ n3_ n4_ n5_ n6_ n7_ n8_ n9_; clear hb hbox hg; have hnb40 := NB269_263.out; have hnc40 := NB263_269.out; have hnb41 := NB269_266.out; have hnc41 := NB266_269.out; obtain ⟨hcz42_0, hcz42_1, hcz42_2, hcz42_3, hcz42_4, hfz42_0, hfz42_1, hfz42_2, hfz42_3, hfz42_4⟩ := cz5_ BK269.out; have hnb43 := NB266_263.out; have hnc43 := NB263_266.out; obtain ⟨hcz44_0, hcz44_1, hcz44_2, hcz44_3, hcz44_4, hfz44_0, hfz44_1, hfz44_2, hfz44_3, hfz44_4⟩ := cz5_ BK266.out) | (go_at_call 69; (with_reducible refine (impl_Call_ahead.calls ((rd_T77 l0 x36_2).f0) ((rd_T77 l0 x36_2).f1) ((rd_T77 l0 x36_2).f2) ((rd_T77 l0 x36_2).f3) ((rd_T77 l0 x36_2).f4) ((rd_T77 l0 x26_1).f0) ((rd_T77 l0 x26_1).f1) ((rd_T77 l0 x26_1).f2) ((rd_T77 l0 x26_1).f3) ((rd_T77 l0 x26_1).f4) false _ A29.out).mono ?_); rintro e w45 ⟨rfl, hb⟩; have n0_ := a_ (blk_below (g := gb263) (o := .cells #[.int .i64 a2_0, .slice A2_1 l2_1.length c2_1] 88 (0, 0)) (by refine q_ ?_; refine blk_far ?_ NB263_269.out _; refine q_ ?_; refine blk_far ?_ NB263_269.out _; refine q_ ?_; refine blk_far ?_ NB263_269.out _; refine q_ ?_; refine blk_far ?_ NB263_269.out _; refine q_ ?_; refine blk_far ?_ NB263_269.out _; exact q_ BK263.out) hb); have n1_ := a_ (blk_below (g := gb266) (o := .cells #[.int .i64 ((rd_T77 l0 x26_1).f0), .int .i64 ((rd_T77 l0 x26_1).f1), .int .i64 ((rd_T77 l0 x26_1).f2), .bool ((rd_T77 l0 x26_1).f3), .float .f64 ((rd_T77 l0 x26_1).f4)] 77 (0, 0)) (by refine q_ ?_; refine blk_far ?_ NB266_269.out _; refine q_ ?_; refine blk_far ?_ NB266_269.out _; refine q_ ?_; refine blk_far ?_ NB266_269.out _; refine q_ ?_; refine blk_far ?_ NB266_269.out _; refine q_ ?_; refine blk_far ?_ NB266_269.out _; exact q_ BK266.out) hb); have n2_ := a_ (blk_below (g := gb269) (o := .cells #[.int .i64 ((rd_T77 l0 x36_2).f0), .int .i64 ((rd_T77 l0 x36_2).f1), .int .i64 ((rd_T77 l0 x36_2).f2), .bool ((rd_T77 l0 x36_2).f3), .float .f64 ((rd_T77 l0 x36_2).f4)] 77 (0, 0)) (by refine q_ ?_; refine blk_put (cs := #[.int .i64 ((rd_T77 l0 x36_2).f0), .int .i64 ((rd_T77 l0 x36_2).f1), .int .i64 ((rd_T77 l0 x36_2).f2), .bool ((rd_T77 l0 x36_2).f3), .float .f64 0]) ?_ 4 _ rfl; refine q_ ?_; refine blk_put (cs := #[.int .i64 ((rd_T77 l0 x36_2).f0), .int .i64 ((rd_T77 l0 x36_2).f1), .int .i64 ((rd_T77 l0 x36_2).f2), .bool false, .float .f64 0]) ?_ 3 _ rfl; refine q_ ?_; refine blk_put (cs := #[.int .i64 ((rd_T77 l0 x36_2).f0), .int .i64 ((rd_T77 l0 x36_2).f1), .int .i64 0, .bool false, .float .f64 0]) ?_ 2 _ rfl; refine q_ ?_; refine blk_put (cs := #[.int .i64 ((rd_T77 l0 x36_2).f0), .int .i64 0, .int .i64 0, .bool false, .float .f64 0]) ?_ 1 _ rfl; refine q_ ?_; refine blk_put (cs := #[.int .i64 0, .int .i64 0, .int .i64 0, .bool false, .float .f64 0]) ?_ 0 _ rfl; exact q_ BK269.out) hb); have n3_ := a_ (Srch.bs_ S_ (J_ xn_1) w0 w (by repeat (first | (with_reducible first|exact HB.out|apply Srch.vA_|apply Srch.vN_|apply Srch.vD_ | refine Srch.vS_ ?_ GE263.out | refine Srch.vS_ ?_ GE266.out | refine Srch.vS_ ?_ GE269.out) | exact HB.out)) hb); clear BK263; clear BK266; clear BK269; clear HB; have BK263 := n0_; have BK266 := n1_; have BK269 := n2_; have HB := n3_; clear n0_ n1_ n2_ n3_; (try clear hb); (try clear hb2); (try clear hk); (try clear hi)))
           go_roundg k2
           case measure => have := HK1.out; have := HK2.out; omega
           case rel => exact ⟨(false), (wrap64 (x36_2 + 1)), (by first | rfl | (simp; done) | (simp [*]; done)), (by first | rfl | (simp; done) | (simp [*]; done)), H', ⟨by have := HK1.out; have := HK2.out; omega⟩, ⟨by exact q_ BK263.out⟩, ⟨by exact q_ BK266.out⟩, ⟨by repeat (first | (with_reducible first|exact HB.out|apply Srch.vA_|apply Srch.vN_|apply Srch.vD_ | refine Srch.vS_ ?_ GE263.out | refine Srch.vS_ ?_ GE266.out | refine Srch.vS_ ?_ GE269.out) | exact HB.out)⟩⟩
        ·rw [if_neg c21] at H
         have c21b0 := decide_eq_false c21
         clear c21
         replace H := Option.bind_eq_some_iff.mp H
         obtain ⟨⟨t272, t273, t274⟩, A460, H⟩ := H
         try dsimp only at H
         have A46 := a_ A460; clear A460
         by_cases c47 : x11_2 = true
         ·subst c47
          rw [if_pos rfl] at H
          have H' := a_ H
          clear H; have hnb48 := NB263_266.out; have hnc48 := NB266_263.out
          obtain ⟨hcz49_0, hcz49_1, hfz49_0, hfz49_1⟩ := cz2_ BK263.out
          obtain ⟨hcz50_0, hcz50_1, hcz50_2, hcz50_3, hcz50_4, hfz50_0, hfz50_1, hfz50_2, hfz50_3, hfz50_4⟩ := cz5_ BK266.out
          try go_wp2_with (first | ((with_reducible refine gate_callee (f := 107) rfl ?_); refine goesL_ (some 57) rfl rfl Try.func107 (by kernel_rfl) rfl #[.agg #[.int .i64 a2_0, .slice A2_1 l2_1.length c2_1], .agg #[.int .i64 ((rd_T77 l0 x26_1).f0), .int .i64 ((rd_T77 l0 x26_1).f1), .int .i64 ((rd_T77 l0 x26_1).f2), .bool ((rd_T77 l0 x26_1).f3), .float .f64 ((rd_T77 l0 x26_1).f4)]] rfl la_ ?_; (with_reducible refine (impl_object_play.calls k2 a2_0 (fun k_ => k_ < w.heap.size ∧ ¬ S_ k_) _ _ l2_1 ((rd_T77 l0 x26_1).f0) ((rd_T77 l0 x26_1).f1) ((rd_T77 l0 x26_1).f2) ((rd_T77 l0 x26_1).f3) ((rd_T77 l0 x26_1).f4) t272 t273 t274 _ ?side1 A46.out).mono ?_); (case side1 => exact Kd.V_mk HC2_1.out (Srch.F_kb (J := J_ xn_1) (w0 := w0) (S_ := S_) HR2_1.out (by repeat (first | (with_reducible first|exact HB.out|apply Srch.vA_|apply Srch.vN_|apply Srch.vD_ | refine Srch.vS_ ?_ GE263.out | refine Srch.vS_ ?_ GE266.out) | exact HB.out)))); rintro e w51 ⟨v275, rfl, ho0, hb⟩; refine ⟨_, rfl, ?_⟩; have n0_ := a_ (Kd.V_lower (Kd.V_mono (ok' := fun k_ => (k_ ≠ gb263 ∧ ¬ S_ k_) ∧ k_ ≠ gb266) ho0 (fun k_ hk_ => ⟨⟨Or.elim hk_ (fun hs_ => fun e_ => Nat.not_le.2 hs_.1 (by rw [e_]; exact GW263.out)) (fun hn_ => (Kd.freshB (g := gb263) (o := .cells #[.int .i64 a2_0, .slice A2_1 l2_1.length c2_1] 88 (0, 0)) (q_ BK263.out) k_ hn_)), Or.elim hk_ (fun hs_ => hs_.2) (fun hn_ => fun e_ => absurd (Nat.lt_of_lt_of_le (HB.out.c k_ e_).2 HB.out.k.1) (Nat.not_lt.mpr hn_))⟩, Or.elim hk_ (fun hs_ => fun e_ => Nat.not_le.2 hs_.1 (by rw [e_]; exact GW266.out)) (fun hn_ => (Kd.freshB (g := gb266) (o := .cells #[.int .i64 ((rd_T77 l0 x26_1).f0), .int .i64 ((rd_T77 l0 x26_1).f1), .int .i64 ((rd_T77 l0 x26_1).f2), .bool ((rd_T77 l0 x26_1).f3), .float .f64 ((rd_T77 l0 x26_1).f4)] 77 (0, 0)) (q_ BK266.out) k_ hn_))⟩)) (Srch.bz_ S_ (J_ xn_1) w0 w (by repeat (first | (with_reducible first|exact HB.out|apply Srch.vA_|apply Srch.vN_|apply Srch.vD_ | refine Srch.vS_ ?_ GE263.out | refine Srch.vS_ ?_ GE266.out) | exact HB.out)))); have n1_ := a_ (blk_below (q_ BK263.out) hb); have n2_ := a_ (blk_below (q_ BK266.out) hb); have n3_ := a_ (Srch.bs_ S_ (J_ xn_1) w0 w (by repeat (first | (with_reducible first|exact HB.out|apply Srch.vA_|apply Srch.vN_|apply Srch.vD_ | refine Srch.vS_ ?_ GE263.out | refine Srch.vS_ ?_ GE266.out) | exact HB.out)) hb); clear BK263; clear BK266; clear HB; have HO276 := n0_; have BK263 := n1_; have BK266 := n2_; have HB := n3_; clear n0_ n1_ n2_ n3_; (try clear hb); (try clear hb2); (try clear hk); (try clear hi); (try clear ho0)) | ((with_reducible refine gate_dst (N := 15) rfl ?_); (try (refine gate_guard (by rfl) ?_; dsimp only)); refine box_event ?hg (N := 15) ?hd (cs := #[.int .i64 0, .slice none 0 0]) (t := 88) ?hr ?_; (case hd => rfl); (case hg => rfl); (case hr => first | (go_simp; done) | (go_simp; rfl)); intro gb277 hg w52 hbox hb; have n0_ := a_ (Kd.V_below (Kd.V_elderB (by (with_reducible repeat (first | apply Kd.V_alloc | apply Kd.V_drewN | apply Kd.V_drew)); exact HO276.out) gb277 (Nat.le_of_eq hg.symm)) hb); have n1_ := a_ (blk_below (q_ BK263.out) hb); have n2_ := a_ (blk_below (q_ BK266.out) hb); have n3_ := a_ (Srch.bs_ S_ (J_ xn_1) w0 w (by repeat (first | (with_reducible first|exact HB.out|apply Srch.vA_|apply Srch.vN_|apply Srch.vD_ | refine Srch.vS_ ?_ GE263.out | refine Srch.vS_ ?_ GE266.out) | exact HB.out)) hb); have n4_ := a_ (hbox); have n5_ := a_ ((by rw [hg]; exact (Srch.bz_ S_ (J_ xn_1) w0 w (by repeat (first | (with_reducible first|exact HB.out|apply Srch.vA_|apply Srch.vN_|apply Srch.vD_ | refine Srch.vS_ ?_ GE263.out | refine Srch.vS_ ?_ GE266.out) | exact HB.out))) : w.heap.size ≤ gb277)); have n6_ := a_ ((by rw [hg]; exact (Srch.bz_ S_ (J_ xn_1) w0 w (by repeat (first | (with_reducible first|exact HB.out|apply Srch.vA_|apply Srch.vN_|apply Srch.vD_ | refine Srch.vS_ ?_ GE263.out | refine Srch.vS_ ?_ GE266.out) | exact HB.out))) : w.heap.size ≤ gb277)); have n7_ := a_ ((by rw [hg]; exact Nat.ne_of_lt (blk_lt (g := gb263) (o := .cells #[.int .i64 a2_0, .slice A2_1 l2_1.length c2_1] 88 (0, 0)) (q_ BK263.out)) : gb263 ≠ gb277)); have n8_ := a_ ((by rw [hg]; exact Nat.ne_of_gt (blk_lt (g := gb263) (o := .cells #[.int .i64 a2_0, .slice A2_1 l2_1.length c2_1] 88 (0, 0)) (q_ BK263.out)) : gb277 ≠ gb263)); have n9_ := a_ ((by rw [hg]; exact Nat.ne_of_lt (blk_lt (g := gb266) (o := .cells #[.int .i64 ((rd_T77 l0 x26_1).f0), .int .i64 ((rd_T77 l0 x26_1).f1), .int .i64 ((rd_T77 l0 x26_1).f2), .bool ((rd_T77 l0 x26_1).f3), .float .f64 ((rd_T77 l0 x26_1).f4)] 77 (0, 0)) (q_ BK266.out)) : gb266 ≠ gb277)); have n10_ := a_ ((by rw [hg]; exact Nat.ne_of_gt (blk_lt (g := gb266) (o := .cells #[.int .i64 ((rd_T77 l0 x26_1).f0), .int .i64 ((rd_T77 l0 x26_1).f1), .int .i64 ((rd_T77 l0 x26_1).f2), .bool ((rd_T77 l0 x26_1).f3), .float .f64 ((rd_T77 l0 x26_1).f4)] 77 (0, 0)) (q_ BK266.out)) : gb277 ≠ gb266)); clear HO276; clear BK263; clear BK266; clear HB; have HO276 := n0_; have BK263 := n1_; have BK266 := n2_; have HB := n3_; have BK277 := n4_; have GW277 := n5_; have GE277 := n6_; have NB263_277 := n7_; have NB277_263 := n8_; have NB266_277 := n9_; have NB277_266 := n10_; clear n0_ n1_ n2_ n3_ n4_ n5_ n6_ n7_ n8_ n9_ n10_; clear hb hbox hg; have hnb53 := NB277_263.out; have hnc53 := NB263_277.out; have hnb54 := NB277_266.out; have hnc54 := NB266_277.out; obtain ⟨hcz55_0, hcz55_1, hfz55_0, hfz55_1⟩ := cz2_ BK277.out; obtain ⟨Ao56, co56, eo56⟩ := Kd.V_slice HO276.out; subst eo56))
          have n0_ : Aside0 (Kd.V Kd.float 55 ((w52.setCell ⟨gb277, 0, none⟩ (.int .i64 t273)).setCell ⟨gb277, 1, none⟩ (.slice Ao56 t274.length co56)) w.heap.size (fun k_ => (k_ ≠ gb263 ∧ ¬ S_ k_) ∧ k_ ≠ gb266 ∧ k_ ≠ gb277) (.slice Ao56 t274.length co56) t274) := ⟨by (with_reducible repeat (first | apply Kd.V_alloc | apply Kd.V_drewN | apply Kd.V_drew)); exact Kd.V_mono (Kd.V_far (p := ⟨gb277, 1, none⟩) (Kd.V_far (p := ⟨gb277, 0, none⟩) (Kd.V_mono HO276.out (fun k_ hk => (⟨hk, hk.2⟩ : _ ∧ k_ ≠ gb277))) (fun _ hk => hk.2) (.int .i64 t273)) (fun _ hk => hk.2) (.slice Ao56 t274.length co56)) (fun _ hk => ⟨hk.1.1.1, ⟨hk.1.1.2, hk.1.2⟩⟩)⟩
          have n1_ : Aside0 (((w52.setCell ⟨gb277, 0, none⟩ (.int .i64 t273)).setCell ⟨gb277, 1, none⟩ (.slice Ao56 t274.length co56)).heap[gb263]? = some (.cells #[.int .i64 a2_0, .slice A2_1 l2_1.length c2_1] 88 (0, 0))) := ⟨by refine q_ ?_; refine blk_far ?_ NB263_277.out _; refine q_ ?_; refine blk_far ?_ NB263_277.out _; exact q_ BK263.out⟩
          have n2_ : Aside0 (((w52.setCell ⟨gb277, 0, none⟩ (.int .i64 t273)).setCell ⟨gb277, 1, none⟩ (.slice Ao56 t274.length co56)).heap[gb266]? = some (.cells #[.int .i64 ((rd_T77 l0 x26_1).f0), .int .i64 ((rd_T77 l0 x26_1).f1), .int .i64 ((rd_T77 l0 x26_1).f2), .bool ((rd_T77 l0 x26_1).f3), .float .f64 ((rd_T77 l0 x26_1).f4)] 77 (0, 0))) := ⟨by refine q_ ?_; refine blk_far ?_ NB266_277.out _; refine q_ ?_; refine blk_far ?_ NB266_277.out _; exact q_ BK266.out⟩
          have n3_ : Aside0 (((w52.setCell ⟨gb277, 0, none⟩ (.int .i64 t273)).setCell ⟨gb277, 1, none⟩ (.slice Ao56 t274.length co56)).heap[gb277]? = some (.cells #[.int .i64 t273, .slice Ao56 t274.length co56] 88 (0, 0))) := ⟨by refine q_ ?_; refine blk_put (cs := #[.int .i64 t273, .slice none 0 0]) ?_ 1 _ rfl; refine q_ ?_; refine blk_put (cs := #[.int .i64 0, .slice none 0 0]) ?_ 0 _ rfl; exact q_ BK277.out⟩
          have n4_ : Aside0 (Srch.Bel S_ (J_ xn_1) w0 w ((w52.setCell ⟨gb277, 0, none⟩ (.int .i64 t273)).setCell ⟨gb277, 1, none⟩ (.slice Ao56 t274.length co56))) := ⟨by repeat (first | (with_reducible first|exact HB.out|apply Srch.vA_|apply Srch.vN_|apply Srch.vD_ | refine Srch.vS_ ?_ GE263.out | refine Srch.vS_ ?_ GE266.out | refine Srch.vS_ ?_ GE277.out) | exact HB.out)⟩
          (try clear HO276); (try clear BK263); (try clear BK266); (try clear BK277); (try clear HB)
          generalize ((w52.setCell ⟨gb277, 0, none⟩ (.int .i64 t273)).setCell ⟨gb277, 1, none⟩ (.slice Ao56 t274.length co56)) = w57 at n0_ n1_ n2_ n3_ n4_ ⊢
          have HO276 := n0_; have BK263 := n1_; have BK266 := n2_; have BK277 := n3_; have HB := n4_; clear n0_ n1_ n2_ n3_ n4_
          have n0_ := a_ (Kd.V_drew HO276.out)
          have n1_ := a_ (blk_drew BK263.out)
          have n2_ := a_ (blk_drew BK266.out)
          have n3_ := a_ (blk_drew BK277.out)
          have n4_ := a_ (Srch.below_drew1 HB.out)
          clear HO276; clear BK263; clear BK266; clear BK277; clear HB; have HO276 := n0_; have BK263 := n1_; have BK266 := n2_; have BK277 := n3_; have HB := n4_; clear n0_ n1_ n2_ n3_ n4_
          refine start_ (n := 20) (S := fun w' => True) (ds := []) #[false, false, false, false, false, false, false, false, false, false, false, false, false, false, false, false, false, false, false, false] (by kernel_rfl) rfl rfl trivial (fun hHeld => ?_); refine with_tabW impl_search.tab14 impl_search.bits14 (fun HT_ HW_ => ?_)
          generalize w57.drew = w58 at HO276 BK263 BK266 BK277 HB hHeld ⊢
          refine pure_ (i := 0) (N := some 60) (v := ?_) (a' := ?_) #[true, false, false, false, false, false, false, false, false, false, false, false, false, false, false, false, false, false, false, false] rfl rfl (any_of HT_.out (by kernel_rfl)) (fun _ _ _ h => h) (Or.inl ⟨by rfl, ?_⟩) ?_ ?_
          rotate_left
          ·intro w'
           go_simp
           with_reducible rfl
          rotate_left
          ·simp only [Act.put, List.setIfInBounds_toArray, List.set_cons_zero, List.set_cons_succ, i64_w, i32_w]
           rfl
          refine pure_ (i := 1) (N := some 61) (v := ?_) (a' := ?_) #[true, true, false, false, false, false, false, false, false, false, false, false, false, false, false, false, false, false, false, false] rfl rfl (any_of HT_.out (by kernel_rfl)) (fun _ _ _ h => h) (Or.inl ⟨by rfl, ?_⟩) ?_ ?_
          rotate_left
          ·intro w'
           go_simp
           with_reducible rfl
          rotate_left
          ·simp only [Act.put, List.setIfInBounds_toArray, List.set_cons_zero, List.set_cons_succ, i64_w, i32_w]
           rfl
          refine pure_ (i := 2) (N := some 62) (v := ?_) (a' := ?_) #[true, true, true, false, false, false, false, false, false, false, false, false, false, false, false, false, false, false, false, false] rfl rfl (any_of HT_.out (by kernel_rfl)) (fun _ _ _ h => h) (Or.inl ⟨by rfl, ?_⟩) ?_ ?_
          rotate_left
          ·intro w'
           go_simp
           with_reducible rfl
          rotate_left
          ·simp only [Act.put, List.setIfInBounds_toArray, List.set_cons_zero, List.set_cons_succ, i64_w, i32_w]
           rfl
          refine pure_ (i := 3) (N := some 63) (v := undef) (a' := ?_) #[true, true, true, true, false, false, false, false, false, false, false, false, false, false, false, false, false, false, false, false] rfl rfl (any_of HT_.out (by kernel_rfl)) (fun _ _ _ h => h) (Or.inr ⟨by rfl, rfl⟩) ?_ ?_
          rotate_left
          ·simp only [Act.put, List.setIfInBounds_toArray, List.set_cons_zero, List.set_cons_succ, i64_w, i32_w]
           rfl
          refine pure_ (i := 4) (N := some 64) (v := undef) (a' := ?_) #[true, true, true, true, true, false, false, false, false, false, false, false, false, false, false, false, false, false, false, false] rfl rfl (any_of HT_.out (by kernel_rfl)) (fun _ _ _ h => h) (Or.inr ⟨by rfl, rfl⟩) ?_ ?_
          rotate_left
          ·simp only [Act.put, List.setIfInBounds_toArray, List.set_cons_zero, List.set_cons_succ, i64_w, i32_w]
           rfl
          refine pure_ (i := 5) (N := some 65) (v := undef) (a' := ?_) #[true, true, true, true, true, true, false, false, false, false, false, false, false, false, false, false, false, false, false, false] rfl rfl (any_of HT_.out (by kernel_rfl)) (fun _ _ _ h => h) (Or.inr ⟨by rfl, rfl⟩) ?_ ?_
          rotate_left
          ·simp only [Act.put, List.setIfInBounds_toArray, List.set_cons_zero, List.set_cons_succ, i64_w, i32_w]
           rfl
          refine pure_ (i := 6) (N := some 66) (v := undef) (a' := ?_) #[true, true, true, true, true, true, true, false, false, false, false, false, false, false, false, false, false, false, false, false] rfl rfl (any_of HT_.out (by kernel_rfl)) (fun _ _ _ h => h) (Or.inr ⟨by rfl, rfl⟩) ?_ ?_
          rotate_left
          ·simp only [Act.put, List.setIfInBounds_toArray, List.set_cons_zero, List.set_cons_succ, i64_w, i32_w]
           rfl
          refine pure_ (i := 7) (N := some 67) (v := ?_) (a' := ?_) #[true, true, true, true, true, true, true, true, false, false, false, false, false, false, false, false, false, false, false, false] rfl rfl (any_of HT_.out (by kernel_rfl)) (fun _ _ _ h => h) (Or.inl ⟨by rfl, ?_⟩) ?_ ?_
          rotate_left
          ·intro w'
           go_simp
           with_reducible rfl
          rotate_left
          ·simp only [Act.put, List.setIfInBounds_toArray, List.set_cons_zero, List.set_cons_succ, i64_w, i32_w]
           rfl
          refine pure_ (i := 8) (N := some 68) (v := ?_) (a' := ?_) #[true, true, true, true, true, true, true, true, true, false, false, false, false, false, false, false, false, false, false, false] rfl rfl (any_of HT_.out (by kernel_rfl)) (fun _ _ _ h => h) (Or.inl ⟨by rfl, ?_⟩) ?_ ?_
          rotate_left
          ·intro w'
           go_simp
           with_reducible rfl
          rotate_left
          ·simp only [Act.put, List.setIfInBounds_toArray, List.set_cons_zero, List.set_cons_succ, i64_w, i32_w]
           rfl
          refine pure_ (i := 9) (N := some 69) (v := undef) (a' := ?_) #[true, true, true, true, true, true, true, true, true, true, false, false, false, false, false, false, false, false, false, false] rfl rfl (any_of HT_.out (by kernel_rfl)) (fun _ _ _ h => h) (Or.inr ⟨by rfl, rfl⟩) ?_ ?_
          rotate_left
          ·simp only [Act.put, List.setIfInBounds_toArray, List.set_cons_zero, List.set_cons_succ, i64_w, i32_w]
           rfl
          refine pure_ (i := 10) (N := some 70) (v := undef) (a' := ?_) #[true, true, true, true, true, true, true, true, true, true, true, false, false, false, false, false, false, false, false, false] rfl rfl (any_of HT_.out (by kernel_rfl)) (fun _ _ _ h => h) (Or.inr ⟨by rfl, rfl⟩) ?_ ?_
          rotate_left
          ·simp only [Act.put, List.setIfInBounds_toArray, List.set_cons_zero, List.set_cons_succ, i64_w, i32_w]
           rfl
          refine pure_ (i := 11) (N := some 71) (v := undef) (a' := ?_) #[true, true, true, true, true, true, true, true, true, true, true, true, false, false, false, false, false, false, false, false] rfl rfl (any_of HT_.out (by kernel_rfl)) (fun _ _ _ h => h) (Or.inr ⟨by rfl, rfl⟩) ?_ ?_
          rotate_left
          ·simp only [Act.put, List.setIfInBounds_toArray, List.set_cons_zero, List.set_cons_succ, i64_w, i32_w]
           rfl
          refine pure_ (i := 12) (N := some 72) (v := undef) (a' := ?_) #[true, true, true, true, true, true, true, true, true, true, true, true, true, false, false, false, false, false, false, false] rfl rfl (any_of HT_.out (by kernel_rfl)) (fun _ _ _ h => h) (Or.inr ⟨by rfl, rfl⟩) ?_ ?_
          rotate_left
          ·simp only [Act.put, List.setIfInBounds_toArray, List.set_cons_zero, List.set_cons_succ, i64_w, i32_w]
           rfl
          refine pure_ (i := 13) (N := some 73) (v := undef) (a' := ?_) #[true, true, true, true, true, true, true, true, true, true, true, true, true, true, false, false, false, false, false, false] rfl rfl (any_of HT_.out (by kernel_rfl)) (fun _ _ _ h => h) (Or.inr ⟨by rfl, rfl⟩) ?_ ?_
          rotate_left
          ·simp only [Act.put, List.setIfInBounds_toArray, List.set_cons_zero, List.set_cons_succ, i64_w, i32_w]
           rfl
          refine pure_ (i := 14) (N := some 74) (v := undef) (a' := ?_) #[true, true, true, true, true, true, true, true, true, true, true, true, true, true, true, false, false, false, false, false] rfl rfl (any_of HT_.out (by kernel_rfl)) (fun _ _ _ h => h) (Or.inr ⟨by rfl, rfl⟩) ?_ ?_
          rotate_left
          ·simp only [Act.put, List.setIfInBounds_toArray, List.set_cons_zero, List.set_cons_succ, i64_w, i32_w]
           rfl
          refine pure_ (i := 15) (N := some 75) (v := undef) (a' := ?_) #[true, true, true, true, true, true, true, true, true, true, true, true, true, true, true, true, false, false, false, false] rfl rfl (any_of HT_.out (by kernel_rfl)) (fun _ _ _ h => h) (Or.inr ⟨by rfl, rfl⟩) ?_ ?_
          rotate_left
          ·simp only [Act.put, List.setIfInBounds_toArray, List.set_cons_zero, List.set_cons_succ, i64_w, i32_w]
           rfl
          refine pure_ (i := 16) (N := some 76) (v := undef) (a' := ?_) #[true, true, true, true, true, true, true, true, true, true, true, true, true, true, true, true, true, false, false, false] rfl rfl (any_of HT_.out (by kernel_rfl)) (fun _ _ _ h => h) (Or.inr ⟨by rfl, rfl⟩) ?_ ?_
          rotate_left
          ·simp only [Act.put, List.setIfInBounds_toArray, List.set_cons_zero, List.set_cons_succ, i64_w, i32_w]
           rfl
          refine pure_ (i := 17) (N := some 77) (v := undef) (a' := ?_) #[true, true, true, true, true, true, true, true, true, true, true, true, true, true, true, true, true, true, false, false] rfl rfl (any_of HT_.out (by kernel_rfl)) (fun _ _ _ h => h) (Or.inr ⟨by rfl, rfl⟩) ?_ ?_
          rotate_left
          ·simp only [Act.put, List.setIfInBounds_toArray, List.set_cons_zero, List.set_cons_succ, i64_w, i32_w]
           rfl
          refine pure_ (i := 18) (N := some 78) (v := undef) (a' := ?_) #[true, true, true, true, true, true, true, true, true, true, true, true, true, true, true, true, true, true, true, false] rfl rfl (any_of HT_.out (by kernel_rfl)) (fun _ _ _ h => h) (Or.inr ⟨by rfl, rfl⟩) ?_ ?_
          rotate_left
          ·simp only [Act.put, List.setIfInBounds_toArray, List.set_cons_zero, List.set_cons_succ, i64_w, i32_w]
           rfl
          refine pure_ (i := 19) (N := some 79) (v := ?_) (a' := ?_) #[true, true, true, true, true, true, true, true, true, true, true, true, true, true, true, true, true, true, true, true] rfl rfl (any_of HT_.out (by kernel_rfl)) (fun _ _ _ h => h) (Or.inl ⟨by rfl, ?_⟩) ?_ ?_
          rotate_left
          ·intro w'
           go_simp
           with_reducible rfl
          rotate_left
          ·simp only [Act.put, List.setIfInBounds_toArray, List.set_cons_zero, List.set_cons_succ, i64_w, i32_w]
           rfl
          refine done_ (done_of HT_.out (by kernel_rfl)) ?_
          try go_wp2
          go_roundg k2
          case measure => have := HK1.out; have := HK2.out; omega
          case rel => exact ⟨xn_1, (wrap64 (x26_1 + 1)), (by first | rfl | (simp; done) | (simp [*]; done)), H', ⟨by have := HK1.out; have := HK2.out; omega⟩, ⟨by exact q_ BK263.out⟩, ⟨by repeat (first | (with_reducible first|exact HB.out|apply Srch.vA_|apply Srch.vN_|apply Srch.vD_ | refine Srch.vS_ ?_ GE263.out | refine Srch.vS_ ?_ GE266.out | refine Srch.vS_ ?_ GE277.out) | exact HB.out)⟩⟩
         ·replace c47 := Bool.eq_false_iff.mpr c47
          subst c47
          rw [if_neg (show ¬ (false = true) by decide)] at H
          replace H := Option.bind_eq_some_iff.mp H
          obtain ⟨t278, A590, H⟩ := H
          try dsimp only at H
          have A59 := a_ A590; clear A590
          by_cases c60 : t278 = true
          ·subst c60
           rw [if_pos rfl] at H
           replace H := Option.bind_eq_some_iff.mp H
           obtain ⟨t279, A610, H⟩ := H
           try dsimp only at H
           have A61 := a_ A610; clear A610
           obtain ⟨y282, hy282⟩ : ∃ y_ : List Int, y_ = (([x26_1] : List Int)) := ⟨_, rfl⟩
           replace H : (if t279.length + y282.length < 17592186044416 then ((impl_search.f k2 l0 (t279 ++ y282) t273 t274 mr xn_1).bind fun t288 => (if t288.2.isNone = true then (impl_search.l0 k2 l0 l1 l0 (l0.length : Int) (wrap64 (x26_1 + 1)) a2_0 l2_1 mr t288.1) else (some t288))) else (none)) = some r := by first|(rw [hy282]; with_reducible exact H)|(rw [hy282]; exact (Option.bind_some _ _).symm.trans H)|(rw [hy282]; exact H)|exact H
           have Ny282 := a_ hy282; clear hy282
           have c62 := it_ H
           rw [if_pos c62] at H; have LMc62 := a_ c62; clear c62
           obtain ⟨y285, hy285⟩ : ∃ y_ : List Int, y_ = (t279 ++ y282) := ⟨_, rfl⟩
           replace H : ((impl_search.f k2 l0 y285 t273 t274 mr xn_1).bind fun t288 => (if t288.2.isNone = true then (impl_search.l0 k2 l0 l1 l0 (l0.length : Int) (wrap64 (x26_1 + 1)) a2_0 l2_1 mr t288.1) else (some t288))) = some r := by first|(rw [hy285]; with_reducible exact H)|(rw [hy285]; exact (Option.bind_some _ _).symm.trans H)|(rw [hy285]; exact H)|exact H
           have Ny285 := a_ hy285; clear hy285
           replace H := Option.bind_eq_some_iff.mp H
           obtain ⟨t288, A630, H⟩ := H
           try dsimp only at H
           have A63 := a_ A630; clear A630; have HZ := a_ H; clear H; have hnb65 := NB263_266.out; have hnc65 := NB266_263.out
           obtain ⟨hcz66_0, hcz66_1, hfz66_0, hfz66_1⟩ := cz2_ BK263.out
           obtain ⟨hcz67_0, hcz67_1, hcz67_2, hcz67_3, hcz67_4, hfz67_0, hfz67_1, hfz67_2, hfz67_3, hfz67_4⟩ := cz5_ BK266.out
           try go_wp2_with (first | ((with_reducible refine gate_callee (f := 107) rfl ?_); refine goesL_ (some 57) rfl rfl Try.func107 (by kernel_rfl) rfl #[.agg #[.int .i64 a2_0, .slice A2_1 l2_1.length c2_1], .agg #[.int .i64 ((rd_T77 l0 x26_1).f0), .int .i64 ((rd_T77 l0 x26_1).f1), .int .i64 ((rd_T77 l0 x26_1).f2), .bool ((rd_T77 l0 x26_1).f3), .float .f64 ((rd_T77 l0 x26_1).f4)]] rfl la_ ?_; (with_reducible refine (impl_object_play.calls k2 a2_0 (fun k_ => k_ < w.heap.size ∧ ¬ S_ k_) _ _ l2_1 ((rd_T77 l0 x26_1).f0) ((rd_T77 l0 x26_1).f1) ((rd_T77 l0 x26_1).f2) ((rd_T77 l0 x26_1).f3) ((rd_T77 l0 x26_1).f4) t272 t273 t274 _ ?side1 A46.out).mono ?_); (case side1 => exact Kd.V_mk HC2_1.out (Srch.F_kb (J := J_ xn_1) (w0 := w0) (S_ := S_) HR2_1.out (by repeat (first | (with_reducible first|exact HB.out|apply Srch.vA_|apply Srch.vN_|apply Srch.vD_ | refine Srch.vS_ ?_ GE263.out | refine Srch.vS_ ?_ GE266.out) | exact HB.out)))); rintro e w68 ⟨v275, rfl, ho0, hb⟩; refine ⟨_, rfl, ?_⟩; have n0_ := a_ (Kd.V_lower (Kd.V_mono (ok' := fun k_ => (k_ ≠ gb263 ∧ ¬ S_ k_) ∧ k_ ≠ gb266) ho0 (fun k_ hk_ => ⟨⟨Or.elim hk_ (fun hs_ => fun e_ => Nat.not_le.2 hs_.1 (by rw [e_]; exact GW263.out)) (fun hn_ => (Kd.freshB (g := gb263) (o := .cells #[.int .i64 a2_0, .slice A2_1 l2_1.length c2_1] 88 (0, 0)) (q_ BK263.out) k_ hn_)), Or.elim hk_ (fun hs_ => hs_.2) (fun hn_ => fun e_ => absurd (Nat.lt_of_lt_of_le (HB.out.c k_ e_).2 HB.out.k.1) (Nat.not_lt.mpr hn_))⟩, Or.elim hk_ (fun hs_ => fun e_ => Nat.not_le.2 hs_.1 (by rw [e_]; exact GW266.out)) (fun hn_ => (Kd.freshB (g := gb266) (o := .cells #[.int .i64 ((rd_T77 l0 x26_1).f0), .int .i64 ((rd_T77 l0 x26_1).f1), .int .i64 ((rd_T77 l0 x26_1).f2), .bool ((rd_T77 l0 x26_1).f3), .float .f64 ((rd_T77 l0 x26_1).f4)] 77 (0, 0)) (q_ BK266.out) k_ hn_))⟩)) (Srch.bz_ S_ (J_ xn_1) w0 w (by repeat (first | (with_reducible first|exact HB.out|apply Srch.vA_|apply Srch.vN_|apply Srch.vD_ | refine Srch.vS_ ?_ GE263.out | refine Srch.vS_ ?_ GE266.out) | exact HB.out)))); have n1_ := a_ (blk_below (q_ BK263.out) hb); have n2_ := a_ (blk_below (q_ BK266.out) hb); have n3_ := a_ (Srch.bs_ S_ (J_ xn_1) w0 w (by repeat (first | (with_reducible first|exact HB.out|apply Srch.vA_|apply Srch.vN_|apply Srch.vD_ | refine Srch.vS_ ?_ GE263.out | refine Srch.vS_ ?_ GE266.out) | exact HB.out)) hb); clear BK263; clear BK266; clear HB; have HO276 := n0_; have BK263 := n1_; have BK266 := n2_; have HB := n3_; clear n0_ n1_ n2_ n3_; (try clear hb); (try clear hb2); (try clear hk); (try clear hi); (try clear ho0)) | ((with_reducible refine gate_dst (N := 15) rfl ?_); (try (refine gate_guard (by rfl) ?_; dsimp only)); refine box_event ?hg (N := 15) ?hd (cs := #[.int .i64 0, .slice none 0 0]) (t := 88) ?hr ?_; (case hd => rfl); (case hg => rfl); (case hr => first | (go_simp; done) | (go_simp; rfl)); intro gb277 hg w69 hbox hb; have n0_ := a_ (Kd.V_below (Kd.V_elderB (by (with_reducible repeat (first | apply Kd.V_alloc | apply Kd.V_drewN | apply Kd.V_drew)); exact HO276.out) gb277 (Nat.le_of_eq hg.symm)) hb); have n1_ := a_ (blk_below (q_ BK263.out) hb); have n2_ := a_ (blk_below (q_ BK266.out) hb); have n3_ := a_ (Srch.bs_ S_ (J_ xn_1) w0 w (by repeat (first | (with_reducible first|exact HB.out|apply Srch.vA_|apply Srch.vN_|apply Srch.vD_ | refine Srch.vS_ ?_ GE263.out | refine Srch.vS_ ?_ GE266.out) | exact HB.out)) hb); have n4_ := a_ (hbox); have n5_ := a_ ((by rw [hg]; exact (Srch.bz_ S_ (J_ xn_1) w0 w (by repeat (first | (with_reducible first|exact HB.out|apply Srch.vA_|apply Srch.vN_|apply Srch.vD_ | refine Srch.vS_ ?_ GE263.out | refine Srch.vS_ ?_ GE266.out) | exact HB.out))) : w.heap.size ≤ gb277)); have n6_ := a_ ((by rw [hg]; exact (Srch.bz_ S_ (J_ xn_1) w0 w (by repeat (first | (with_reducible first|exact HB.out|apply Srch.vA_|apply Srch.vN_|apply Srch.vD_ | refine Srch.vS_ ?_ GE263.out | refine Srch.vS_ ?_ GE266.out) | exact HB.out))) : w.heap.size ≤ gb277)); have n7_ := a_ ((by rw [hg]; exact Nat.ne_of_lt (blk_lt (g := gb263) (o := .cells #[.int .i64 a2_0, .slice A2_1 l2_1.length c2_1] 88 (0, 0)) (q_ BK263.out)) : gb263 ≠ gb277)); have n8_ := a_ ((by rw [hg]; exact Nat.ne_of_gt (blk_lt (g := gb263) (o := .cells #[.int .i64 a2_0, .slice A2_1 l2_1.length c2_1] 88 (0, 0)) (q_ BK263.out)) : gb277 ≠ gb263)); have n9_ := a_ ((by rw [hg]; exact Nat.ne_of_lt (blk_lt (g := gb266) (o := .cells #[.int .i64 ((rd_T77 l0 x26_1).f0), .int .i64 ((rd_T77 l0 x26_1).f1), .int .i64 ((rd_T77 l0 x26_1).f2), .bool ((rd_T77 l0 x26_1).f3), .float .f64 ((rd_T77 l0 x26_1).f4)] 77 (0, 0)) (q_ BK266.out)) : gb266 ≠ gb277)); have n10_ := a_ ((by rw [hg]; exact Nat.ne_of_gt (blk_lt (g := gb266) (o := .cells #[.int .i64 ((rd_T77 l0 x26_1).f0), .int .i64 ((rd_T77 l0 x26_1).f1), .int .i64 ((rd_T77 l0 x26_1).f2), .bool ((rd_T77 l0 x26_1).f3), .float .f64 ((rd_T77 l0 x26_1).f4)] 77 (0, 0)) (q_ BK266.out)) : gb277 ≠ gb266)); clear HO276; clear BK263; clear BK266; clear HB; have HO276 := n0_; have BK263 := n1_; have BK266 := n2_; have HB := n3_; have BK277 := n4_; have GW277 := n5_; have GE277 := n6_; have NB263_277 := n7_; have NB277_263 := n8_; have NB266_277 := n9_; have NB277_266 := n10_; clear n0_ n1_ n2_ n3_ n4_ n5_ n6_ n7_ n8_ n9_ n10_; clear hb hbox hg; have hnb70 := NB277_263.out; have hnc70 := NB263_277.out; have hnb71 := NB277_266.out; have hnc71 := NB266_277.out; obtain ⟨hcz72_0, hcz72_1, hfz72_0, hfz72_1⟩ := cz2_ BK277.out; obtain ⟨Ao73, co73, eo73⟩ := Kd.V_slice HO276.out; subst eo73))
           have n0_ : Aside0 (Kd.V Kd.float 55 ((w69.setCell ⟨gb277, 0, none⟩ (.int .i64 t273)).setCell ⟨gb277, 1, none⟩ (.slice Ao73 t274.length co73)) w.heap.size (fun k_ => (k_ ≠ gb263 ∧ ¬ S_ k_) ∧ k_ ≠ gb266 ∧ k_ ≠ gb277) (.slice Ao73 t274.length co73) t274) := ⟨by (with_reducible repeat (first | apply Kd.V_alloc | apply Kd.V_drewN | apply Kd.V_drew)); exact Kd.V_mono (Kd.V_far (p := ⟨gb277, 1, none⟩) (Kd.V_far (p := ⟨gb277, 0, none⟩) (Kd.V_mono HO276.out (fun k_ hk => (⟨hk, hk.2⟩ : _ ∧ k_ ≠ gb277))) (fun _ hk => hk.2) (.int .i64 t273)) (fun _ hk => hk.2) (.slice Ao73 t274.length co73)) (fun _ hk => ⟨hk.1.1.1, ⟨hk.1.1.2, hk.1.2⟩⟩)⟩
           have n1_ : Aside0 (((w69.setCell ⟨gb277, 0, none⟩ (.int .i64 t273)).setCell ⟨gb277, 1, none⟩ (.slice Ao73 t274.length co73)).heap[gb263]? = some (.cells #[.int .i64 a2_0, .slice A2_1 l2_1.length c2_1] 88 (0, 0))) := ⟨by refine q_ ?_; refine blk_far ?_ NB263_277.out _; refine q_ ?_; refine blk_far ?_ NB263_277.out _; exact q_ BK263.out⟩
           have n2_ : Aside0 (((w69.setCell ⟨gb277, 0, none⟩ (.int .i64 t273)).setCell ⟨gb277, 1, none⟩ (.slice Ao73 t274.length co73)).heap[gb266]? = some (.cells #[.int .i64 ((rd_T77 l0 x26_1).f0), .int .i64 ((rd_T77 l0 x26_1).f1), .int .i64 ((rd_T77 l0 x26_1).f2), .bool ((rd_T77 l0 x26_1).f3), .float .f64 ((rd_T77 l0 x26_1).f4)] 77 (0, 0))) := ⟨by refine q_ ?_; refine blk_far ?_ NB266_277.out _; refine q_ ?_; refine blk_far ?_ NB266_277.out _; exact q_ BK266.out⟩
           have n3_ : Aside0 (((w69.setCell ⟨gb277, 0, none⟩ (.int .i64 t273)).setCell ⟨gb277, 1, none⟩ (.slice Ao73 t274.length co73)).heap[gb277]? = some (.cells #[.int .i64 t273, .slice Ao73 t274.length co73] 88 (0, 0))) := ⟨by refine q_ ?_; refine blk_put (cs := #[.int .i64 t273, .slice none 0 0]) ?_ 1 _ rfl; refine q_ ?_; refine blk_put (cs := #[.int .i64 0, .slice none 0 0]) ?_ 0 _ rfl; exact q_ BK277.out⟩
           have n4_ : Aside0 (Srch.Bel S_ (J_ xn_1) w0 w ((w69.setCell ⟨gb277, 0, none⟩ (.int .i64 t273)).setCell ⟨gb277, 1, none⟩ (.slice Ao73 t274.length co73))) := ⟨by repeat (first | (with_reducible first|exact HB.out|apply Srch.vA_|apply Srch.vN_|apply Srch.vD_ | refine Srch.vS_ ?_ GE263.out | refine Srch.vS_ ?_ GE266.out | refine Srch.vS_ ?_ GE277.out) | exact HB.out)⟩
           (try clear HO276); (try clear BK263); (try clear BK266); (try clear BK277); (try clear HB)
           generalize ((w69.setCell ⟨gb277, 0, none⟩ (.int .i64 t273)).setCell ⟨gb277, 1, none⟩ (.slice Ao73 t274.length co73)) = w74 at n0_ n1_ n2_ n3_ n4_ ⊢
           have HO276 := n0_; have BK263 := n1_; have BK266 := n2_; have BK277 := n3_; have HB := n4_; clear n0_ n1_ n2_ n3_ n4_
           have n0_ := a_ (Kd.V_drew HO276.out)
           have n1_ := a_ (blk_drew BK263.out)
           have n2_ := a_ (blk_drew BK266.out)
           have n3_ := a_ (blk_drew BK277.out)
           have n4_ := a_ (Srch.below_drew1 HB.out)
           clear HO276; clear BK263; clear BK266; clear BK277; clear HB; have HO276 := n0_; have BK263 := n1_; have BK266 := n2_; have BK277 := n3_; have HB := n4_; clear n0_ n1_ n2_ n3_ n4_
           refine start_ (n := 20) (S := fun w' => w'.cell? ⟨gb266, 0, none⟩ = some (.int .i64 ((rd_T77 l0 x26_1).f0)) ∧ w'.cell? ⟨gb266, 1, none⟩ = some (.int .i64 ((rd_T77 l0 x26_1).f1)) ∧ w'.cell? ⟨gb266, 2, none⟩ = some (.int .i64 ((rd_T77 l0 x26_1).f2)) ∧ w'.cell? ⟨gb266, 3, none⟩ = some (.bool ((rd_T77 l0 x26_1).f3)) ∧ w'.cell? ⟨gb266, 4, none⟩ = some (.float .f64 ((rd_T77 l0 x26_1).f4)) ∧ w'.cell? ⟨gb277, 0, none⟩ = some (.int .i64 t273) ∧ w'.cell? ⟨gb277, 1, none⟩ = some (.slice Ao73 t274.length co73)) (ds := []) #[false, false, false, false, false, false, false, false, false, false, false, false, false, false, false, false, false, false, false, false] (by kernel_rfl) rfl rfl ⟨(blk_cell BK266.out 0).trans rfl, (blk_cell BK266.out 1).trans rfl, (blk_cell BK266.out 2).trans rfl, (blk_cell BK266.out 3).trans rfl, (blk_cell BK266.out 4).trans rfl, (blk_cell BK277.out 0).trans rfl, (blk_cell BK277.out 1).trans rfl⟩ (fun hHeld => ?_); refine with_tabW impl_search.tab14 impl_search.bits14 (fun HT_ HW_ => ?_)
           generalize w74.drew = w75 at HO276 BK263 BK266 BK277 HB hHeld ⊢
           refine pure_ (i := 0) (N := some 60) (v := ?_) (a' := ?_) #[true, false, false, false, false, false, false, false, false, false, false, false, false, false, false, false, false, false, false, false] rfl rfl (any_of HT_.out (by kernel_rfl)) (fun _ _ _ h => h) (Or.inl ⟨by rfl, ?_⟩) ?_ ?_
           rotate_left
           ·intro w'
            go_simp
            with_reducible rfl
           rotate_left
           ·simp only [Act.put, List.setIfInBounds_toArray, List.set_cons_zero, List.set_cons_succ, i64_w, i32_w]
            rfl
           refine pure_ (i := 1) (N := some 61) (v := ?_) (a' := ?_) #[true, true, false, false, false, false, false, false, false, false, false, false, false, false, false, false, false, false, false, false] rfl rfl (any_of HT_.out (by kernel_rfl)) (fun _ _ _ h => h) (Or.inl ⟨by rfl, ?_⟩) ?_ ?_
           rotate_left
           ·intro w'
            go_simp
            with_reducible rfl
           rotate_left
           ·simp only [Act.put, List.setIfInBounds_toArray, List.set_cons_zero, List.set_cons_succ, i64_w, i32_w]
            rfl
           refine pure_ (i := 2) (N := some 62) (v := ?_) (a' := ?_) #[true, true, true, false, false, false, false, false, false, false, false, false, false, false, false, false, false, false, false, false] rfl rfl (any_of HT_.out (by kernel_rfl)) (fun _ _ _ h => h) (Or.inl ⟨by rfl, ?_⟩) ?_ ?_
           rotate_left
           ·intro w'
            go_simp
            with_reducible rfl
           rotate_left
           ·simp only [Act.put, List.setIfInBounds_toArray, List.set_cons_zero, List.set_cons_succ, i64_w, i32_w]
            rfl
           refine pure_ (i := 3) (N := some 63) (v := ?_) (a' := ?_) #[true, true, true, true, false, false, false, false, false, false, false, false, false, false, false, false, false, false, false, false] rfl rfl (any_of HT_.out (by kernel_rfl)) (fun _ _ _ h => h) (Or.inl ⟨by rfl, ?_⟩) ?_ ?_
           rotate_left
           ·intro w'
            go_simp
            with_reducible rfl
           rotate_left
           ·simp only [Act.put, List.setIfInBounds_toArray, List.set_cons_zero, List.set_cons_succ, i64_w, i32_w]
            rfl
           refine pure_ (i := 4) (N := some 64) (v := ?_) (a' := ?_) #[true, true, true, true, true, false, false, false, false, false, false, false, false, false, false, false, false, false, false, false] rfl rfl (any_of HT_.out (by kernel_rfl)) (fun _ _ _ h => h) (Or.inl ⟨by rfl, ?_⟩) ?_ ?_
           rotate_left
           ·intro w'
            go_simp
            with_reducible rfl
           rotate_left
           ·simp only [Act.put, List.setIfInBounds_toArray, List.set_cons_zero, List.set_cons_succ, i64_w, i32_w]
            rfl
           refine take_ (i := 5) (N := some 65) (v := ?_) (a' := ?_) #[true, true, true, true, true, true, false, false, false, false, false, false, false, false, false, false, false, false, false, false] rfl rfl (take_ofW HT_.out HW_.out (by kernel_rfl)) (fun _ _ _ h => h) (Or.inl ⟨by rfl, ?_⟩) hHeld ?_ ?_
           rotate_left
           ·rintro w' ⟨s0, s1, s2, s3, s4, s5, s6⟩
            go_simp
            with_reducible rfl
           rotate_left
           ·simp only [Act.put, List.setIfInBounds_toArray, List.set_cons_zero, List.set_cons_succ, i64_w, i32_w]
            rfl
           refine one_ (i := 6) (N := some 66) #[true, true, true, true, true, true, true, false, false, false, false, false, false, false, false, false, false, false, false, false] rfl rfl (one_of HT_.out (by kernel_rfl)) (by decide) (fun K hK => ?_)
           first | refine goes_ Try.func42 (by kernel_rfl) rfl #[.float .f64 t272, .float .f64 ((rd_T77 l0 x26_1).f4)] (by rfl) rfl rfl la_ ?_ | refine goesV_ Try.func42 (by kernel_rfl) rfl #[.float .f64 t272, .float .f64 ((rd_T77 l0 x26_1).f4)] (by rfl) rfl rfl (by rfl) (by first | rfl | (simp only [List.map_toArray, List.map_cons, List.map_nil]; rfl)) ?_
           with_reducible refine (impl_SameNum.calls t272 ((rd_T77 l0 x26_1).f4) true _ A59.out).mono ?_
           rintro e w' ⟨rfl, ⟨nd, rfl⟩⟩
           refine ⟨_, rfl, ?_⟩
           refine hK.out _ _ ⟨(blk_cell BK266.out 0).trans rfl, (blk_cell BK266.out 1).trans rfl, (blk_cell BK266.out 2).trans rfl, (blk_cell BK266.out 3).trans rfl, (blk_cell BK266.out 4).trans rfl, (blk_cell BK277.out 0).trans rfl, (blk_cell BK277.out 1).trans rfl⟩ (fun hHeld => ?_)
           clear hK K
           refine norm_ (a' := ?_) ?_ ?_
           rotate_left
           ·show Act.put _ (some 66) _ = _
            simp only [Act.put, List.setIfInBounds_toArray, List.set_cons_zero, List.set_cons_succ, i64_w, i32_w]
            rfl
           refine pure_ (i := 7) (N := some 67) (v := ?_) (a' := ?_) #[true, true, true, true, true, true, true, true, false, false, false, false, false, false, false, false, false, false, false, false] rfl rfl (any_of HT_.out (by kernel_rfl)) (fun _ _ _ h => h) (Or.inl ⟨by rfl, ?_⟩) ?_ ?_
           rotate_left
           ·intro w'
            go_simp
            with_reducible rfl
           rotate_left
           ·simp only [Act.put, List.setIfInBounds_toArray, List.set_cons_zero, List.set_cons_succ, i64_w, i32_w]
            rfl
           refine pure_ (i := 8) (N := some 68) (v := ?_) (a' := ?_) #[true, true, true, true, true, true, true, true, true, false, false, false, false, false, false, false, false, false, false, false] rfl rfl (any_of HT_.out (by kernel_rfl)) (fun _ _ _ h => h) (Or.inl ⟨by rfl, ?_⟩) ?_ ?_
           rotate_left
           ·intro w'
            go_simp
            with_reducible rfl
           rotate_left
           ·simp only [Act.put, List.setIfInBounds_toArray, List.set_cons_zero, List.set_cons_succ, i64_w, i32_w]
            rfl
           refine pure_ (i := 9) (N := some 69) (v := ?_) (a' := ?_) #[true, true, true, true, true, true, true, true, true, true, false, false, false, false, false, false, false, false, false, false] rfl rfl (any_of HT_.out (by kernel_rfl)) (fun _ _ _ h => h) (Or.inl ⟨by rfl, ?_⟩) ?_ ?_
           rotate_left
           ·intro w'
            go_simp
            with_reducible rfl
           rotate_left
           ·simp only [Act.put, List.setIfInBounds_toArray, List.set_cons_zero, List.set_cons_succ, i64_w, i32_w]
            rfl
           refine pure_ (i := 10) (N := some 70) (v := ?_) (a' := ?_) #[true, true, true, true, true, true, true, true, true, true, true, false, false, false, false, false, false, false, false, false] rfl rfl (any_of HT_.out (by kernel_rfl)) (fun _ _ _ h => h) (Or.inl ⟨by rfl, ?_⟩) ?_ ?_
           rotate_left
           ·intro w'
            go_simp
            with_reducible rfl
           rotate_left
           ·simp only [Act.put, List.setIfInBounds_toArray, List.set_cons_zero, List.set_cons_succ, i64_w, i32_w]
            rfl
           refine pure_ (i := 12) (N := some 72) (v := ?_) (a' := ?_) #[true, true, true, true, true, true, true, true, true, true, true, false, true, false, false, false, false, false, false, false] rfl rfl (any_of HT_.out (by kernel_rfl)) (fun _ _ _ h => h) (Or.inl ⟨by rfl, ?_⟩) ?_ ?_
           rotate_left
           ·intro w'
            go_simp
            with_reducible rfl
           rotate_left
           ·simp only [Act.put, List.setIfInBounds_toArray, List.set_cons_zero, List.set_cons_succ, i64_w, i32_w]
            rfl
           refine pure_ (i := 16) (N := some 76) (v := ?_) (a' := ?_) #[true, true, true, true, true, true, true, true, true, true, true, false, true, false, false, false, true, false, false, false] rfl rfl (any_of HT_.out (by kernel_rfl)) (fun _ _ _ h => h) (Or.inl ⟨by rfl, ?_⟩) ?_ ?_
           rotate_left
           ·intro w'
            go_simp
            with_reducible rfl
           rotate_left
           ·simp only [Act.put, List.setIfInBounds_toArray, List.set_cons_zero, List.set_cons_succ, i64_w, i32_w]
            rfl
           refine take_ (i := 15) (N := some 75) (v := ?_) (a' := ?_) #[true, true, true, true, true, true, true, true, true, true, true, false, true, false, false, true, true, false, false, false] rfl rfl (take_ofW HT_.out HW_.out (by kernel_rfl)) (fun _ _ _ h => h) (Or.inl ⟨by rfl, ?_⟩) hHeld ?_ ?_
           rotate_left
           ·rintro w' ⟨s0, s1, s2, s3, s4, s5, s6⟩
            go_simp
            with_reducible rfl
           rotate_left
           ·simp only [Act.put, List.setIfInBounds_toArray, List.set_cons_zero, List.set_cons_succ, i64_w, i32_w]
            rfl
           refine join_ (σ := Value × Value) 4 #[true, true, true, true, true, true, true, true, true, true, true, true, true, true, false, true, true, false, false, false] (fun s_ => [(71, s_.1), (73, s_.2)]) (fun s_ w' => (w'.cell? ⟨gb266, 0, none⟩ = some (.int .i64 ((rd_T77 l0 x26_1).f0)) ∧ w'.cell? ⟨gb266, 1, none⟩ = some (.int .i64 ((rd_T77 l0 x26_1).f1)) ∧ w'.cell? ⟨gb266, 2, none⟩ = some (.int .i64 ((rd_T77 l0 x26_1).f2)) ∧ w'.cell? ⟨gb266, 3, none⟩ = some (.bool ((rd_T77 l0 x26_1).f3)) ∧ w'.cell? ⟨gb266, 4, none⟩ = some (.float .f64 ((rd_T77 l0 x26_1).f4)) ∧ w'.cell? ⟨gb277, 0, none⟩ = some (.int .i64 t273) ∧ w'.cell? ⟨gb277, 1, none⟩ = some (.slice Ao73 t274.length co73)) ∧ (Kd.V Kd.float 55 w' w.heap.size (fun k_ => some k_ ≠ (s_.1 : Value).ownBlock ∧ some k_ ≠ (s_.2 : Value).ownBlock ∧ (k_ ≠ gb263 ∧ ¬ S_ k_) ∧ k_ ≠ gb266 ∧ k_ ≠ gb277) (.slice Ao73 t274.length co73) t274) ∧ (Kd.R (Kd.int .i64) 3 w' w.heap.size (fun k_ => some k_ ≠ (s_.2 : Value).ownBlock) s_.1 t279) ∧ (Kd.R (Kd.int .i64) 3 w' w.heap.size (fun k_ => some k_ ≠ (s_.1 : Value).ownBlock) s_.2 y282) ∧ (w'.heap[gb263]? = some (.cells #[.int .i64 a2_0, .slice A2_1 l2_1.length c2_1] 88 (0, 0))) ∧ (w'.heap[gb266]? = some (.cells #[.int .i64 ((rd_T77 l0 x26_1).f0), .int .i64 ((rd_T77 l0 x26_1).f1), .int .i64 ((rd_T77 l0 x26_1).f2), .bool ((rd_T77 l0 x26_1).f3), .float .f64 ((rd_T77 l0 x26_1).f4)] 77 (0, 0))) ∧ (w'.heap[gb277]? = some (.cells #[.int .i64 t273, .slice Ao73 t274.length co73] 88 (0, 0))) ∧ (Srch.Bel S_ (J_ xn_1) w0 w w')) ?_ ?_
           rotate_left
           ·intro hCont
            refine two_ (i := 11) (j := 13) (Ni := some 71) (Nj := some 73) #[true, true, true, true, true, true, true, true, true, true, true, true, true, false, false, true, true, false, false, false] #[true, true, true, true, true, true, true, true, true, true, true, false, true, true, false, true, true, false, false, false] rfl rfl rfl rfl (two_of HT_.out (by kernel_rfl)) (by decide) (by decide) (fun K hK => ?_) (fun K hK => ?_)
            ·skip
             first | refine goes_ Try.func105 (by kernel_rfl) rfl #[.slice A1 l1.length c1] (by rfl) rfl rfl la_ ?_ | refine goesV_ Try.func105 (by kernel_rfl) rfl #[.slice A1 l1.length c1] (by rfl) rfl rfl (by rfl) (by first | rfl | (simp only [List.map_toArray, List.map_cons, List.map_nil]; rfl)) ?_
             with_reducible refine (slices_Clone_int_int.calls _ _ l1 t279 _ ?side1 ?side2 A61.out).mono ?_
             (case side1 => repeat (first | exact (Srch.C_kb (J := J_ xn_1) (w0 := w0) (S_ := S_) HR1.out (by repeat (first | (with_reducible first|exact HB.out|apply Srch.vA_|apply Srch.vN_|apply Srch.vD_ | refine Srch.vS_ ?_ GE263.out | refine Srch.vS_ ?_ GE266.out | refine Srch.vS_ ?_ GE277.out) | exact HB.out))) | with_reducible apply cA_|with_reducible apply cN_|with_reducible apply cD_))
             (case side2 => exact HC1.out)
             rintro e w76 ⟨v280, rfl, ho0, hb⟩
             refine ⟨_, rfl, ?_⟩
             have n0_ := a_ (Kd.V_elder' (by (with_reducible repeat (first | apply Kd.V_alloc | apply Kd.V_drewN | apply Kd.V_drew)); exact HO276.out) (by first | exact Kd.R_base ho0 | exact Kd.S_base ho0 | exact Kd.R_base ho0) hb)
             have n1_ := a_ (Kd.R_lower ho0 (Srch.bz_ S_ (J_ xn_1) w0 w (by repeat (first | (with_reducible first|exact HB.out|apply Srch.vA_|apply Srch.vN_|apply Srch.vD_ | refine Srch.vS_ ?_ GE263.out | refine Srch.vS_ ?_ GE266.out | refine Srch.vS_ ?_ GE277.out) | exact HB.out))))
             have n2_ := a_ (blk_below (q_ BK263.out) hb)
             have n3_ := a_ (blk_below (q_ BK266.out) hb)
             have n4_ := a_ (blk_below (q_ BK277.out) hb)
             have n5_ := a_ (Srch.bs_ S_ (J_ xn_1) w0 w (by repeat (first | (with_reducible first|exact HB.out|apply Srch.vA_|apply Srch.vN_|apply Srch.vD_ | refine Srch.vS_ ?_ GE263.out | refine Srch.vS_ ?_ GE266.out | refine Srch.vS_ ?_ GE277.out) | exact HB.out)) hb)
             clear HO276; clear BK263; clear BK266; clear BK277; clear HB; have HO276 := n0_; have HO281 := n1_; have BK263 := n2_; have BK266 := n3_; have BK277 := n4_; have HB := n5_; clear n0_ n1_ n2_ n3_ n4_ n5_; (try clear hb); (try clear hb2); (try clear hk); (try clear hi); (try clear ho0)
             refine hK.out _ _ ⟨(blk_cell BK266.out 0).trans rfl, (blk_cell BK266.out 1).trans rfl, (blk_cell BK266.out 2).trans rfl, (blk_cell BK266.out 3).trans rfl, (blk_cell BK266.out 4).trans rfl, (blk_cell BK277.out 0).trans rfl, (blk_cell BK277.out 1).trans rfl⟩ (fun hHeld => ?_)
             clear hK K
             refine norm_ (a' := ?_) ?_ ?_
             rotate_left
             ·show Act.put _ (some 71) _ = _
              simp only [Act.put, List.setIfInBounds_toArray, List.set_cons_zero, List.set_cons_succ, i64_w, i32_w]
              rfl
             refine one_ (i := 13) (N := some 73) #[true, true, true, true, true, true, true, true, true, true, true, true, true, true, false, true, true, false, false, false] rfl rfl (one_of HT_.out (by kernel_rfl)) (by decide) (fun K hK => ?_)
             refine Kd.R_lit_step (Kd.int .i64) _ 3 ?hg (N := 73) ?hd (xs := ([x26_1] : List Int)) (inner := [.int .i64 x26_1]) (ok := fun _ => True) (okp := fun _ => True) ?hr ?hp (fun _ hk => hk) trivial (Below.refl _ _) (Nat.le_refl _) (by simp) ?_; (case hd => rfl); (case hg => rfl); (case hr => first | (go_simp; done) | (go_simp; rfl)); (case hp => exact (Reps.one (show Kd.M (Kd.int .i64) _ _ _ x26_1 [.int .i64 x26_1] from rfl) (Reps.none _ _)))
             intro v283 w77 ho78 hb hg_ hnew_
             clear hg_ hnew_
             (first | rw [← Ny282.out] at ho78 | (simp only [Int.reduceToNat] at ho78; rw [← Ny282.out] at ho78))
             have n0_ := a_ (Kd.V_elder' (by (with_reducible repeat (first | apply Kd.V_alloc | apply Kd.V_drewN | apply Kd.V_drew)); exact HO276.out) (by first | exact Kd.R_base ho78 | exact Kd.S_base ho78 | exact Kd.R_base ho78) hb)
             have n1_ := a_ (Kd.R_elder' (r_ HO281.out) (by first | exact Kd.R_base ho78 | exact Kd.S_base ho78 | exact Kd.R_base ho78) hb)
             have n2_ := a_ (Kd.R_lower (Kd.R_new' ho78 (Kd.R_lt (r_ HO281.out))) (Srch.bz_ S_ (J_ xn_1) w0 w (by repeat (first | (with_reducible first|exact HB.out|apply Srch.vA_|apply Srch.vN_|apply Srch.vD_ | refine Srch.vS_ ?_ GE263.out | refine Srch.vS_ ?_ GE266.out | refine Srch.vS_ ?_ GE277.out) | exact HB.out))))
             have n3_ := a_ (blk_below (q_ BK263.out) hb)
             have n4_ := a_ (blk_below (q_ BK266.out) hb)
             have n5_ := a_ (blk_below (q_ BK277.out) hb)
             have n6_ := a_ (Srch.bs_ S_ (J_ xn_1) w0 w (by repeat (first | (with_reducible first|exact HB.out|apply Srch.vA_|apply Srch.vN_|apply Srch.vD_ | refine Srch.vS_ ?_ GE263.out | refine Srch.vS_ ?_ GE266.out | refine Srch.vS_ ?_ GE277.out) | exact HB.out)) hb)
             clear HO276; clear HO281; clear BK263; clear BK266; clear BK277; clear HB; have HO276 := n0_; have HO281 := n1_; have HO284 := n2_; have BK263 := n3_; have BK266 := n4_; have BK277 := n5_; have HB := n6_; clear n0_ n1_ n2_ n3_ n4_ n5_ n6_; clear hb ho78
             refine hK.out _ _ ⟨(blk_cell BK266.out 0).trans rfl, (blk_cell BK266.out 1).trans rfl, (blk_cell BK266.out 2).trans rfl, (blk_cell BK266.out 3).trans rfl, (blk_cell BK266.out 4).trans rfl, (blk_cell BK277.out 0).trans rfl, (blk_cell BK277.out 1).trans rfl⟩ (fun hHeld => ?_)
             clear hK K
             refine norm_ (a' := ?_) ?_ ?_
             rotate_left
             ·show Act.put _ (some 73) _ = _
              simp only [Act.put, List.setIfInBounds_toArray, List.set_cons_zero, List.set_cons_succ, i64_w, i32_w]
              rfl
             exact norm_ (by simp only [putAll, Act.put, List.setIfInBounds_toArray, List.set_cons_zero, List.set_cons_succ]) (hCont (v280, v283) _ ⟨hHeld, (by (with_reducible repeat (first | apply Kd.V_alloc | apply Kd.V_drewN | apply Kd.V_drew)); exact Kd.V_mono HO276.out (fun _ hk => ⟨hk.1.2, ⟨hk.2, ⟨hk.1.1.1, ⟨hk.1.1.2.1, hk.1.1.2.2⟩⟩⟩⟩)), (by refine r_ ?_; exact Kd.R_mono HO281.out (fun _ hk => hk.2)), (by refine r_ ?_; exact Kd.R_mono HO284.out (fun _ hk => hk.2)), (q_ BK263.out), (q_ BK266.out), (q_ BK277.out), (by repeat (first | (with_reducible first|exact HB.out|apply Srch.vA_|apply Srch.vN_|apply Srch.vD_ | refine Srch.vS_ ?_ GE263.out | refine Srch.vS_ ?_ GE266.out | refine Srch.vS_ ?_ GE277.out) | exact HB.out))⟩)
            ·skip
             refine Kd.R_lit_step (Kd.int .i64) _ 3 ?hg (N := 73) ?hd (xs := ([x26_1] : List Int)) (inner := [.int .i64 x26_1]) (ok := fun _ => True) (okp := fun _ => True) ?hr ?hp (fun _ hk => hk) trivial (Below.refl _ _) (Nat.le_refl _) (by simp) ?_; (case hd => rfl); (case hg => rfl); (case hr => first | (go_simp; done) | (go_simp; rfl)); (case hp => exact (Reps.one (show Kd.M (Kd.int .i64) _ _ _ x26_1 [.int .i64 x26_1] from rfl) (Reps.none _ _)))
             intro v283 w76 ho77 hb hg_ hnew_
             clear hg_ hnew_
             (first | rw [← Ny282.out] at ho77 | (simp only [Int.reduceToNat] at ho77; rw [← Ny282.out] at ho77))
             have n0_ := a_ (Kd.V_elder' (by (with_reducible repeat (first | apply Kd.V_alloc | apply Kd.V_drewN | apply Kd.V_drew)); exact HO276.out) (by first | exact Kd.R_base ho77 | exact Kd.S_base ho77 | exact Kd.R_base ho77) hb)
             have n1_ := a_ (Kd.R_lower ho77 (Srch.bz_ S_ (J_ xn_1) w0 w (by repeat (first | (with_reducible first|exact HB.out|apply Srch.vA_|apply Srch.vN_|apply Srch.vD_ | refine Srch.vS_ ?_ GE263.out | refine Srch.vS_ ?_ GE266.out | refine Srch.vS_ ?_ GE277.out) | exact HB.out))))
             have n2_ := a_ (blk_below (q_ BK263.out) hb)
             have n3_ := a_ (blk_below (q_ BK266.out) hb)
             have n4_ := a_ (blk_below (q_ BK277.out) hb)
             have n5_ := a_ (Srch.bs_ S_ (J_ xn_1) w0 w (by repeat (first | (with_reducible first|exact HB.out|apply Srch.vA_|apply Srch.vN_|apply Srch.vD_ | refine Srch.vS_ ?_ GE263.out | refine Srch.vS_ ?_ GE266.out | refine Srch.vS_ ?_ GE277.out) | exact HB.out)) hb)
             clear HO276; clear BK263; clear BK266; clear BK277; clear HB; have HO276 := n0_; have HO284 := n1_; have BK263 := n2_; have BK266 := n3_; have BK277 := n4_; have HB := n5_; clear n0_ n1_ n2_ n3_ n4_ n5_; clear hb ho77
             refine hK.out _ _ ⟨(blk_cell BK266.out 0).trans rfl, (blk_cell BK266.out 1).trans rfl, (blk_cell BK266.out 2).trans rfl, (blk_cell BK266.out 3).trans rfl, (blk_cell BK266.out 4).trans rfl, (blk_cell BK277.out 0).trans rfl, (blk_cell BK277.out 1).trans rfl⟩ (fun hHeld => ?_)
             clear hK K
             refine norm_ (a' := ?_) ?_ ?_
             rotate_left
             ·show Act.put _ (some 73) _ = _
              simp only [Act.put, List.setIfInBounds_toArray, List.set_cons_zero, List.set_cons_succ, i64_w, i32_w]
              rfl
             refine one_ (i := 11) (N := some 71) #[true, true, true, true, true, true, true, true, true, true, true, true, true, true, false, true, true, false, false, false] rfl rfl (one_of HT_.out (by kernel_rfl)) (by decide) (fun K hK => ?_)
             first | refine goes_ Try.func105 (by kernel_rfl) rfl #[.slice A1 l1.length c1] (by rfl) rfl rfl la_ ?_ | refine goesV_ Try.func105 (by kernel_rfl) rfl #[.slice A1 l1.length c1] (by rfl) rfl rfl (by rfl) (by first | rfl | (simp only [List.map_toArray, List.map_cons, List.map_nil]; rfl)) ?_
             with_reducible refine (slices_Clone_int_int.calls _ _ l1 t279 _ ?side1 ?side2 A61.out).mono ?_
             (case side1 => exact c_ (Srch.C_kb (J := J_ xn_1) (w0 := w0) (S_ := S_) HR1.out HB.out))
             (case side2 => exact HC1.out)
             rintro e w78 ⟨v280, rfl, ho0, hb⟩
             refine ⟨_, rfl, ?_⟩
             have n0_ := a_ (Kd.V_elder' (by (with_reducible repeat (first | apply Kd.V_alloc | apply Kd.V_drewN | apply Kd.V_drew)); exact HO276.out) (by first | exact Kd.R_base ho0 | exact Kd.S_base ho0 | exact Kd.R_base ho0) hb)
             have n1_ := a_ (Kd.R_elder' (r_ HO284.out) (by first | exact Kd.R_base ho0 | exact Kd.S_base ho0 | exact Kd.R_base ho0) hb)
             have n2_ := a_ (Kd.R_lower (Kd.R_new' ho0 (Kd.R_lt (r_ HO284.out))) (Srch.bz_ S_ (J_ xn_1) w0 w (by repeat (first | (with_reducible first|exact HB.out|apply Srch.vA_|apply Srch.vN_|apply Srch.vD_ | refine Srch.vS_ ?_ GE263.out | refine Srch.vS_ ?_ GE266.out | refine Srch.vS_ ?_ GE277.out) | exact HB.out))))
             have n3_ := a_ (blk_below (q_ BK263.out) hb)
             have n4_ := a_ (blk_below (q_ BK266.out) hb)
             have n5_ := a_ (blk_below (q_ BK277.out) hb)
             have n6_ := a_ (Srch.bs_ S_ (J_ xn_1) w0 w (by repeat (first | (with_reducible first|exact HB.out|apply Srch.vA_|apply Srch.vN_|apply Srch.vD_ | refine Srch.vS_ ?_ GE263.out | refine Srch.vS_ ?_ GE266.out | refine Srch.vS_ ?_ GE277.out) | exact HB.out)) hb)
             clear HO276; clear HO284; clear BK263; clear BK266; clear BK277; clear HB; have HO276 := n0_; have HO284 := n1_; have HO281 := n2_; have BK263 := n3_; have BK266 := n4_; have BK277 := n5_; have HB := n6_; clear n0_ n1_ n2_ n3_ n4_ n5_ n6_; (try clear hb); (try clear hb2); (try clear hk); (try clear hi); (try clear ho0)
             refine hK.out _ _ ⟨(blk_cell BK266.out 0).trans rfl, (blk_cell BK266.out 1).trans rfl, (blk_cell BK266.out 2).trans rfl, (blk_cell BK266.out 3).trans rfl, (blk_cell BK266.out 4).trans rfl, (blk_cell BK277.out 0).trans rfl, (blk_cell BK277.out 1).trans rfl⟩ (fun hHeld => ?_)
             clear hK K
             refine norm_ (a' := ?_) ?_ ?_
             rotate_left
             ·show Act.put _ (some 71) _ = _
              simp only [Act.put, List.setIfInBounds_toArray, List.set_cons_zero, List.set_cons_succ, i64_w, i32_w]
              rfl
             exact norm_ (by simp only [putAll, Act.put, List.setIfInBounds_toArray, List.set_cons_zero, List.set_cons_succ]) (hCont (v280, v283) _ ⟨hHeld, (by (with_reducible repeat (first | apply Kd.V_alloc | apply Kd.V_drewN | apply Kd.V_drew)); exact Kd.V_mono HO276.out (fun _ hk => ⟨hk.2, ⟨hk.1.2, ⟨hk.1.1.1, ⟨hk.1.1.2.1, hk.1.1.2.2⟩⟩⟩⟩)), (by refine r_ ?_; exact Kd.R_mono HO281.out (fun _ hk => hk.2)), (by refine r_ ?_; exact Kd.R_mono HO284.out (fun _ hk => hk.2)), (q_ BK263.out), (q_ BK266.out), (q_ BK277.out), (by repeat (first | (with_reducible first|exact HB.out|apply Srch.vA_|apply Srch.vN_|apply Srch.vD_ | refine Srch.vS_ ?_ GE263.out | refine Srch.vS_ ?_ GE266.out | refine Srch.vS_ ?_ GE277.out) | exact HB.out))⟩)
           rintro ⟨v280, v283⟩ w79 ⟨hS_, h0_, h1_, h2_, h3_, h4_, h5_, h6_⟩
           have n0_ : Aside0 (Kd.V Kd.float 55 w79 w.heap.size (fun k_ => some k_ ≠ (v280 : Value).ownBlock ∧ some k_ ≠ (v283 : Value).ownBlock ∧ (k_ ≠ gb263 ∧ ¬ S_ k_) ∧ k_ ≠ gb266 ∧ k_ ≠ gb277) (.slice Ao73 t274.length co73) t274) := ⟨h0_⟩
           have n1_ : Aside0 (Kd.R (Kd.int .i64) 3 w79 w.heap.size (fun k_ => some k_ ≠ (v283 : Value).ownBlock) v280 t279) := ⟨h1_⟩
           have n2_ : Aside0 (Kd.R (Kd.int .i64) 3 w79 w.heap.size (fun k_ => some k_ ≠ (v280 : Value).ownBlock) v283 y282) := ⟨h2_⟩
           have n3_ : Aside0 (w79.heap[gb263]? = some (.cells #[.int .i64 a2_0, .slice A2_1 l2_1.length c2_1] 88 (0, 0))) := ⟨h3_⟩
           have n4_ : Aside0 (w79.heap[gb266]? = some (.cells #[.int .i64 ((rd_T77 l0 x26_1).f0), .int .i64 ((rd_T77 l0 x26_1).f1), .int .i64 ((rd_T77 l0 x26_1).f2), .bool ((rd_T77 l0 x26_1).f3), .float .f64 ((rd_T77 l0 x26_1).f4)] 77 (0, 0))) := ⟨h4_⟩
           have n5_ : Aside0 (w79.heap[gb277]? = some (.cells #[.int .i64 t273, .slice Ao73 t274.length co73] 88 (0, 0))) := ⟨h5_⟩
           have n6_ : Aside0 (Srch.Bel S_ (J_ xn_1) w0 w w79) := ⟨h6_⟩
           clear HO276; clear BK263; clear BK266; clear BK277; clear HB; clear h0_ h1_ h2_ h3_ h4_ h5_ h6_; have HO276 := n0_; have HO281 := n1_; have HO284 := n2_; have BK263 := n3_; have BK266 := n4_; have BK277 := n5_; have HB := n6_; clear n0_ n1_ n2_ n3_ n4_ n5_ n6_
           have hHeld : w79.cell? ⟨gb266, 0, none⟩ = some (.int .i64 ((rd_T77 l0 x26_1).f0)) ∧ w79.cell? ⟨gb266, 1, none⟩ = some (.int .i64 ((rd_T77 l0 x26_1).f1)) ∧ w79.cell? ⟨gb266, 2, none⟩ = some (.int .i64 ((rd_T77 l0 x26_1).f2)) ∧ w79.cell? ⟨gb266, 3, none⟩ = some (.bool ((rd_T77 l0 x26_1).f3)) ∧ w79.cell? ⟨gb266, 4, none⟩ = some (.float .f64 ((rd_T77 l0 x26_1).f4)) ∧ w79.cell? ⟨gb277, 0, none⟩ = some (.int .i64 t273) ∧ w79.cell? ⟨gb277, 1, none⟩ = some (.slice Ao73 t274.length co73) := hS_
           obtain ⟨Ao81, co81, eo81⟩ := Kd.R_slice HO284.out
           (first | subst eo81 | (injection eo81 with f1_ f2_ f3_; have f4_ := f1_.symm; have f5_ := f3_.symm; clear f1_ f2_ f3_; subst f4_; subst f5_))
           refine norm_ (a' := ?_) ?_ ?_
           rotate_left
           ·simp only [putAll, Act.put, List.setIfInBounds_toArray, List.set_cons_zero, List.set_cons_succ]
            rfl
           refine one_ (i := 14) (N := some 74) #[true, true, true, true, true, true, true, true, true, true, true, true, true, true, true, true, true, false, false, false] rfl rfl (one_of HT_.out (by kernel_rfl)) (by decide) (fun K hK => ?_)
           refine Kd.R_append_rows_step (Kd.int .i64) (w0 := w79) w.heap.size (by rfl) (.tmp 71) (.tmp 73) 23 3 (.int .i64 0) 8 rfl Try.underlying23 info3 rfl (by decide) (by omega) v280 t279 y282 _ _ _ (fun k_ => some k_ ≠ (.slice Ao81 y282.length co81 : Value).ownBlock) (fun _ => False) rfl rfl ?aO ?aR (fun _ _ h => h) (fun _ h => h.elim) ?aF ?aB ?aS ?aL ?_
           (case aR => repeat (first | exact (Kd.R_reads' HO284.out).2.2 | with_reducible apply cA_|with_reducible apply cN_|with_reducible apply cD_))
           (case aB => exact Below.refl _ _)
           (case aF => exact (fun k_ hk => Kd.fresh' (Kd.R_lt (r_ HO284.out)) k_ hk))
           (case aO => exact (r_ HO281.out))
           (case aS => exact (Srch.bz_ S_ (J_ xn_1) w0 w (by repeat (first | (with_reducible first|exact HB.out|apply Srch.vA_|apply Srch.vN_|apply Srch.vD_ | refine Srch.vS_ ?_ GE263.out | refine Srch.vS_ ?_ GE266.out | refine Srch.vS_ ?_ GE277.out) | exact HB.out))))
           (case aL => have := LMc62.out; omega)
           intro v286 w80 ho hb hg hat
           rw [← Ny285.out] at ho
           have n0_ := a_ (blk_grown (g := gb263) (o := .cells #[.int .i64 a2_0, .slice A2_1 l2_1.length c2_1] 88 (0, 0)) (q_ BK263.out) hg (Kd.R_ne HO281.out BK263.out (by decide)))
           have n1_ := a_ (blk_grown (g := gb266) (o := .cells #[.int .i64 ((rd_T77 l0 x26_1).f0), .int .i64 ((rd_T77 l0 x26_1).f1), .int .i64 ((rd_T77 l0 x26_1).f2), .bool ((rd_T77 l0 x26_1).f3), .float .f64 ((rd_T77 l0 x26_1).f4)] 77 (0, 0)) (q_ BK266.out) hg (Kd.R_ne HO281.out BK266.out (by decide)))
           have n2_ := a_ (Kd.V_afterv (ok := (fun k_ => some k_ ≠ (.slice Ao81 y282.length co81 : Value).ownBlock ∧ (k_ ≠ gb263 ∧ ¬ S_ k_) ∧ k_ ≠ gb266 ∧ k_ ≠ gb277)) (by (with_reducible repeat (first | apply Kd.V_alloc | apply Kd.V_drewN | apply Kd.V_drew)); exact Kd.V_mono HO276.out (fun _ hk => ⟨⟨hk.2.1, ⟨hk.2.2.1, ⟨hk.2.2.2.1, hk.2.2.2.2⟩⟩⟩, hk.1⟩)) hg hat)
           have n3_ := a_ (blk_grown (g := gb277) (o := .cells #[.int .i64 t273, .slice Ao73 t274.length co73] 88 (0, 0)) (q_ BK277.out) hg (Kd.R_ne HO281.out BK277.out (by decide)))
           have n4_ := a_ (Kd.R_after (ok := (fun _ => True)) (by refine r_ ?_; exact Kd.R_mono HO284.out (fun _ hk => ⟨trivial, hk⟩)) hg hat)
           have n5_ := a_ (Srch.move HB.out hb)
           have n6_ := a_ (ho)
           clear BK263; clear BK266; clear HO276; clear BK277; clear HO284; clear HB; clear HO281; have BK263 := n0_; have BK266 := n1_; have HO276 := n2_; have BK277 := n3_; have HO284 := n4_; have HB := n5_; have HO287 := n6_; clear n0_ n1_ n2_ n3_ n4_ n5_ n6_; clear ho hb hg hat
           obtain ⟨Ao82, co82, eo82⟩ := Kd.R_slice HO287.out
           (first | subst eo82 | (injection eo82 with f1_ f2_ f3_; have f4_ := f1_.symm; have f5_ := f3_.symm; clear f1_ f2_ f3_; subst f4_; subst f5_))
           refine hK.out _ _ ⟨(blk_cell BK266.out 0).trans rfl, (blk_cell BK266.out 1).trans rfl, (blk_cell BK266.out 2).trans rfl, (blk_cell BK266.out 3).trans rfl, (blk_cell BK266.out 4).trans rfl, (blk_cell BK277.out 0).trans rfl, (blk_cell BK277.out 1).trans rfl⟩ (fun hHeld => ?_)
           clear hK K
           refine norm_ (a' := ?_) ?_ ?_
           rotate_left
           ·show Act.put _ (some 74) _ = _
            simp only [Act.put, List.setIfInBounds_toArray, List.set_cons_zero, List.set_cons_succ, i64_w, i32_w]
            rfl
           refine one_ (i := 17) (N := some 77) #[true, true, true, true, true, true, true, true, true, true, true, true, true, true, true, true, true, true, false, false] rfl rfl (one_of HT_.out (by kernel_rfl)) (by decide) (fun K hK => ?_)
           first | refine goes_ Try.func72 (by kernel_rfl) rfl #[.slice (some ad265) l0.length c0, .slice Ao82 y285.length co82, .agg #[.int .i64 t273, .slice Ao73 t274.length co73], cl] (by rfl) rfl rfl la_ ?_ | refine goesV_ Try.func72 (by kernel_rfl) rfl #[.slice (some ad265) l0.length c0, .slice Ao82 y285.length co82, .agg #[.int .i64 t273, .slice Ao73 t274.length co73], cl] (by rfl) rfl rfl (by rfl) (by first | rfl | (simp only [List.map_toArray, List.map_cons, List.map_nil]; rfl)) ?_
           with_reducible refine (ih k2 (by have := HK1.out; have := HK2.out; omega) _ _ y285 t273 _ _ t274 xn_1 t288 _ ?side1 ?side3 ?side5 ?side6 A63.out).mono ?_
           (case side1 => exact Srch.here HB.out)
           (case side3 => exact Kd.R_lower (Kd.R_mono (Kd.R_bound HO287.out) (fun k_ hk_ e_ => absurd (HB.out.c k_ e_).2 (Nat.not_lt.mpr hk_.2.1))) HB.out.c0)
           (case side5 => exact Kd.F_mono (Kd.V_F HO276.out) (fun k_ hk_ e_ => by simp [e_] at hk_))
           (case side6 => exact (Kd.V_reads' HO276.out).2.1)
           rintro e w83 ⟨rfl, hb0⟩
           obtain ⟨n_, q_⟩ := t288
           cases q_ with
           | none =>
            have H := HZ.out; clear HZ
            rw [if_pos (show ((n_, (none : Option (List Int))).2.isNone = true) from rfl)] at H
            have H' : Aside0 ((impl_search.l0 k2 l0 l1 l0 (l0.length : Int) (wrap64 (x26_1 + 1)) a2_0 l2_1 mr n_) = some r) := a_ H
            clear H
            have hb : Srch.Bel S_ (J_ n_) w0 _ w83 := hb0
            clear hb0
            refine ⟨.bool true, rfl, ?_⟩
            have n3_ := a_ (blk_kept BK263.out hb.k (fun e_ => absurd (HB.out.c _ e_).2 (Nat.not_lt.mpr GE263.out)))
            have n4_ := a_ (blk_kept BK266.out hb.k (fun e_ => absurd (HB.out.c _ e_).2 (Nat.not_lt.mpr GE266.out)))
            have n5_ := a_ (blk_kept BK277.out hb.k (fun e_ => absurd (HB.out.c _ e_).2 (Nat.not_lt.mpr GE277.out)))
            have n6_ := a_ (Srch.after HB.out hb)
            clear HO276 HO284 HO287 BK263 BK266 BK277 HB; have BK263 := n3_; have BK266 := n4_; have BK277 := n5_; have HB := n6_; clear n3_ n4_ n5_ n6_ hb
            refine hK.out _ _ ⟨(blk_cell BK266.out 0).trans rfl, (blk_cell BK266.out 1).trans rfl, (blk_cell BK266.out 2).trans rfl, (blk_cell BK266.out 3).trans rfl, (blk_cell BK266.out 4).trans rfl, (blk_cell BK277.out 0).trans rfl, (blk_cell BK277.out 1).trans rfl⟩ (fun hHeld => ?_)
            clear hK K
            refine norm_ (a' := ?_) ?_ ?_
            rotate_left
            ·show Act.put _ (some 77) _ = _
             simp only [Act.put, List.setIfInBounds_toArray, List.set_cons_zero, List.set_cons_succ, i64_w, i32_w]
             rfl
            refine pure_ (i := 18) (N := some 78) (v := ?_) (a' := ?_) #[true, true, true, true, true, true, true, true, true, true, true, true, true, true, true, true, true, true, true, false] rfl rfl (any_of HT_.out (by kernel_rfl)) (fun _ _ _ h => h) (Or.inl ⟨by rfl, ?_⟩) ?_ ?_
            rotate_left
            ·intro w'
             go_simp
             with_reducible rfl
            rotate_left
            ·simp only [Act.put, List.setIfInBounds_toArray, List.set_cons_zero, List.set_cons_succ, i64_w, i32_w]
             rfl
            refine pure_ (i := 19) (N := some 79) (v := ?_) (a' := ?_) #[true, true, true, true, true, true, true, true, true, true, true, true, true, true, true, true, true, true, true, true] rfl rfl (any_of HT_.out (by kernel_rfl)) (fun _ _ _ h => h) (Or.inl ⟨by rfl, ?_⟩) ?_ ?_
            rotate_left
            ·intro w'
             go_simp
             with_reducible rfl
            rotate_left
            ·simp only [Act.put, List.setIfInBounds_toArray, List.set_cons_zero, List.set_cons_succ, i64_w, i32_w]
             rfl
            refine done_ (done_of HT_.out (by kernel_rfl)) ?_
            try go_wp2
            go_roundg k2
            case measure => have := HK1.out; have := HK2.out; omega
            case rel => exact ⟨n_, (wrap64 (x26_1 + 1)), (by first | rfl | (simp; done) | (simp [*]; done)), H', ⟨by have := HK1.out; have := HK2.out; omega⟩, ⟨by exact q_ BK263.out⟩, ⟨by repeat (first | (with_reducible first|exact HB.out|apply Srch.vA_|apply Srch.vN_|apply Srch.vD_ | refine Srch.vS_ ?_ GE263.out | refine Srch.vS_ ?_ GE266.out | refine Srch.vS_ ?_ GE277.out) | exact HB.out)⟩⟩
           | some o_ =>
            have H := HZ.out; clear HZ
            rw [if_neg (show ¬ ((n_, some o_).2.isNone = true) by simp)] at H
            obtain rfl := Option.some.inj H
            clear H
            have hb : Srch.Fnd S_ F_ o_ w0 _ w83 := hb0
            clear hb0
            refine ⟨.bool false, rfl, ?_⟩
            have n3_ := a_ (blk_kept BK263.out hb.k (fun e_ => absurd (HB.out.c _ e_).2 (Nat.not_lt.mpr GE263.out)))
            have n4_ := a_ (blk_kept BK266.out hb.k (fun e_ => absurd (HB.out.c _ e_).2 (Nat.not_lt.mpr GE266.out)))
            have n5_ := a_ (blk_kept BK277.out hb.k (fun e_ => absurd (HB.out.c _ e_).2 (Nat.not_lt.mpr GE277.out)))
            have n6_ := a_ (Srch.Fnd.after HB.out hb)
            clear HO276 HO284 HO287 BK263 BK266 BK277 HB; have BK263 := n3_; have BK266 := n4_; have BK277 := n5_; have HB := n6_; clear n3_ n4_ n5_ n6_ hb
            refine hK.out _ _ ⟨(blk_cell BK266.out 0).trans rfl, (blk_cell BK266.out 1).trans rfl, (blk_cell BK266.out 2).trans rfl, (blk_cell BK266.out 3).trans rfl, (blk_cell BK266.out 4).trans rfl, (blk_cell BK277.out 0).trans rfl, (blk_cell BK277.out 1).trans rfl⟩ (fun hHeld => ?_)
            clear hK K
            refine norm_ (a' := ?_) ?_ ?_
            rotate_left
            ·show Act.put _ (some 77) _ = _
             simp only [Act.put, List.setIfInBounds_toArray, List.set_cons_zero, List.set_cons_succ, i64_w, i32_w]
             rfl
            refine pure_ (i := 18) (N := some 78) (v := ?_) (a' := ?_) #[true, true, true, true, true, true, true, true, true, true, true, true, true, true, true, true, true, true, true, false] rfl rfl (any_of HT_.out (by kernel_rfl)) (fun _ _ _ h => h) (Or.inl ⟨by rfl, ?_⟩) ?_ ?_
            rotate_left
            ·intro w'
             go_simp
             with_reducible rfl
            rotate_left
            ·simp only [Act.put, List.setIfInBounds_toArray, List.set_cons_zero, List.set_cons_succ, i64_w, i32_w]
             rfl
            refine pure_ (i := 19) (N := some 79) (v := ?_) (a' := ?_) #[true, true, true, true, true, true, true, true, true, true, true, true, true, true, true, true, true, true, true, true] rfl rfl (any_of HT_.out (by kernel_rfl)) (fun _ _ _ h => h) (Or.inl ⟨by rfl, ?_⟩) ?_ ?_
            rotate_left
            ·intro w'
             go_simp
             with_reducible rfl
            rotate_left
            ·simp only [Act.put, List.setIfInBounds_toArray, List.set_cons_zero, List.set_cons_succ, i64_w, i32_w]
             rfl
            refine done_ (done_of HT_.out (by kernel_rfl)) ?_
            try go_wp2
            go_ret
            exact ⟨rfl, HB.out⟩
          ·replace c60 := Bool.eq_false_iff.mpr c60
           subst c60
           rw [if_neg (show ¬ (false = true) by decide)] at H
           have H' := a_ H
           clear H; have hnb103 := NB263_266.out; have hnc103 := NB266_263.out
           obtain ⟨hcz104_0, hcz104_1, hfz104_0, hfz104_1⟩ := cz2_ BK263.out
           obtain ⟨hcz105_0, hcz105_1, hcz105_2, hcz105_3, hcz105_4, hfz105_0, hfz105_1, hfz105_2, hfz105_3, hfz105_4⟩ := cz5_ BK266.out
           try go_wp2_with (first | ((with_reducible refine gate_callee (f := 107) rfl ?_); refine goesL_ (some 57) rfl rfl Try.func107 (by kernel_rfl) rfl #[.agg #[.int .i64 a2_0, .slice A2_1 l2_1.length c2_1], .agg #[.int .i64 ((rd_T77 l0 x26_1).f0), .int .i64 ((rd_T77 l0 x26_1).f1), .int .i64 ((rd_T77 l0 x26_1).f2), .bool ((rd_T77 l0 x26_1).f3), .float .f64 ((rd_T77 l0 x26_1).f4)]] rfl la_ ?_; (with_reducible refine (impl_object_play.calls k2 a2_0 (fun k_ => k_ < w.heap.size ∧ ¬ S_ k_) _ _ l2_1 ((rd_T77 l0 x26_1).f0) ((rd_T77 l0 x26_1).f1) ((rd_T77 l0 x26_1).f2) ((rd_T77 l0 x26_1).f3) ((rd_T77 l0 x26_1).f4) t272 t273 t274 _ ?side1 A46.out).mono ?_); (case side1 => exact Kd.V_mk HC2_1.out (Srch.F_kb (J := J_ xn_1) (w0 := w0) (S_ := S_) HR2_1.out (by repeat (first | (with_reducible first|exact HB.out|apply Srch.vA_|apply Srch.vN_|apply Srch.vD_ | refine Srch.vS_ ?_ GE263.out | refine Srch.vS_ ?_ GE266.out) | exact HB.out)))); rintro e w106 ⟨v275, rfl, ho0, hb⟩; refine ⟨_, rfl, ?_⟩; have n0_ := a_ (Kd.V_lower (Kd.V_mono (ok' := fun k_ => (k_ ≠ gb263 ∧ ¬ S_ k_) ∧ k_ ≠ gb266) ho0 (fun k_ hk_ => ⟨⟨Or.elim hk_ (fun hs_ => fun e_ => Nat.not_le.2 hs_.1 (by rw [e_]; exact GW263.out)) (fun hn_ => (Kd.freshB (g := gb263) (o := .cells #[.int .i64 a2_0, .slice A2_1 l2_1.length c2_1] 88 (0, 0)) (q_ BK263.out) k_ hn_)), Or.elim hk_ (fun hs_ => hs_.2) (fun hn_ => fun e_ => absurd (Nat.lt_of_lt_of_le (HB.out.c k_ e_).2 HB.out.k.1) (Nat.not_lt.mpr hn_))⟩, Or.elim hk_ (fun hs_ => fun e_ => Nat.not_le.2 hs_.1 (by rw [e_]; exact GW266.out)) (fun hn_ => (Kd.freshB (g := gb266) (o := .cells #[.int .i64 ((rd_T77 l0 x26_1).f0), .int .i64 ((rd_T77 l0 x26_1).f1), .int .i64 ((rd_T77 l0 x26_1).f2), .bool ((rd_T77 l0 x26_1).f3), .float .f64 ((rd_T77 l0 x26_1).f4)] 77 (0, 0)) (q_ BK266.out) k_ hn_))⟩)) (Srch.bz_ S_ (J_ xn_1) w0 w (by repeat (first | (with_reducible first|exact HB.out|apply Srch.vA_|apply Srch.vN_|apply Srch.vD_ | refine Srch.vS_ ?_ GE263.out | refine Srch.vS_ ?_ GE266.out) | exact HB.out)))); have n1_ := a_ (blk_below (q_ BK263.out) hb); have n2_ := a_ (blk_below (q_ BK266.out) hb); have n3_ := a_ (Srch.bs_ S_ (J_ xn_1) w0 w (by repeat (first | (with_reducible first|exact HB.out|apply Srch.vA_|apply Srch.vN_|apply Srch.vD_ | refine Srch.vS_ ?_ GE263.out | refine Srch.vS_ ?_ GE266.out) | exact HB.out)) hb); clear BK263; clear BK266; clear HB; have HO276 := n0_; have BK263 := n1_; have BK266 := n2_; have HB := n3_; clear n0_ n1_ n2_ n3_; (try clear hb); (try clear hb2); (try clear hk); (try clear hi); (try clear ho0)) | ((with_reducible refine gate_dst (N := 15) rfl ?_); (try (refine gate_guard (by rfl) ?_; dsimp only)); refine box_event ?hg (N := 15) ?hd (cs := #[.int .i64 0, .slice none 0 0]) (t := 88) ?hr ?_; (case hd => rfl); (case hg => rfl); (case hr => first | (go_simp; done) | (go_simp; rfl)); intro gb277 hg w107 hbox hb; have n0_ := a_ (Kd.V_below (Kd.V_elderB (by (with_reducible repeat (first | apply Kd.V_alloc | apply Kd.V_drewN | apply Kd.V_drew)); exact HO276.out) gb277 (Nat.le_of_eq hg.symm)) hb); have n1_ := a_ (blk_below (q_ BK263.out) hb); have n2_ := a_ (blk_below (q_ BK266.out) hb); have n3_ := a_ (Srch.bs_ S_ (J_ xn_1) w0 w (by repeat (first | (with_reducible first|exact HB.out|apply Srch.vA_|apply Srch.vN_|apply Srch.vD_ | refine Srch.vS_ ?_ GE263.out | refine Srch.vS_ ?_ GE266.out) | exact HB.out)) hb); have n4_ := a_ (hbox); have n5_ := a_ ((by rw [hg]; exact (Srch.bz_ S_ (J_ xn_1) w0 w (by repeat (first | (with_reducible first|exact HB.out|apply Srch.vA_|apply Srch.vN_|apply Srch.vD_ | refine Srch.vS_ ?_ GE263.out | refine Srch.vS_ ?_ GE266.out) | exact HB.out))) : w.heap.size ≤ gb277)); have n6_ := a_ ((by rw [hg]; exact (Srch.bz_ S_ (J_ xn_1) w0 w (by repeat (first | (with_reducible first|exact HB.out|apply Srch.vA_|apply Srch.vN_|apply Srch.vD_ | refine Srch.vS_ ?_ GE263.out | refine Srch.vS_ ?_ GE266.out) | exact HB.out))) : w.heap.size ≤ gb277)); have n7_ := a_ ((by rw [hg]; exact Nat.ne_of_lt (blk_lt (g := gb263) (o := .cells #[.int .i64 a2_0, .slice A2_1 l2_1.length c2_1] 88 (0, 0)) (q_ BK263.out)) : gb263 ≠ gb277)); have n8_ := a_ ((by rw [hg]; exact Nat.ne_of_gt (blk_lt (g := gb263) (o := .cells #[.int .i64 a2_0, .slice A2_1 l2_1.length c2_1] 88 (0, 0)) (q_ BK263.out)) : gb277 ≠ gb263)); have n9_ := a_ ((by rw [hg]; exact Nat.ne_of_lt (blk_lt (g := gb266) (o := .cells #[.int .i64 ((rd_T77 l0 x26_1).f0), .int .i64 ((rd_T77 l0 x26_1).f1), .int .i64 ((rd_T77 l0 x26_1).f2), .bool ((rd_T77 l0 x26_1).f3), .float .f64 ((rd_T77 l0 x26_1).f4)] 77 (0, 0)) (q_ BK266.out)) : gb266 ≠ gb277)); have n10_ := a_ ((by rw [hg]; exact Nat.ne_of_gt (blk_lt (g := gb266) (o := .cells #[.int .i64 ((rd_T77 l0 x26_1).f0), .int .i64 ((rd_T77 l0 x26_1).f1), .int .i64 ((rd_T77 l0 x26_1).f2), .bool ((rd_T77 l0 x26_1).f3), .float .f64 ((rd_T77 l0 x26_1).f4)] 77 (0, 0)) (q_ BK266.out)) : gb277 ≠ gb266)); clear HO276; clear BK263; clear BK266; clear HB; have HO276 := n0_; have BK263 := n1_; have BK266 := n2_; have HB := n3_; have BK277 := n4_; have GW277 := n5_; have GE277 := n6_; have NB263_277 := n7_; have NB277_263 := n8_; have NB266_277 := n9_; have NB277_266 := n10_; clear n0_ n1_ n2_ n3_ n4_ n5_ n6_ n7_ n8_ n9_ n10_; clear hb hbox hg; have hnb108 := NB277_263.out; have hnc108 := NB263_277.out; have hnb109 := NB277_266.out; have hnc109 := NB266_277.out; obtain ⟨hcz110_0, hcz110_1, hfz110_0, hfz110_1⟩ := cz2_ BK277.out; obtain ⟨Ao111, co111, eo111⟩ := Kd.V_slice HO276.out; subst eo111))
           have n0_ : Aside0 (Kd.V Kd.float 55 ((w107.setCell ⟨gb277, 0, none⟩ (.int .i64 t273)).setCell ⟨gb277, 1, none⟩ (.slice Ao111 t274.length co111)) w.heap.size (fun k_ => (k_ ≠ gb263 ∧ ¬ S_ k_) ∧ k_ ≠ gb266 ∧ k_ ≠ gb277) (.slice Ao111 t274.length co111) t274) := ⟨by (with_reducible repeat (first | apply Kd.V_alloc | apply Kd.V_drewN | apply Kd.V_drew)); exact Kd.V_mono (Kd.V_far (p := ⟨gb277, 1, none⟩) (Kd.V_far (p := ⟨gb277, 0, none⟩) (Kd.V_mono HO276.out (fun k_ hk => (⟨hk, hk.2⟩ : _ ∧ k_ ≠ gb277))) (fun _ hk => hk.2) (.int .i64 t273)) (fun _ hk => hk.2) (.slice Ao111 t274.length co111)) (fun _ hk => ⟨hk.1.1.1, ⟨hk.1.1.2, hk.1.2⟩⟩)⟩
           have n1_ : Aside0 (((w107.setCell ⟨gb277, 0, none⟩ (.int .i64 t273)).setCell ⟨gb277, 1, none⟩ (.slice Ao111 t274.length co111)).heap[gb263]? = some (.cells #[.int .i64 a2_0, .slice A2_1 l2_1.length c2_1] 88 (0, 0))) := ⟨by refine q_ ?_; refine blk_far ?_ NB263_277.out _; refine q_ ?_; refine blk_far ?_ NB263_277.out _; exact q_ BK263.out⟩
           have n2_ : Aside0 (((w107.setCell ⟨gb277, 0, none⟩ (.int .i64 t273)).setCell ⟨gb277, 1, none⟩ (.slice Ao111 t274.length co111)).heap[gb266]? = some (.cells #[.int .i64 ((rd_T77 l0 x26_1).f0), .int .i64 ((rd_T77 l0 x26_1).f1), .int .i64 ((rd_T77 l0 x26_1).f2), .bool ((rd_T77 l0 x26_1).f3), .float .f64 ((rd_T77 l0 x26_1).f4)] 77 (0, 0))) := ⟨by refine q_ ?_; refine blk_far ?_ NB266_277.out _; refine q_ ?_; refine blk_far ?_ NB266_277.out _; exact q_ BK266.out⟩
           have n3_ : Aside0 (((w107.setCell ⟨gb277, 0, none⟩ (.int .i64 t273)).setCell ⟨gb277, 1, none⟩ (.slice Ao111 t274.length co111)).heap[gb277]? = some (.cells #[.int .i64 t273, .slice Ao111 t274.length co111] 88 (0, 0))) := ⟨by refine q_ ?_; refine blk_put (cs := #[.int .i64 t273, .slice none 0 0]) ?_ 1 _ rfl; refine q_ ?_; refine blk_put (cs := #[.int .i64 0, .slice none 0 0]) ?_ 0 _ rfl; exact q_ BK277.out⟩
           have n4_ : Aside0 (Srch.Bel S_ (J_ xn_1) w0 w ((w107.setCell ⟨gb277, 0, none⟩ (.int .i64 t273)).setCell ⟨gb277, 1, none⟩ (.slice Ao111 t274.length co111))) := ⟨by repeat (first | (with_reducible first|exact HB.out|apply Srch.vA_|apply Srch.vN_|apply Srch.vD_ | refine Srch.vS_ ?_ GE263.out | refine Srch.vS_ ?_ GE266.out | refine Srch.vS_ ?_ GE277.out) | exact HB.out)⟩
           (try clear HO276); (try clear BK263); (try clear BK266); (try clear BK277); (try clear HB)
           generalize ((w107.setCell ⟨gb277, 0, none⟩ (.int .i64 t273)).setCell ⟨gb277, 1, none⟩ (.slice Ao111 t274.length co111)) = w112 at n0_ n1_ n2_ n3_ n4_ ⊢
           have HO276 := n0_; have BK263 := n1_; have BK266 := n2_; have BK277 := n3_; have HB := n4_; clear n0_ n1_ n2_ n3_ n4_
           have n0_ := a_ (Kd.V_drew HO276.out)
           have n1_ := a_ (blk_drew BK263.out)
           have n2_ := a_ (blk_drew BK266.out)
           have n3_ := a_ (blk_drew BK277.out)
           have n4_ := a_ (Srch.below_drew1 HB.out)
           clear HO276; clear BK263; clear BK266; clear BK277; clear HB; have HO276 := n0_; have BK263 := n1_; have BK266 := n2_; have BK277 := n3_; have HB := n4_; clear n0_ n1_ n2_ n3_ n4_
           refine start_ (n := 20) (S := fun w' => w'.cell? ⟨gb266, 0, none⟩ = some (.int .i64 ((rd_T77 l0 x26_1).f0)) ∧ w'.cell? ⟨gb266, 1, none⟩ = some (.int .i64 ((rd_T77 l0 x26_1).f1)) ∧ w'.cell? ⟨gb266, 2, none⟩ = some (.int .i64 ((rd_T77 l0 x26_1).f2)) ∧ w'.cell? ⟨gb266, 3, none⟩ = some (.bool ((rd_T77 l0 x26_1).f3)) ∧ w'.cell? ⟨gb266, 4, none⟩ = some (.float .f64 ((rd_T77 l0 x26_1).f4))) (ds := []) #[false, false, false, false, false, false, false, false, false, false, false, false, false, false, false, false, false, false, false, false] (by kernel_rfl) rfl rfl ⟨(blk_cell BK266.out 0).trans rfl, (blk_cell BK266.out 1).trans rfl, (blk_cell BK266.out 2).trans rfl, (blk_cell BK266.out 3).trans rfl, (blk_cell BK266.out 4).trans rfl⟩ (fun hHeld => ?_); refine with_tabW impl_search.tab14 impl_search.bits14 (fun HT_ HW_ => ?_)
           generalize w112.drew = w113 at HO276 BK263 BK266 BK277 HB hHeld ⊢
           refine pure_ (i := 0) (N := some 60) (v := ?_) (a' := ?_) #[true, false, false, false, false, false, false, false, false, false, false, false, false, false, false, false, false, false, false, false] rfl rfl (any_of HT_.out (by kernel_rfl)) (fun _ _ _ h => h) (Or.inl ⟨by rfl, ?_⟩) ?_ ?_
           rotate_left
           ·intro w'
            go_simp
            with_reducible rfl
           rotate_left
           ·simp only [Act.put, List.setIfInBounds_toArray, List.set_cons_zero, List.set_cons_succ, i64_w, i32_w]
            rfl
           refine pure_ (i := 1) (N := some 61) (v := ?_) (a' := ?_) #[true, true, false, false, false, false, false, false, false, false, false, false, false, false, false, false, false, false, false, false] rfl rfl (any_of HT_.out (by kernel_rfl)) (fun _ _ _ h => h) (Or.inl ⟨by rfl, ?_⟩) ?_ ?_
           rotate_left
           ·intro w'
            go_simp
            with_reducible rfl
           rotate_left
           ·simp only [Act.put, List.setIfInBounds_toArray, List.set_cons_zero, List.set_cons_succ, i64_w, i32_w]
            rfl
           refine pure_ (i := 2) (N := some 62) (v := ?_) (a' := ?_) #[true, true, true, false, false, false, false, false, false, false, false, false, false, false, false, false, false, false, false, false] rfl rfl (any_of HT_.out (by kernel_rfl)) (fun _ _ _ h => h) (Or.inl ⟨by rfl, ?_⟩) ?_ ?_
           rotate_left
           ·intro w'
            go_simp
            with_reducible rfl
           rotate_left
           ·simp only [Act.put, List.setIfInBounds_toArray, List.set_cons_zero, List.set_cons_succ, i64_w, i32_w]
            rfl
           refine pure_ (i := 3) (N := some 63) (v := ?_) (a' := ?_) #[true, true, true, true, false, false, false, false, false, false, false, false, false, false, false, false, false, false, false, false] rfl rfl (any_of HT_.out (by kernel_rfl)) (fun _ _ _ h => h) (Or.inl ⟨by rfl, ?_⟩) ?_ ?_
           rotate_left
           ·intro w'
            go_simp
            with_reducible rfl
           rotate_left
           ·simp only [Act.put, List.setIfInBounds_toArray, List.set_cons_zero, List.set_cons_succ, i64_w, i32_w]
            rfl
           refine pure_ (i := 4) (N := some 64) (v := ?_) (a' := ?_) #[true, true, true, true, true, false, false, false, false, false, false, false, false, false, false, false, false, false, false, false] rfl rfl (any_of HT_.out (by kernel_rfl)) (fun _ _ _ h => h) (Or.inl ⟨by rfl, ?_⟩) ?_ ?_
           rotate_left
           ·intro w'
            go_simp
            with_reducible rfl
           rotate_left
           ·simp only [Act.put, List.setIfInBounds_toArray, List.set_cons_zero, List.set_cons_succ, i64_w, i32_w]
            rfl
           refine take_ (i := 5) (N := some 65) (v := ?_) (a' := ?_) #[true, true, true, true, true, true, false, false, false, false, false, false, false, false, false, false, false, false, false, false] rfl rfl (take_ofW HT_.out HW_.out (by kernel_rfl)) (fun _ _ _ h => h) (Or.inl ⟨by rfl, ?_⟩) hHeld ?_ ?_
           rotate_left
           ·rintro w' ⟨s0, s1, s2, s3, s4⟩
            go_simp
            with_reducible rfl
           rotate_left
           ·simp only [Act.put, List.setIfInBounds_toArray, List.set_cons_zero, List.set_cons_succ, i64_w, i32_w]
            rfl
           refine one_ (i := 6) (N := some 66) #[true, true, true, true, true, true, true, false, false, false, false, false, false, false, false, false, false, false, false, false] rfl rfl (one_of HT_.out (by kernel_rfl)) (by decide) (fun K hK => ?_)
           first | refine goes_ Try.func42 (by kernel_rfl) rfl #[.float .f64 t272, .float .f64 ((rd_T77 l0 x26_1).f4)] (by rfl) rfl rfl la_ ?_ | refine goesV_ Try.func42 (by kernel_rfl) rfl #[.float .f64 t272, .float .f64 ((rd_T77 l0 x26_1).f4)] (by rfl) rfl rfl (by rfl) (by first | rfl | (simp only [List.map_toArray, List.map_cons, List.map_nil]; rfl)) ?_
           with_reducible refine (impl_SameNum.calls t272 ((rd_T77 l0 x26_1).f4) false _ A59.out).mono ?_
           rintro e w' ⟨rfl, ⟨nd, rfl⟩⟩
           refine ⟨_, rfl, ?_⟩
           refine hK.out _ _ ⟨(blk_cell BK266.out 0).trans rfl, (blk_cell BK266.out 1).trans rfl, (blk_cell BK266.out 2).trans rfl, (blk_cell BK266.out 3).trans rfl, (blk_cell BK266.out 4).trans rfl⟩ (fun hHeld => ?_)
           clear hK K
           refine norm_ (a' := ?_) ?_ ?_
           rotate_left
           ·show Act.put _ (some 66) _ = _
            simp only [Act.put, List.setIfInBounds_toArray, List.set_cons_zero, List.set_cons_succ, i64_w, i32_w]
            rfl
           refine pure_ (i := 7) (N := some 67) (v := ?_) (a' := ?_) #[true, true, true, true, true, true, true, true, false, false, false, false, false, false, false, false, false, false, false, false] rfl rfl (any_of HT_.out (by kernel_rfl)) (fun _ _ _ h => h) (Or.inl ⟨by rfl, ?_⟩) ?_ ?_
           rotate_left
           ·intro w'
            go_simp
            with_reducible rfl
           rotate_left
           ·simp only [Act.put, List.setIfInBounds_toArray, List.set_cons_zero, List.set_cons_succ, i64_w, i32_w]
            rfl
           refine pure_ (i := 8) (N := some 68) (v := ?_) (a' := ?_) #[true, true, true, true, true, true, true, true, true, false, false, false, false, false, false, false, false, false, false, false] rfl rfl (any_of HT_.out (by kernel_rfl)) (fun _ _ _ h => h) (Or.inl ⟨by rfl, ?_⟩) ?_ ?_
           rotate_left
           ·intro w'
            go_simp
            with_reducible rfl
           rotate_left
           ·simp only [Act.put, List.setIfInBounds_toArray, List.set_cons_zero, List.set_cons_succ, i64_w, i32_w]
            rfl
           refine pure_ (i := 9) (N := some 69) (v := undef) (a' := ?_) #[true, true, true, true, true, true, true, true, true, true, false, false, false, false, false, false, false, false, false, false] rfl rfl (any_of HT_.out (by kernel_rfl)) (fun _ _ _ h => h) (Or.inr ⟨by rfl, rfl⟩) ?_ ?_
           rotate_left
           ·simp only [Act.put, List.setIfInBounds_toArray, List.set_cons_zero, List.set_cons_succ, i64_w, i32_w]
            rfl
           refine pure_ (i := 10) (N := some 70) (v := undef) (a' := ?_) #[true, true, true, true, true, true, true, true, true, true, true, false, false, false, false, false, false, false, false, false] rfl rfl (any_of HT_.out (by kernel_rfl)) (fun _ _ _ h => h) (Or.inr ⟨by rfl, rfl⟩) ?_ ?_
           rotate_left
           ·simp only [Act.put, List.setIfInBounds_toArray, List.set_cons_zero, List.set_cons_succ, i64_w, i32_w]
            rfl
           refine pure_ (i := 11) (N := some 71) (v := undef) (a' := ?_) #[true, true, true, true, true, true, true, true, true, true, true, true, false, false, false, false, false, false, false, false] rfl rfl (any_of HT_.out (by kernel_rfl)) (fun _ _ _ h => h) (Or.inr ⟨by rfl, rfl⟩) ?_ ?_
           rotate_left
           ·simp only [Act.put, List.setIfInBounds_toArray, List.set_cons_zero, List.set_cons_succ, i64_w, i32_w]
            rfl
           refine pure_ (i := 12) (N := some 72) (v := undef) (a' := ?_) #[true, true, true, true, true, true, true, true, true, true, true, true, true, false, false, false, false, false, false, false] rfl rfl (any_of HT_.out (by kernel_rfl)) (fun _ _ _ h => h) (Or.inr ⟨by rfl, rfl⟩) ?_ ?_
           rotate_left
           ·simp only [Act.put, List.setIfInBounds_toArray, List.set_cons_zero, List.set_cons_succ, i64_w, i32_w]
            rfl
           refine pure_ (i := 13) (N := some 73) (v := undef) (a' := ?_) #[true, true, true, true, true, true, true, true, true, true, true, true, true, true, false, false, false, false, false, false] rfl rfl (any_of HT_.out (by kernel_rfl)) (fun _ _ _ h => h) (Or.inr ⟨by rfl, rfl⟩) ?_ ?_
           rotate_left
           ·simp only [Act.put, List.setIfInBounds_toArray, List.set_cons_zero, List.set_cons_succ, i64_w, i32_w]
            rfl
           refine pure_ (i := 14) (N := some 74) (v := undef) (a' := ?_) #[true, true, true, true, true, true, true, true, true, true, true, true, true, true, true, false, false, false, false, false] rfl rfl (any_of HT_.out (by kernel_rfl)) (fun _ _ _ h => h) (Or.inr ⟨by rfl, rfl⟩) ?_ ?_
           rotate_left
           ·simp only [Act.put, List.setIfInBounds_toArray, List.set_cons_zero, List.set_cons_succ, i64_w, i32_w]
            rfl
           refine pure_ (i := 15) (N := some 75) (v := undef) (a' := ?_) #[true, true, true, true, true, true, true, true, true, true, true, true, true, true, true, true, false, false, false, false] rfl rfl (any_of HT_.out (by kernel_rfl)) (fun _ _ _ h => h) (Or.inr ⟨by rfl, rfl⟩) ?_ ?_
           rotate_left
           ·simp only [Act.put, List.setIfInBounds_toArray, List.set_cons_zero, List.set_cons_succ, i64_w, i32_w]
            rfl
           refine pure_ (i := 16) (N := some 76) (v := undef) (a' := ?_) #[true, true, true, true, true, true, true, true, true, true, true, true, true, true, true, true, true, false, false, false] rfl rfl (any_of HT_.out (by kernel_rfl)) (fun _ _ _ h => h) (Or.inr ⟨by rfl, rfl⟩) ?_ ?_
           rotate_left
           ·simp only [Act.put, List.setIfInBounds_toArray, List.set_cons_zero, List.set_cons_succ, i64_w, i32_w]
            rfl
           refine pure_ (i := 17) (N := some 77) (v := undef) (a' := ?_) #[true, true, true, true, true, true, true, true, true, true, true, true, true, true, true, true, true, true, false, false] rfl rfl (any_of HT_.out (by kernel_rfl)) (fun _ _ _ h => h) (Or.inr ⟨by rfl, rfl⟩) ?_ ?_
           rotate_left
           ·simp only [Act.put, List.setIfInBounds_toArray, List.set_cons_zero, List.set_cons_succ, i64_w, i32_w]
            rfl
           refine pure_ (i := 18) (N := some 78) (v := undef) (a' := ?_) #[true, true, true, true, true, true, true, true, true, true, true, true, true, true, true, true, true, true, true, false] rfl rfl (any_of HT_.out (by kernel_rfl)) (fun _ _ _ h => h) (Or.inr ⟨by rfl, rfl⟩) ?_ ?_
           rotate_left
           ·simp only [Act.put, List.setIfInBounds_toArray, List.set_cons_zero, List.set_cons_succ, i64_w, i32_w]
            rfl
           refine pure_ (i := 19) (N := some 79) (v := ?_) (a' := ?_) #[true, true, true, true, true, true, true, true, true, true, true, true, true, true, true, true, true, true, true, true] rfl rfl (any_of HT_.out (by kernel_rfl)) (fun _ _ _ h => h) (Or.inl ⟨by rfl, ?_⟩) ?_ ?_
           rotate_left
           ·intro w'
            go_simp
            with_reducible rfl
           rotate_left
           ·simp only [Act.put, List.setIfInBounds_toArray, List.set_cons_zero, List.set_cons_succ, i64_w, i32_w]
            rfl
           refine done_ (done_of HT_.out (by kernel_rfl)) ?_
           try go_wp2
           go_roundg k2
           case measure => have := HK1.out; have := HK2.out; omega
           case rel => exact ⟨xn_1, (wrap64 (x26_1 + 1)), (by first | rfl | (simp; done) | (simp [*]; done)), H', ⟨by have := HK1.out; have := HK2.out; omega⟩, ⟨by exact q_ BK263.out⟩, ⟨by repeat (first | (with_reducible first|exact HB.out|apply Srch.vA_|apply Srch.vN_|apply Srch.vD_ | refine Srch.vS_ ?_ GE263.out | refine Srch.vS_ ?_ GE266.out | refine Srch.vS_ ?_ GE277.out) | exact HB.out)⟩⟩
    ·rw [if_neg c10] at H
     have c10b0 := decide_eq_false c10
     clear c10
     obtain rfl := Option.some.inj H
     go_wp2
     go_ret
     exact ⟨by first | rfl | (simp [errW_none, errW_some] <;> rfl) | (simp [*, errW_none, errW_some] <;> rfl), by repeat (first | (with_reducible first|exact HB.out|apply Srch.vA_|apply Srch.vN_|apply Srch.vD_ | refine Srch.vS_ ?_ GE263.out) | exact HB.out)⟩

end Go.Proofs.Ythdpiceiemkjlaa.GFnOneOrder

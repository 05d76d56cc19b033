-- Printed by wip/tools/print2.py out of the translation: walks and plain functions; Lean checks them.
import Derived.Test.YtpfbiopcfbokbaaGThreadsOfx0
import Derived.Test.YtpfbiopcfbokbaaGThreadsOfx1
import Derived.Test.YtpfbiopcfbokbaaGThreadsOfx2
import Derived.Test.YtpfbiopcfbokbaaGThreadsOfx3
import Derived.Test.YtpfbiopcfbokbaaGThreadsOfx5
namespace Go.Proofs.Ytpfbiopcfbokbaa.GThreadsOf
open Go.RowKit Go.Proofs.YtpfbiopcfbokbaaW.PrintWords Go.Proofs.YtpfbiopcfbokbaaW.PrintLast Go.Proofs.YtpfbiopcfbokbaaW.PrintMore
attribute [local go_sem] max2_int min2_int max_two min_two max_three min_three max_four min_four   -- for this text's walks alone
set_option linter.unusedVariables false
set_option linter.unusedSimpArgs false

/-! ### laws_FnExactThreadsOf: function 9 -/
mutual
def laws_FnExactThreadsOf.j0 : Nat → List Int → Bool → List Int → Bool → Bool → Int → List (S120) → List Int → List (S190) → List Nat → List Int → Int → Int → List (S118) → List Int → List (S191) → List Nat → List Int → Int → Option (Bool)
 | 0, _, _, _, _, _, _, _, _, _, _, _, _, _, _, _, _, _, _, _ => none
 | k + 1, x4, x5, x7, x8, x40, x239000, x239001, x239002, x239003, x239004, x239005, x239006, x279000, x279001, x279002, x279003, x279004, x279005, x279006 => if x40 = true then (some false) else ((laws_toRun.f k x239000 x239001 x239002 x239003 x239004 x239005 x239006).bind fun bt284 => ((laws_eqRun.f k x279000 x279001 x279002 x279003 x279004 x279005 x279006 bt284.1 bt284.2.1 bt284.2.2.1 bt284.2.2.2.1 bt284.2.2.2.2.1 bt284.2.2.2.2.2.1 bt284.2.2.2.2.2.2).bind fun t301 => (if t301 = true then ((laws_markRun.f k x279000 x279001 x279002 x279003 x279004 x279005 x279006 1).bind fun t302 => (if t302 < 0 then (laws_FnExactThreadsOf.j1 k x4 x5 x7 true x239000 x239001 x239002 x239003 x239004 x239005 x239006) else ((laws_eqIntS.f k x7 x4).bind fun t303 => (if t303 = true then (laws_FnExactThreadsOf.j1 k x4 x5 x7 (x8 != x5) x239000 x239001 x239002 x239003 x239004 x239005 x239006) else (laws_FnExactThreadsOf.j1 k x4 x5 x7 true x239000 x239001 x239002 x239003 x239004 x239005 x239006))))) else (some false))))
def laws_FnExactThreadsOf.j1 : Nat → List Int → Bool → List Int → Bool → Int → List (S120) → List Int → List (S190) → List Nat → List Int → Int → Option (Bool)
 | 0, _, _, _, _, _, _, _, _, _, _, _ => none
 | k + 1, x4, x5, x7, x61, x239000, x239001, x239002, x239003, x239004, x239005, x239006 => if x61 = true then (some false) else ((laws_markIntS.f k x7 1).bind fun bt304 => ((laws_heldIntS.f k bt304.2 1).bind fun t306 => (if t306 < 0 then (some false) else (if t306 = bt304.1 then ((laws_toRun.f k x239000 x239001 x239002 x239003 x239004 x239005 x239006).bind fun bt307 => ((impl_ThreadsOf.f k bt307.1 bt307.2.1 bt307.2.2.1 bt307.2.2.2.1 bt307.2.2.2.2.1 bt307.2.2.2.2.2.1 bt307.2.2.2.2.2.2).bind fun bt324 => ((laws_eqIntS.f k bt324.1 x4).bind fun t328 => (if t328 = true then (laws_FnExactThreadsOf.j2 k bt304.2 bt304.1 (bt324.2 != x5)) else (laws_FnExactThreadsOf.j2 k bt304.2 bt304.1 true))))) else (some false)))))
def laws_FnExactThreadsOf.j2 : Nat → List Int → Int → Bool → Option (Bool)
 | 0, _, _, _ => none
 | k + 1, x7, x10, x87 => if x87 = true then (some false) else ((laws_heldIntS.f k x7 1).bind fun t329 => (if t329 < 0 then (some false) else (if t329 = x10 then (some true) else (some false))))
end
def laws_FnExactThreadsOf.f (k : Nat) (a0_0 : Int) (l0_1 : List (S120)) (l0_2 : List Int) (l0_3 : List (S190)) (l0_4 : List Nat) (l0_5 : List Int) (a0_6 : Int) : Option (Bool) := (laws_szRun.f k a0_0 l0_1 l0_2 l0_3 l0_4 l0_5 a0_6 1048576).bind fun t239 => (if t239 < 0 then (some true) else ((laws_toRun.f k a0_0 l0_1 l0_2 l0_3 l0_4 l0_5 a0_6).bind fun bt240 => ((spec_ThreadsOf.f k bt240.1 bt240.2.1 bt240.2.2.1 bt240.2.2.2.1 bt240.2.2.2.2.1 bt240.2.2.2.2.2.1 bt240.2.2.2.2.2.2).bind fun bt257 => ((laws_toRun.f k a0_0 l0_1 l0_2 l0_3 l0_4 l0_5 a0_6).bind fun bt261 => ((impl_ThreadsOf.f k bt261.1 bt261.2.1 bt261.2.2.1 bt261.2.2.2.1 bt261.2.2.2.2.1 bt261.2.2.2.2.2.1 bt261.2.2.2.2.2.2).bind fun bt279 => ((laws_eqIntS.f k bt279.1 bt257.1).bind fun t283 => (if t283 = true then (laws_FnExactThreadsOf.j0 k bt257.1 bt257.2 bt279.1 bt279.2 (bt279.2 != bt257.2) a0_0 l0_1 l0_2 l0_3 l0_4 l0_5 a0_6 bt261.1 bt261.2.1 bt261.2.2.1 bt261.2.2.2.1 bt261.2.2.2.2.1 bt261.2.2.2.2.2.1 bt261.2.2.2.2.2.2) else (laws_FnExactThreadsOf.j0 k bt257.1 bt257.2 bt279.1 bt279.2 true a0_0 l0_1 l0_2 l0_3 l0_4 l0_5 a0_6 bt261.1 bt261.2.1 bt261.2.2.1 bt261.2.2.2.1 bt261.2.2.2.2.1 bt261.2.2.2.2.2.1 bt261.2.2.2.2.2.2))))))))
theorem laws_FnExactThreadsOf.mono_l : ∀ k, (∀ y0 y1 y2 y3 y4 y5 y6 y7 y8 y9 y10 y11 y12 y13 y14 y15 y16 y17 y18, LeO (laws_FnExactThreadsOf.j0 k y0 y1 y2 y3 y4 y5 y6 y7 y8 y9 y10 y11 y12 y13 y14 y15 y16 y17 y18) (laws_FnExactThreadsOf.j0 (k + 1) y0 y1 y2 y3 y4 y5 y6 y7 y8 y9 y10 y11 y12 y13 y14 y15 y16 y17 y18)) ∧ (∀ y0 y1 y2 y3 y4 y5 y6 y7 y8 y9 y10, LeO (laws_FnExactThreadsOf.j1 k y0 y1 y2 y3 y4 y5 y6 y7 y8 y9 y10) (laws_FnExactThreadsOf.j1 (k + 1) y0 y1 y2 y3 y4 y5 y6 y7 y8 y9 y10)) ∧ (∀ y0 y1 y2, LeO (laws_FnExactThreadsOf.j2 k y0 y1 y2) (laws_FnExactThreadsOf.j2 (k + 1) y0 y1 y2))
 | 0 => ⟨fun _ _ _ _ _ _ _ _ _ _ _ _ _ _ _ _ _ _ _ r h => by simp [laws_FnExactThreadsOf.j0] at h, fun _ _ _ _ _ _ _ _ _ _ _ r h => by simp [laws_FnExactThreadsOf.j1] at h, fun _ _ _ r h => by simp [laws_FnExactThreadsOf.j2] at h⟩
 | k + 1 => by
  obtain ⟨ih0, ih1, ih2⟩ := laws_FnExactThreadsOf.mono_l k
  refine ⟨?_, ?_, ?_⟩
  ·intro y0 y1 y2 y3 y4 y5 y6 y7 y8 y9 y10 y11 y12 y13 y14 y15 y16 y17 y18
   unfold laws_FnExactThreadsOf.j0
   repeat' first
   | (with_reducible exact ih0 _ _ _ _ _ _ _ _ _ _ _ _ _ _ _ _ _ _ _)
   | (with_reducible exact ih1 _ _ _ _ _ _ _ _ _ _ _)
   | (with_reducible exact ih2 _ _ _)
   | (with_reducible exact impl_ThreadsOf.mono _ _ _ _ _ _ _ _)
   | (with_reducible exact laws_eqIntS.mono _ _ _)
   | (with_reducible exact laws_eqRun.mono _ _ _ _ _ _ _ _ _ _ _ _ _ _ _)
   | (with_reducible exact laws_heldIntS.mono _ _ _)
   | (with_reducible exact laws_markIntS.mono _ _ _)
   | (with_reducible exact laws_markRun.mono _ _ _ _ _ _ _ _ _)
   | (with_reducible exact laws_szRun.mono _ _ _ _ _ _ _ _ _)
   | (with_reducible exact laws_toRun.mono _ _ _ _ _ _ _ _)
   | (with_reducible exact spec_ThreadsOf.mono _ _ _ _ _ _ _ _)
   | (with_reducible exact LeO.refl _)
   | (with_reducible exact LeO.none _)
   | (with_reducible refine LeO.ite ?_ ?_)
   | (with_reducible refine LeO.bind ?_ (fun _ => ?_))
   | exact ih0 _ _ _ _ _ _ _ _ _ _ _ _ _ _ _ _ _ _ _
   | exact ih1 _ _ _ _ _ _ _ _ _ _ _
   | exact ih2 _ _ _
   | exact impl_ThreadsOf.mono _ _ _ _ _ _ _ _
   | exact laws_eqIntS.mono _ _ _
   | exact laws_eqRun.mono _ _ _ _ _ _ _ _ _ _ _ _ _ _ _
   | exact laws_heldIntS.mono _ _ _
   | exact laws_markIntS.mono _ _ _
   | exact laws_markRun.mono _ _ _ _ _ _ _ _ _
   | exact laws_szRun.mono _ _ _ _ _ _ _ _ _
   | exact laws_toRun.mono _ _ _ _ _ _ _ _
   | exact spec_ThreadsOf.mono _ _ _ _ _ _ _ _
   | exact LeO.none _
   | refine LeO.ite ?_ ?_
   | refine LeO.bind ?_ (fun _ => ?_)
  ·intro y0 y1 y2 y3 y4 y5 y6 y7 y8 y9 y10
   unfold laws_FnExactThreadsOf.j1
   repeat' first
   | (with_reducible exact ih0 _ _ _ _ _ _ _ _ _ _ _ _ _ _ _ _ _ _ _)
   | (with_reducible exact ih1 _ _ _ _ _ _ _ _ _ _ _)
   | (with_reducible exact ih2 _ _ _)
   | (with_reducible exact impl_ThreadsOf.mono _ _ _ _ _ _ _ _)
   | (with_reducible exact laws_eqIntS.mono _ _ _)
   | (with_reducible exact laws_eqRun.mono _ _ _ _ _ _ _ _ _ _ _ _ _ _ _)
   | (with_reducible exact laws_heldIntS.mono _ _ _)
   | (with_reducible exact laws_markIntS.mono _ _ _)
   | (with_reducible exact laws_markRun.mono _ _ _ _ _ _ _ _ _)
   | (with_reducible exact laws_szRun.mono _ _ _ _ _ _ _ _ _)
   | (with_reducible exact laws_toRun.mono _ _ _ _ _ _ _ _)
   | (with_reducible exact spec_ThreadsOf.mono _ _ _ _ _ _ _ _)
   | (with_reducible exact LeO.refl _)
   | (with_reducible exact LeO.none _)
   | (with_reducible refine LeO.ite ?_ ?_)
   | (with_reducible refine LeO.bind ?_ (fun _ => ?_))
   | exact ih0 _ _ _ _ _ _ _ _ _ _ _ _ _ _ _ _ _ _ _
   | exact ih1 _ _ _ _ _ _ _ _ _ _ _
   | exact ih2 _ _ _
   | exact impl_ThreadsOf.mono _ _ _ _ _ _ _ _
   | exact laws_eqIntS.mono _ _ _
   | exact laws_eqRun.mono _ _ _ _ _ _ _ _ _ _ _ _ _ _ _
   | exact laws_heldIntS.mono _ _ _
   | exact laws_markIntS.mono _ _ _
   | exact laws_markRun.mono _ _ _ _ _ _ _ _ _
   | exact laws_szRun.mono _ _ _ _ _ _ _ _ _
   | exact laws_toRun.mono _ _ _ _ _ _ _ _
   | exact spec_ThreadsOf.mono _ _ _ _ _ _ _ _
   | exact LeO.none _
   | refine LeO.ite ?_ ?_
   | refine LeO.bind ?_ (fun _ => ?_)
  ·intro y0 y1 y2
   unfold laws_FnExactThreadsOf.j2
   repeat' first
   | (with_reducible exact ih0 _ _ _ _ _ _ _ _ _ _ _ _ _ _ _ _ _ _ _)
   | (with_reducible exact ih1 _ _ _ _ _ _ _ _ _ _ _)
   | (with_reducible exact ih2 _ _ _)
   | (with_reducible exact impl_ThreadsOf.mono _ _ _ _ _ _ _ _)
   | (with_reducible exact laws_eqIntS.mono _ _ _)
   | (with_reducible exact laws_eqRun.mono _ _ _ _ _ _ _ _ _ _ _ _ _ _ _)
   | (with_reducible exact laws_heldIntS.mono _ _ _)
   | (with_reducible exact laws_markIntS.mono _ _ _)
   | (with_reducible exact laws_markRun.mono _ _ _ _ _ _ _ _ _)
   | (with_reducible exact laws_szRun.mono _ _ _ _ _ _ _ _ _)
   | (with_reducible exact laws_toRun.mono _ _ _ _ _ _ _ _)
   | (with_reducible exact spec_ThreadsOf.mono _ _ _ _ _ _ _ _)
   | (with_reducible exact LeO.refl _)
   | (with_reducible exact LeO.none _)
   | (with_reducible refine LeO.ite ?_ ?_)
   | (with_reducible refine LeO.bind ?_ (fun _ => ?_))
   | exact ih0 _ _ _ _ _ _ _ _ _ _ _ _ _ _ _ _ _ _ _
   | exact ih1 _ _ _ _ _ _ _ _ _ _ _
   | exact ih2 _ _ _
   | exact impl_ThreadsOf.mono _ _ _ _ _ _ _ _
   | exact laws_eqIntS.mono _ _ _
   | exact laws_eqRun.mono _ _ _ _ _ _ _ _ _ _ _ _ _ _ _
   | exact laws_heldIntS.mono _ _ _
   | exact laws_markIntS.mono _ _ _
   | exact laws_markRun.mono _ _ _ _ _ _ _ _ _
   | exact laws_szRun.mono _ _ _ _ _ _ _ _ _
   | exact laws_toRun.mono _ _ _ _ _ _ _ _
   | exact spec_ThreadsOf.mono _ _ _ _ _ _ _ _
   | exact LeO.none _
   | refine LeO.ite ?_ ?_
   | refine LeO.bind ?_ (fun _ => ?_)
theorem laws_FnExactThreadsOf.mono : ∀ a0 a1 a2 a3 a4 a5 a6 k, LeO (laws_FnExactThreadsOf.f k a0 a1 a2 a3 a4 a5 a6) (laws_FnExactThreadsOf.f (k + 1) a0 a1 a2 a3 a4 a5 a6) := by
 intro a0 a1 a2 a3 a4 a5 a6 k
 obtain ⟨ih0, ih1, ih2⟩ := laws_FnExactThreadsOf.mono_l k
 unfold laws_FnExactThreadsOf.f
 repeat' first
   | (with_reducible exact ih0 _ _ _ _ _ _ _ _ _ _ _ _ _ _ _ _ _ _ _)
   | (with_reducible exact ih1 _ _ _ _ _ _ _ _ _ _ _)
   | (with_reducible exact ih2 _ _ _)
   | (with_reducible exact impl_ThreadsOf.mono _ _ _ _ _ _ _ _)
   | (with_reducible exact laws_eqIntS.mono _ _ _)
   | (with_reducible exact laws_eqRun.mono _ _ _ _ _ _ _ _ _ _ _ _ _ _ _)
   | (with_reducible exact laws_heldIntS.mono _ _ _)
   | (with_reducible exact laws_markIntS.mono _ _ _)
   | (with_reducible exact laws_markRun.mono _ _ _ _ _ _ _ _ _)
   | (with_reducible exact laws_szRun.mono _ _ _ _ _ _ _ _ _)
   | (with_reducible exact laws_toRun.mono _ _ _ _ _ _ _ _)
   | (with_reducible exact spec_ThreadsOf.mono _ _ _ _ _ _ _ _)
   | (with_reducible exact LeO.refl _)
   | (with_reducible exact LeO.none _)
   | (with_reducible refine LeO.ite ?_ ?_)
   | (with_reducible refine LeO.bind ?_ (fun _ => ?_))
   | exact ih0 _ _ _ _ _ _ _ _ _ _ _ _ _ _ _ _ _ _ _
   | exact ih1 _ _ _ _ _ _ _ _ _ _ _
   | exact ih2 _ _ _
   | exact impl_ThreadsOf.mono _ _ _ _ _ _ _ _
   | exact laws_eqIntS.mono _ _ _
   | exact laws_eqRun.mono _ _ _ _ _ _ _ _ _ _ _ _ _ _ _
   | exact laws_heldIntS.mono _ _ _
   | exact laws_markIntS.mono _ _ _
   | exact laws_markRun.mono _ _ _ _ _ _ _ _ _
   | exact laws_szRun.mono _ _ _ _ _ _ _ _ _
   | exact laws_toRun.mono _ _ _ _ _ _ _ _
   | exact spec_ThreadsOf.mono _ _ _ _ _ _ _ _
   | exact LeO.none _
   | refine LeO.ite ?_ ?_
   | refine LeO.bind ?_ (fun _ => ?_)
set_option maxHeartbeats 8000000 in
set_option maxRecDepth 100000 in
theorem laws_FnExactThreadsOf.calls (k : Nat) (a0_0 : Int) (A0_1 : Option Addr) (c0_1 : Nat) (l0_1 : List (S120)) (A0_2 : Option Addr) (c0_2 : Nat) (l0_2 : List Int) (A0_3 : Option Addr) (c0_3 : Nat) (l0_3 : List (S190)) (A0_4 : Option Addr) (c0_4 : Nat) (l0_4 : List Nat) (A0_5 : Option Addr) (c0_5 : Nat) (l0_5 : List Int) (a0_6 : Int) (r : Bool) (w : World) (hr0_1 : Kd.C k120 w A0_1 l0_1.length l0_1) (hc0_1 : l0_1.length ≤ c0_1) (hr0_2 : Kd.C (Kd.int .i64) w A0_2 l0_2.length l0_2) (hc0_2 : l0_2.length ≤ c0_2) (hr0_3 : Kd.C k190 w A0_3 l0_3.length l0_3) (hc0_3 : l0_3.length ≤ c0_3) (hr0_4 : Kd.C Kd.float w A0_4 l0_4.length l0_4) (hc0_4 : l0_4.length ≤ c0_4) (hr0_5 : Kd.C (Kd.int .i64) w A0_5 l0_5.length l0_5) (hc0_5 : l0_5.length ≤ c0_5) (h : laws_FnExactThreadsOf.f k a0_0 l0_1 l0_2 l0_3 l0_4 l0_5 a0_6 = some r) :
  Calls Try.prog 9 #[.agg #[.int .i64 a0_0, .slice A0_1 l0_1.length c0_1, .slice A0_2 l0_2.length c0_2, .slice A0_3 l0_3.length c0_3, .slice A0_4 l0_4.length c0_4, .slice A0_5 l0_5.length c0_5, .int .i64 a0_6]] w fun e w' => e = .returned (.bool r) ∧ Below w.heap.size w w' := by
 have hu73 := Try.underlying73
 have hu80 := Try.underlying80
 have HR0_1 := Aside0.mk hr0_1
 have HC0_1 := Aside0.mk hc0_1
 clear hr0_1 hc0_1
 have HR0_2 := Aside0.mk hr0_2
 have HC0_2 := Aside0.mk hc0_2
 clear hr0_2 hc0_2
 have HR0_3 := Aside0.mk hr0_3
 have HC0_3 := Aside0.mk hc0_3
 clear hr0_3 hc0_3
 have HR0_4 := Aside0.mk hr0_4
 have HC0_4 := Aside0.mk hc0_4
 clear hr0_4 hc0_4
 have HR0_5 := Aside0.mk hr0_5
 have HC0_5 := Aside0.mk hc0_5
 clear hr0_5 hc0_5
 have HB := Aside0.mk (Below.refl w.heap.size w)
 have H : ((laws_szRun.f k a0_0 l0_1 l0_2 l0_3 l0_4 l0_5 a0_6 1048576).bind fun t239 => (if t239 < 0 then (some true) else ((laws_toRun.f k a0_0 l0_1 l0_2 l0_3 l0_4 l0_5 a0_6).bind fun bt240 => ((spec_ThreadsOf.f k bt240.1 bt240.2.1 bt240.2.2.1 bt240.2.2.2.1 bt240.2.2.2.2.1 bt240.2.2.2.2.2.1 bt240.2.2.2.2.2.2).bind fun bt257 => ((laws_toRun.f k a0_0 l0_1 l0_2 l0_3 l0_4 l0_5 a0_6).bind fun bt261 => ((impl_ThreadsOf.f k bt261.1 bt261.2.1 bt261.2.2.1 bt261.2.2.2.1 bt261.2.2.2.2.1 bt261.2.2.2.2.2.1 bt261.2.2.2.2.2.2).bind fun bt279 => ((laws_eqIntS.f k bt279.1 bt257.1).bind fun t283 => (if t283 = true then (laws_FnExactThreadsOf.j0 k bt257.1 bt257.2 bt279.1 bt279.2 (bt279.2 != bt257.2) a0_0 l0_1 l0_2 l0_3 l0_4 l0_5 a0_6 bt261.1 bt261.2.1 bt261.2.2.1 bt261.2.2.2.1 bt261.2.2.2.2.1 bt261.2.2.2.2.2.1 bt261.2.2.2.2.2.2) else (laws_FnExactThreadsOf.j0 k bt257.1 bt257.2 bt279.1 bt279.2 true a0_0 l0_1 l0_2 l0_3 l0_4 l0_5 a0_6 bt261.1 bt261.2.1 bt261.2.2.1 bt261.2.2.2.1 bt261.2.2.2.2.1 bt261.2.2.2.2.2.1 bt261.2.2.2.2.2.2))))))))) = some r := h
 clear h
 replace H := Option.bind_eq_some_iff.mp H
 obtain ⟨t239, A20, H⟩ := H
 replace H : (if t239 < 0 then (some true) else ((laws_toRun.f k a0_0 l0_1 l0_2 l0_3 l0_4 l0_5 a0_6).bind fun bt240 => ((spec_ThreadsOf.f k bt240.1 bt240.2.1 bt240.2.2.1 bt240.2.2.2.1 bt240.2.2.2.2.1 bt240.2.2.2.2.2.1 bt240.2.2.2.2.2.2).bind fun bt257 => ((laws_toRun.f k a0_0 l0_1 l0_2 l0_3 l0_4 l0_5 a0_6).bind fun bt261 => ((impl_ThreadsOf.f k bt261.1 bt261.2.1 bt261.2.2.1 bt261.2.2.2.1 bt261.2.2.2.2.1 bt261.2.2.2.2.2.1 bt261.2.2.2.2.2.2).bind fun bt279 => ((laws_eqIntS.f k bt279.1 bt257.1).bind fun t283 => (if t283 = true then (laws_FnExactThreadsOf.j0 k bt257.1 bt257.2 bt279.1 bt279.2 (bt279.2 != bt257.2) a0_0 l0_1 l0_2 l0_3 l0_4 l0_5 a0_6 bt261.1 bt261.2.1 bt261.2.2.1 bt261.2.2.2.1 bt261.2.2.2.2.1 bt261.2.2.2.2.2.1 bt261.2.2.2.2.2.2) else (laws_FnExactThreadsOf.j0 k bt257.1 bt257.2 bt279.1 bt279.2 true a0_0 l0_1 l0_2 l0_3 l0_4 l0_5 a0_6 bt261.1 bt261.2.1 bt261.2.2.1 bt261.2.2.2.1 bt261.2.2.2.2.1 bt261.2.2.2.2.2.1 bt261.2.2.2.2.2.2)))))))) = some r := H
 have A2 := Aside0.mk A20
 clear A20
 by_cases c3 : t239 < 0
 ·rw [if_pos c3] at H
  have c3b0 : decide (t239 < 0) = true := decide_eq_true c3
  clear c3
  obtain rfl := Option.some.inj H
  go_enter Try.func9, Try.ntmps9
  go_wp2_with (first | ((with_reducible refine gate_dst (N := 1) rfl ?_); refine box_event ?hg (N := 1) ?hd (cs := #[.int .i64 a0_0, .slice A0_1 l0_1.length c0_1, .slice A0_2 l0_2.length c0_2, .slice A0_3 l0_3.length c0_3, .slice A0_4 l0_4.length c0_4, .slice A0_5 l0_5.length c0_5, .int .i64 a0_6]) (t := 73) ?hr ?_; (case hd => rfl); (case hg => rfl); (case hr => first | (go_simp; done) | (go_simp; rfl)); intro gb238 hg w4 hbox hb; have n0_ := Aside0.mk (below_step (by repeat (first | (with_reducible first|exact HB.out|apply vA_|apply vN_|apply vD_) | exact HB.out)) hb); have n1_ := Aside0.mk (hbox); have n2_ := Aside0.mk ((by rw [hg]; exact (below_size (by repeat (first | (with_reducible first|exact HB.out|apply vA_|apply vN_|apply vD_) | exact HB.out))) : w.heap.size ≤ gb238)); have n3_ := Aside0.mk ((by rw [hg]; exact (below_size (by repeat (first | (with_reducible first|exact HB.out|apply vA_|apply vN_|apply vD_) | exact HB.out))) : w.heap.size ≤ gb238)); clear HB; have HB := n0_; have BK238 := n1_; have GW238 := n2_; have GE238 := n3_; clear n0_ n1_ n2_ n3_; clear hb hbox hg; have hcz5_0 : w4.cell? ⟨gb238, 0, none⟩ = some (.int .i64 a0_0) := (blk_cell BK238.out 0).trans rfl; have hcz5_1 : w4.cell? ⟨gb238, 1, none⟩ = some (.slice A0_1 l0_1.length c0_1) := (blk_cell BK238.out 1).trans rfl; have hcz5_2 : w4.cell? ⟨gb238, 2, none⟩ = some (.slice A0_2 l0_2.length c0_2) := (blk_cell BK238.out 2).trans rfl; have hcz5_3 : w4.cell? ⟨gb238, 3, none⟩ = some (.slice A0_3 l0_3.length c0_3) := (blk_cell BK238.out 3).trans rfl; have hcz5_4 : w4.cell? ⟨gb238, 4, none⟩ = some (.slice A0_4 l0_4.length c0_4) := (blk_cell BK238.out 4).trans rfl; have hcz5_5 : w4.cell? ⟨gb238, 5, none⟩ = some (.slice A0_5 l0_5.length c0_5) := (blk_cell BK238.out 5).trans rfl; have hcz5_6 : w4.cell? ⟨gb238, 6, none⟩ = some (.int .i64 a0_6) := (blk_cell BK238.out 6).trans rfl; have hfz5_0 := blk_frozen BK238.out 0; have hfz5_1 := blk_frozen BK238.out 1; have hfz5_2 := blk_frozen BK238.out 2; have hfz5_3 := blk_frozen BK238.out 3; have hfz5_4 := blk_frozen BK238.out 4; have hfz5_5 := blk_frozen BK238.out 5; have hfz5_6 := blk_frozen BK238.out 6) | ((with_reducible refine gate_callee (f := 45) rfl ?_); refine goesL_ (some 16) rfl rfl Try.func45 (by kernel_rfl) rfl #[.agg #[.int .i64 a0_0, .slice A0_1 l0_1.length c0_1, .slice A0_2 l0_2.length c0_2, .slice A0_3 l0_3.length c0_3, .slice A0_4 l0_4.length c0_4, .slice A0_5 l0_5.length c0_5, .int .i64 a0_6], .int .i64 1048576] rfl (by (try simp only [List.map_toArray, List.map_cons, List.map_nil]); first | done | rfl | (simp only [List.length_drop, List.length_take]; rfl)) ?_; (with_reducible refine (laws_szRun.calls k a0_0 _ _ l0_1 _ _ l0_2 _ _ l0_3 _ _ l0_4 _ _ l0_5 a0_6 1048576 t239 _ ?side1 ?side2 ?side3 ?side4 ?side5 ?side6 ?side7 ?side8 ?side9 ?side10 A2.out).mono ?_); (case side1 => repeat (first | exact (Kd.C_below HR0_1.out HB.out) | with_reducible apply cA_|with_reducible apply cN_|with_reducible apply cD_)); (case side2 => exact HC0_1.out); (case side3 => repeat (first | exact (Kd.C_below HR0_2.out HB.out) | with_reducible apply cA_|with_reducible apply cN_|with_reducible apply cD_)); (case side4 => exact HC0_2.out); (case side5 => repeat (first | exact (Kd.C_below HR0_3.out HB.out) | with_reducible apply cA_|with_reducible apply cN_|with_reducible apply cD_)); (case side6 => exact HC0_3.out); (case side7 => repeat (first | exact (Kd.C_below HR0_4.out HB.out) | with_reducible apply cA_|with_reducible apply cN_|with_reducible apply cD_)); (case side8 => exact HC0_4.out); (case side9 => repeat (first | exact (Kd.C_below HR0_5.out HB.out) | with_reducible apply cA_|with_reducible apply cN_|with_reducible apply cD_)); (case side10 => exact HC0_5.out); rintro e w6 ⟨rfl, hb⟩; refine ⟨_, rfl, ?_⟩; have n0_ := Aside0.mk (blk_below (by (with_reducible repeat first|apply qN_|apply qD_|apply qA_); exact BK238.out) hb); have n1_ := Aside0.mk (below_step (by repeat (first | (with_reducible first|exact HB.out|apply vA_|apply vN_|apply vD_ | refine vS_ ?_ GE238.out) | exact HB.out)) hb); clear BK238; clear HB; have BK238 := n0_; have HB := n1_; clear n0_ n1_; (try clear hb); (try clear hb2); (try clear hk); (try clear hi)))
  go_ret
  exact ⟨by first | rfl | (simp [errW_none, errW_some] <;> rfl) | (simp [*, errW_none, errW_some] <;> rfl), by repeat (first | (with_reducible first|exact HB.out|apply vA_|apply vN_|apply vD_ | refine vS_ ?_ GE238.out) | exact HB.out)⟩
 ·rw [if_neg c3] at H
  have c3b0 : decide (t239 < 0) = false := decide_eq_false c3
  clear c3
  replace H := Option.bind_eq_some_iff.mp H
  obtain ⟨⟨t240, t241, t244, t247, t250, t253, t256⟩, A70, H⟩ := H
  replace H : ((spec_ThreadsOf.f k t240 t241 t244 t247 t250 t253 t256).bind fun bt257 => ((laws_toRun.f k a0_0 l0_1 l0_2 l0_3 l0_4 l0_5 a0_6).bind fun bt261 => ((impl_ThreadsOf.f k bt261.1 bt261.2.1 bt261.2.2.1 bt261.2.2.2.1 bt261.2.2.2.2.1 bt261.2.2.2.2.2.1 bt261.2.2.2.2.2.2).bind fun bt279 => ((laws_eqIntS.f k bt279.1 bt257.1).bind fun t283 => (if t283 = true then (laws_FnExactThreadsOf.j0 k bt257.1 bt257.2 bt279.1 bt279.2 (bt279.2 != bt257.2) a0_0 l0_1 l0_2 l0_3 l0_4 l0_5 a0_6 bt261.1 bt261.2.1 bt261.2.2.1 bt261.2.2.2.1 bt261.2.2.2.2.1 bt261.2.2.2.2.2.1 bt261.2.2.2.2.2.2) else (laws_FnExactThreadsOf.j0 k bt257.1 bt257.2 bt279.1 bt279.2 true a0_0 l0_1 l0_2 l0_3 l0_4 l0_5 a0_6 bt261.1 bt261.2.1 bt261.2.2.1 bt261.2.2.2.1 bt261.2.2.2.2.1 bt261.2.2.2.2.2.1 bt261.2.2.2.2.2.2)))))) = some r := H
  have A7 := Aside0.mk A70
  clear A70
  replace H := Option.bind_eq_some_iff.mp H
  obtain ⟨⟨t257, t260⟩, A80, H⟩ := H
  replace H : ((laws_toRun.f k a0_0 l0_1 l0_2 l0_3 l0_4 l0_5 a0_6).bind fun bt261 => ((impl_ThreadsOf.f k bt261.1 bt261.2.1 bt261.2.2.1 bt261.2.2.2.1 bt261.2.2.2.2.1 bt261.2.2.2.2.2.1 bt261.2.2.2.2.2.2).bind fun bt279 => ((laws_eqIntS.f k bt279.1 t257).bind fun t283 => (if t283 = true then (laws_FnExactThreadsOf.j0 k t257 t260 bt279.1 bt279.2 (bt279.2 != t260) a0_0 l0_1 l0_2 l0_3 l0_4 l0_5 a0_6 bt261.1 bt261.2.1 bt261.2.2.1 bt261.2.2.2.1 bt261.2.2.2.2.1 bt261.2.2.2.2.2.1 bt261.2.2.2.2.2.2) else (laws_FnExactThreadsOf.j0 k t257 t260 bt279.1 bt279.2 true a0_0 l0_1 l0_2 l0_3 l0_4 l0_5 a0_6 bt261.1 bt261.2.1 bt261.2.2.1 bt261.2.2.2.1 bt261.2.2.2.2.1 bt261.2.2.2.2.2.1 bt261.2.2.2.2.2.2))))) = some r := H
  have A8 := Aside0.mk A80
  clear A80
  replace H := Option.bind_eq_some_iff.mp H
  obtain ⟨⟨t261, t262, t265, t268, t271, t274, t277⟩, A90, H⟩ := H
  replace H : ((impl_ThreadsOf.f k t261 t262 t265 t268 t271 t274 t277).bind fun bt279 => ((laws_eqIntS.f k bt279.1 t257).bind fun t283 => (if t283 = true then (laws_FnExactThreadsOf.j0 k t257 t260 bt279.1 bt279.2 (bt279.2 != t260) a0_0 l0_1 l0_2 l0_3 l0_4 l0_5 a0_6 t261 t262 t265 t268 t271 t274 t277) else (laws_FnExactThreadsOf.j0 k t257 t260 bt279.1 bt279.2 true a0_0 l0_1 l0_2 l0_3 l0_4 l0_5 a0_6 t261 t262 t265 t268 t271 t274 t277)))) = some r := H
  have A9 := Aside0.mk A90
  clear A90
  replace H := Option.bind_eq_some_iff.mp H
  obtain ⟨⟨t279, t282⟩, A100, H⟩ := H
  replace H : ((laws_eqIntS.f k t279 t257).bind fun t283 => (if t283 = true then (laws_FnExactThreadsOf.j0 k t257 t260 t279 t282 (t282 != t260) a0_0 l0_1 l0_2 l0_3 l0_4 l0_5 a0_6 t261 t262 t265 t268 t271 t274 t277) else (laws_FnExactThreadsOf.j0 k t257 t260 t279 t282 true a0_0 l0_1 l0_2 l0_3 l0_4 l0_5 a0_6 t261 t262 t265 t268 t271 t274 t277))) = some r := H
  have A10 := Aside0.mk A100
  clear A100
  have HC11 := Aside0.mk H
  clear H
  go_enter Try.func9, Try.ntmps9
  go_upto_region 8 with (first | ((with_reducible refine gate_dst (N := 1) rfl ?_); refine box_event ?hg (N := 1) ?hd (cs := #[.int .i64 a0_0, .slice A0_1 l0_1.length c0_1, .slice A0_2 l0_2.length c0_2, .slice A0_3 l0_3.length c0_3, .slice A0_4 l0_4.length c0_4, .slice A0_5 l0_5.length c0_5, .int .i64 a0_6]) (t := 73) ?hr ?_; (case hd => rfl); (case hg => rfl); (case hr => first | (go_simp; done) | (go_simp; rfl)); intro gb238 hg w12 hbox hb; have n0_ := Aside0.mk (below_step (by repeat (first | (with_reducible first|exact HB.out|apply vA_|apply vN_|apply vD_) | exact HB.out)) hb); have n1_ := Aside0.mk (hbox); have n2_ := Aside0.mk ((by rw [hg]; exact (below_size (by repeat (first | (with_reducible first|exact HB.out|apply vA_|apply vN_|apply vD_) | exact HB.out))) : w.heap.size ≤ gb238)); have n3_ := Aside0.mk ((by rw [hg]; exact (below_size (by repeat (first | (with_reducible first|exact HB.out|apply vA_|apply vN_|apply vD_) | exact HB.out))) : w.heap.size ≤ gb238)); clear HB; have HB := n0_; have BK238 := n1_; have GW238 := n2_; have GE238 := n3_; clear n0_ n1_ n2_ n3_; clear hb hbox hg; have hcz13_0 : w12.cell? ⟨gb238, 0, none⟩ = some (.int .i64 a0_0) := (blk_cell BK238.out 0).trans rfl; have hcz13_1 : w12.cell? ⟨gb238, 1, none⟩ = some (.slice A0_1 l0_1.length c0_1) := (blk_cell BK238.out 1).trans rfl; have hcz13_2 : w12.cell? ⟨gb238, 2, none⟩ = some (.slice A0_2 l0_2.length c0_2) := (blk_cell BK238.out 2).trans rfl; have hcz13_3 : w12.cell? ⟨gb238, 3, none⟩ = some (.slice A0_3 l0_3.length c0_3) := (blk_cell BK238.out 3).trans rfl; have hcz13_4 : w12.cell? ⟨gb238, 4, none⟩ = some (.slice A0_4 l0_4.length c0_4) := (blk_cell BK238.out 4).trans rfl; have hcz13_5 : w12.cell? ⟨gb238, 5, none⟩ = some (.slice A0_5 l0_5.length c0_5) := (blk_cell BK238.out 5).trans rfl; have hcz13_6 : w12.cell? ⟨gb238, 6, none⟩ = some (.int .i64 a0_6) := (blk_cell BK238.out 6).trans rfl; have hfz13_0 := blk_frozen BK238.out 0; have hfz13_1 := blk_frozen BK238.out 1; have hfz13_2 := blk_frozen BK238.out 2; have hfz13_3 := blk_frozen BK238.out 3; have hfz13_4 := blk_frozen BK238.out 4; have hfz13_5 := blk_frozen BK238.out 5; have hfz13_6 := blk_frozen BK238.out 6) | ((with_reducible refine gate_callee (f := 45) rfl ?_); refine goesL_ (some 16) rfl rfl Try.func45 (by kernel_rfl) rfl #[.agg #[.int .i64 a0_0, .slice A0_1 l0_1.length c0_1, .slice A0_2 l0_2.length c0_2, .slice A0_3 l0_3.length c0_3, .slice A0_4 l0_4.length c0_4, .slice A0_5 l0_5.length c0_5, .int .i64 a0_6], .int .i64 1048576] rfl (by (try simp only [List.map_toArray, List.map_cons, List.map_nil]); first | done | rfl | (simp only [List.length_drop, List.length_take]; rfl)) ?_; (with_reducible refine (laws_szRun.calls k a0_0 _ _ l0_1 _ _ l0_2 _ _ l0_3 _ _ l0_4 _ _ l0_5 a0_6 1048576 t239 _ ?side1 ?side2 ?side3 ?side4 ?side5 ?side6 ?side7 ?side8 ?side9 ?side10 A2.out).mono ?_); (case side1 => repeat (first | exact (Kd.C_below HR0_1.out HB.out) | with_reducible apply cA_|with_reducible apply cN_|with_reducible apply cD_)); (case side2 => exact HC0_1.out); (case side3 => repeat (first | exact (Kd.C_below HR0_2.out HB.out) | with_reducible apply cA_|with_reducible apply cN_|with_reducible apply cD_)); (case side4 => exact HC0_2.out); (case side5 => repeat (first | exact (Kd.C_below HR0_3.out HB.out) | with_reducible apply cA_|with_reducible apply cN_|with_reducible apply cD_)); (case side6 => exact HC0_3.out); (case side7 => repeat (first | exact (Kd.C_below HR0_4.out HB.out) | with_reducible apply cA_|with_reducible apply cN_|with_reducible apply cD_)); (case side8 => exact HC0_4.out); (case side9 => repeat (first | exact (Kd.C_below HR0_5.out HB.out) | with_reducible apply cA_|with_reducible apply cN_|with_reducible apply cD_)); (case side10 => exact HC0_5.out); rintro e w14 ⟨rfl, hb⟩; refine ⟨_, rfl, ?_⟩; have n0_ := Aside0.mk (blk_below (by (with_reducible repeat first|apply qN_|apply qD_|apply qA_); exact BK238.out) hb); have n1_ := Aside0.mk (below_step (by repeat (first | (with_reducible first|exact HB.out|apply vA_|apply vN_|apply vD_ | refine vS_ ?_ GE238.out) | exact HB.out)) hb); clear BK238; clear HB; have BK238 := n0_; have HB := n1_; clear n0_ n1_; (try clear hb); (try clear hb2); (try clear hk); (try clear hi); have hcz15_0 : w14.cell? ⟨gb238, 0, none⟩ = some (.int .i64 a0_0) := (blk_cell BK238.out 0).trans rfl; have hcz15_1 : w14.cell? ⟨gb238, 1, none⟩ = some (.slice A0_1 l0_1.length c0_1) := (blk_cell BK238.out 1).trans rfl; have hcz15_2 : w14.cell? ⟨gb238, 2, none⟩ = some (.slice A0_2 l0_2.length c0_2) := (blk_cell BK238.out 2).trans rfl; have hcz15_3 : w14.cell? ⟨gb238, 3, none⟩ = some (.slice A0_3 l0_3.length c0_3) := (blk_cell BK238.out 3).trans rfl; have hcz15_4 : w14.cell? ⟨gb238, 4, none⟩ = some (.slice A0_4 l0_4.length c0_4) := (blk_cell BK238.out 4).trans rfl; have hcz15_5 : w14.cell? ⟨gb238, 5, none⟩ = some (.slice A0_5 l0_5.length c0_5) := (blk_cell BK238.out 5).trans rfl; have hcz15_6 : w14.cell? ⟨gb238, 6, none⟩ = some (.int .i64 a0_6) := (blk_cell BK238.out 6).trans rfl; have hfz15_0 := blk_frozen BK238.out 0; have hfz15_1 := blk_frozen BK238.out 1; have hfz15_2 := blk_frozen BK238.out 2; have hfz15_3 := blk_frozen BK238.out 3; have hfz15_4 := blk_frozen BK238.out 4; have hfz15_5 := blk_frozen BK238.out 5; have hfz15_6 := blk_frozen BK238.out 6) | ((with_reducible refine gate_callee (f := 47) rfl ?_); refine goesL_ (some 21) rfl rfl Try.func47 (by kernel_rfl) rfl #[.agg #[.int .i64 a0_0, .slice A0_1 l0_1.length c0_1, .slice A0_2 l0_2.length c0_2, .slice A0_3 l0_3.length c0_3, .slice A0_4 l0_4.length c0_4, .slice A0_5 l0_5.length c0_5, .int .i64 a0_6]] rfl (by (try simp only [List.map_toArray, List.map_cons, List.map_nil]); first | done | rfl | (simp only [List.length_drop, List.length_take]; rfl)) ?_; (with_reducible refine (laws_toRun.calls k a0_0 _ _ l0_1 _ _ l0_2 _ _ l0_3 _ _ l0_4 _ _ l0_5 a0_6 t240 t241 t244 t247 t250 t253 t256 _ ?side1 ?side2 ?side3 ?side4 ?side5 ?side6 ?side7 ?side8 ?side9 ?side10 A7.out).mono ?_); (case side1 => repeat (first | exact (Kd.C_below HR0_1.out HB.out) | with_reducible apply cA_|with_reducible apply cN_|with_reducible apply cD_)); (case side2 => exact HC0_1.out); (case side3 => repeat (first | exact (Kd.C_below HR0_2.out HB.out) | with_reducible apply cA_|with_reducible apply cN_|with_reducible apply cD_)); (case side4 => exact HC0_2.out); (case side5 => repeat (first | exact (Kd.C_below HR0_3.out HB.out) | with_reducible apply cA_|with_reducible apply cN_|with_reducible apply cD_)); (case side6 => exact HC0_3.out); (case side7 => repeat (first | exact (Kd.C_below HR0_4.out HB.out) | with_reducible apply cA_|with_reducible apply cN_|with_reducible apply cD_)); (case side8 => exact HC0_4.out); (case side9 => repeat (first | exact (Kd.C_below HR0_5.out HB.out) | with_reducible apply cA_|with_reducible apply cN_|with_reducible apply cD_)); (case side10 => exact HC0_5.out); rintro e w16 ⟨v242, v245, v248, v251, v254, rfl, ho0, ho1, ho2, ho3, ho4, hb⟩; refine ⟨_, rfl, ?_⟩; have n0_ := Aside0.mk (Kd.R_lower ho0 (below_size (by repeat (first | (with_reducible first|exact HB.out|apply vA_|apply vN_|apply vD_ | refine vS_ ?_ GE238.out) | exact HB.out)))); have n1_ := Aside0.mk (Kd.R_lower ho1 (below_size (by repeat (first | (with_reducible first|exact HB.out|apply vA_|apply vN_|apply vD_ | refine vS_ ?_ GE238.out) | exact HB.out)))); have n2_ := Aside0.mk (Kd.S_lower ho2 (below_size (by repeat (first | (with_reducible first|exact HB.out|apply vA_|apply vN_|apply vD_ | refine vS_ ?_ GE238.out) | exact HB.out)))); have n3_ := Aside0.mk (Kd.R_lower ho3 (below_size (by repeat (first | (with_reducible first|exact HB.out|apply vA_|apply vN_|apply vD_ | refine vS_ ?_ GE238.out) | exact HB.out)))); have n4_ := Aside0.mk (Kd.R_lower ho4 (below_size (by repeat (first | (with_reducible first|exact HB.out|apply vA_|apply vN_|apply vD_ | refine vS_ ?_ GE238.out) | exact HB.out)))); have n5_ := Aside0.mk (blk_below (by (with_reducible repeat first|apply qN_|apply qD_|apply qA_); exact BK238.out) hb); have n6_ := Aside0.mk (below_step (by repeat (first | (with_reducible first|exact HB.out|apply vA_|apply vN_|apply vD_ | refine vS_ ?_ GE238.out) | exact HB.out)) hb); clear BK238; clear HB; have HO243 := n0_; have HO246 := n1_; have HO249 := n2_; have HO252 := n3_; have HO255 := n4_; have BK238 := n5_; have HB := n6_; clear n0_ n1_ n2_ n3_ n4_ n5_ n6_; (try clear hb); (try clear hb2); (try clear hk); (try clear hi); (try clear ho0); (try clear ho1); (try clear ho2); (try clear ho3); (try clear ho4); obtain ⟨Ao17, co17, eo17⟩ := Kd.R_slice HO243.out; subst eo17; obtain ⟨Ao18, co18, eo18⟩ := Kd.R_slice HO246.out; subst eo18; obtain ⟨Ao19, co19, eo19⟩ := Kd.S_slice HO249.out; subst eo19; obtain ⟨Ao20, co20, eo20⟩ := Kd.R_slice HO252.out; subst eo20; obtain ⟨Ao21, co21, eo21⟩ := Kd.R_slice HO255.out; subst eo21) | ((with_reducible refine gate_callee (f := 46) rfl ?_); refine goesL_ (some 22) rfl rfl Try.func46 (by kernel_rfl) rfl #[.agg #[.int .i64 t240, .slice Ao17 t241.length co17, .slice Ao18 t244.length co18, .slice Ao19 t247.length co19, .slice Ao20 t250.length co20, .slice Ao21 t253.length co21, .int .i64 t256]] rfl (by (try simp only [List.map_toArray, List.map_cons, List.map_nil]); first | done | rfl | (simp only [List.length_drop, List.length_take]; rfl)) ?_; (with_reducible refine (spec_ThreadsOf.calls k t240 _ _ t241 _ _ t244 _ _ t247 _ _ t250 _ _ t253 t256 t257 t260 _ ?side1 ?side2 ?side3 ?side4 ?side5 ?side6 ?side7 ?side8 ?side9 ?side10 A8.out).mono ?_); (case side1 => repeat (first | exact (Kd.R_reads' HO243.out).2.2 | with_reducible apply cA_|with_reducible apply cN_|with_reducible apply cD_)); (case side2 => exact (Kd.R_reads' HO243.out).2.1); (case side3 => repeat (first | exact (Kd.R_reads' HO246.out).2.2 | with_reducible apply cA_|with_reducible apply cN_|with_reducible apply cD_)); (case side4 => exact (Kd.R_reads' HO246.out).2.1); (case side5 => repeat (first | exact (Kd.S_reads' HO249.out).2.2 | with_reducible apply cA_|with_reducible apply cN_|with_reducible apply cD_)); (case side6 => exact (Kd.S_reads' HO249.out).2.1); (case side7 => repeat (first | exact (Kd.R_reads' HO252.out).2.2 | with_reducible apply cA_|with_reducible apply cN_|with_reducible apply cD_)); (case side8 => exact (Kd.R_reads' HO252.out).2.1); (case side9 => repeat (first | exact (Kd.R_reads' HO255.out).2.2 | with_reducible apply cA_|with_reducible apply cN_|with_reducible apply cD_)); (case side10 => exact (Kd.R_reads' HO255.out).2.1); rintro e w22 ⟨v258, rfl, ho0, hb⟩; refine ⟨_, rfl, ?_⟩; have n0_ := Aside0.mk (Kd.R_below (by (with_reducible repeat first|apply rA_|apply rN_|apply rD_); exact HO243.out) hb); have n1_ := Aside0.mk (Kd.R_elder' (by (with_reducible repeat first|apply rA_|apply rN_|apply rD_); exact HO246.out) (by first | exact Kd.R_base ho0 | exact Kd.S_base ho0 | exact Kd.R_base ho0) hb); have n2_ := Aside0.mk (Kd.S_below (by (with_reducible repeat first|apply sA_|apply sN_|apply sD_); exact HO249.out) hb); have n3_ := Aside0.mk (Kd.R_below (by (with_reducible repeat first|apply rA_|apply rN_|apply rD_); exact HO252.out) hb); have n4_ := Aside0.mk (Kd.R_elder' (by (with_reducible repeat first|apply rA_|apply rN_|apply rD_); exact HO255.out) (by first | exact Kd.R_base ho0 | exact Kd.S_base ho0 | exact Kd.R_base ho0) hb); have n5_ := Aside0.mk (Kd.R_lower (Kd.R_new' (Kd.R_new' ho0 (Kd.R_lt (by (with_reducible repeat first|apply rA_|apply rN_|apply rD_); exact HO246.out))) (Kd.R_lt (by (with_reducible repeat first|apply rA_|apply rN_|apply rD_); exact HO255.out))) (below_size (by repeat (first | (with_reducible first|exact HB.out|apply vA_|apply vN_|apply vD_ | refine vS_ ?_ GE238.out) | exact HB.out)))); have n6_ := Aside0.mk (blk_below (by (with_reducible repeat first|apply qN_|apply qD_|apply qA_); exact BK238.out) hb); have n7_ := Aside0.mk (below_step (by repeat (first | (with_reducible first|exact HB.out|apply vA_|apply vN_|apply vD_ | refine vS_ ?_ GE238.out) | exact HB.out)) hb); clear HO243; clear HO246; clear HO249; clear HO252; clear HO255; clear BK238; clear HB; have HO243 := n0_; have HO246 := n1_; have HO249 := n2_; have HO252 := n3_; have HO255 := n4_; have HO259 := n5_; have BK238 := n6_; have HB := n7_; clear n0_ n1_ n2_ n3_ n4_ n5_ n6_ n7_; (try clear hb); (try clear hb2); (try clear hk); (try clear hi); (try clear ho0); have hcz23_0 : w22.cell? ⟨gb238, 0, none⟩ = some (.int .i64 a0_0) := (blk_cell BK238.out 0).trans rfl; have hcz23_1 : w22.cell? ⟨gb238, 1, none⟩ = some (.slice A0_1 l0_1.length c0_1) := (blk_cell BK238.out 1).trans rfl; have hcz23_2 : w22.cell? ⟨gb238, 2, none⟩ = some (.slice A0_2 l0_2.length c0_2) := (blk_cell BK238.out 2).trans rfl; have hcz23_3 : w22.cell? ⟨gb238, 3, none⟩ = some (.slice A0_3 l0_3.length c0_3) := (blk_cell BK238.out 3).trans rfl; have hcz23_4 : w22.cell? ⟨gb238, 4, none⟩ = some (.slice A0_4 l0_4.length c0_4) := (blk_cell BK238.out 4).trans rfl; have hcz23_5 : w22.cell? ⟨gb238, 5, none⟩ = some (.slice A0_5 l0_5.length c0_5) := (blk_cell BK238.out 5).trans rfl; have hcz23_6 : w22.cell? ⟨gb238, 6, none⟩ = some (.int .i64 a0_6) := (blk_cell BK238.out 6).trans rfl; have hfz23_0 := blk_frozen BK238.out 0; have hfz23_1 := blk_frozen BK238.out 1; have hfz23_2 := blk_frozen BK238.out 2; have hfz23_3 := blk_frozen BK238.out 3; have hfz23_4 := blk_frozen BK238.out 4; have hfz23_5 := blk_frozen BK238.out 5; have hfz23_6 := blk_frozen BK238.out 6) | ((with_reducible refine gate_callee (f := 47) rfl ?_); refine goesL_ (some 26) rfl rfl Try.func47 (by kernel_rfl) rfl #[.agg #[.int .i64 a0_0, .slice A0_1 l0_1.length c0_1, .slice A0_2 l0_2.length c0_2, .slice A0_3 l0_3.length c0_3, .slice A0_4 l0_4.length c0_4, .slice A0_5 l0_5.length c0_5, .int .i64 a0_6]] rfl (by (try simp only [List.map_toArray, List.map_cons, List.map_nil]); first | done | rfl | (simp only [List.length_drop, List.length_take]; rfl)) ?_; (with_reducible refine (laws_toRun.calls k a0_0 _ _ l0_1 _ _ l0_2 _ _ l0_3 _ _ l0_4 _ _ l0_5 a0_6 t261 t262 t265 t268 t271 t274 t277 _ ?side1 ?side2 ?side3 ?side4 ?side5 ?side6 ?side7 ?side8 ?side9 ?side10 A9.out).mono ?_); (case side1 => repeat (first | exact (Kd.C_below HR0_1.out HB.out) | with_reducible apply cA_|with_reducible apply cN_|with_reducible apply cD_)); (case side2 => exact HC0_1.out); (case side3 => repeat (first | exact (Kd.C_below HR0_2.out HB.out) | with_reducible apply cA_|with_reducible apply cN_|with_reducible apply cD_)); (case side4 => exact HC0_2.out); (case side5 => repeat (first | exact (Kd.C_below HR0_3.out HB.out) | with_reducible apply cA_|with_reducible apply cN_|with_reducible apply cD_)); (case side6 => exact HC0_3.out); (case side7 => repeat (first | exact (Kd.C_below HR0_4.out HB.out) | with_reducible apply cA_|with_reducible apply cN_|with_reducible apply cD_)); (case side8 => exact HC0_4.out); (case side9 => repeat (first | exact (Kd.C_below HR0_5.out HB.out) | with_reducible apply cA_|with_reducible apply cN_|with_reducible apply cD_)); (case side10 => exact HC0_5.out); rintro e w24 ⟨v263, v266, v269, v272, v275, rfl, ho0, ho1, ho2, ho3, ho4, hb⟩; refine ⟨_, rfl, ?_⟩; have n0_ := Aside0.mk (Kd.R_elder' (by (with_reducible repeat first|apply rA_|apply rN_|apply rD_); exact HO243.out) (by first | exact Kd.R_base ho0 | exact Kd.S_base ho0 | exact Kd.R_base ho0) hb); have n1_ := Aside0.mk (Kd.R_mono (Kd.R_told (Kd.R_told (Kd.R_old (by (with_reducible repeat first|apply rA_|apply rN_|apply rD_); exact HO246.out) hb) (by first | exact Kd.R_base ho1 | exact Kd.S_base ho1 | exact Kd.R_base ho1)) (by first | exact Kd.R_base ho4 | exact Kd.S_base ho4 | exact Kd.R_base ho4)) (fun _ h_ => h_.1)); have n2_ := Aside0.mk (Kd.S_mono (Kd.S_told (Kd.S_told (Kd.S_old (by (with_reducible repeat first|apply sA_|apply sN_|apply sD_); exact HO249.out) hb) (by first | exact Kd.S_base ho2 | exact Kd.R_base ho2)) (by first | exact Kd.R_base ho3 | exact Kd.S_base ho3 | exact Kd.R_base ho3)) (fun _ h_ => h_.1)); have n3_ := Aside0.mk (Kd.R_elder' (by (with_reducible repeat first|apply rA_|apply rN_|apply rD_); exact HO252.out) (by first | exact Kd.R_base ho3 | exact Kd.S_base ho3 | exact Kd.R_base ho3) hb); have n4_ := Aside0.mk (Kd.R_mono (Kd.R_told (Kd.R_told (Kd.R_old (by (with_reducible repeat first|apply rA_|apply rN_|apply rD_); exact HO255.out) hb) (by first | exact Kd.R_base ho1 | exact Kd.S_base ho1 | exact Kd.R_base ho1)) (by first | exact Kd.R_base ho4 | exact Kd.S_base ho4 | exact Kd.R_base ho4)) (fun _ h_ => h_.1)); have n5_ := Aside0.mk (Kd.R_mono (Kd.R_told (Kd.R_told (Kd.R_old (by (with_reducible repeat first|apply rA_|apply rN_|apply rD_); exact HO259.out) hb) (by first | exact Kd.R_base ho1 | exact Kd.S_base ho1 | exact Kd.R_base ho1)) (by first | exact Kd.R_base ho4 | exact Kd.S_base ho4 | exact Kd.R_base ho4)) (fun _ h_ => h_.1)); have n6_ := Aside0.mk (Kd.R_lower (Kd.R_new' ho0 (Kd.R_lt (by (with_reducible repeat first|apply rA_|apply rN_|apply rD_); exact HO243.out))) (below_size (by repeat (first | (with_reducible first|exact HB.out|apply vA_|apply vN_|apply vD_ | refine vS_ ?_ GE238.out) | exact HB.out)))); have n7_ := Aside0.mk (Kd.R_lower (Kd.R_new' (Kd.R_new' (Kd.R_new' ho1 (Kd.R_lt (by (with_reducible repeat first|apply rA_|apply rN_|apply rD_); exact HO246.out))) (Kd.R_lt (by (with_reducible repeat first|apply rA_|apply rN_|apply rD_); exact HO255.out))) (Kd.R_lt (by (with_reducible repeat first|apply rA_|apply rN_|apply rD_); exact HO259.out))) (below_size (by repeat (first | (with_reducible first|exact HB.out|apply vA_|apply vN_|apply vD_ | refine vS_ ?_ GE238.out) | exact HB.out)))); have n8_ := Aside0.mk (Kd.S_lower (Kd.S_new' (Kd.S_new' ho2 (Kd.S_lt (by (with_reducible repeat first|apply sA_|apply sN_|apply sD_); exact HO249.out))) (Kd.R_lt (by (with_reducible repeat first|apply rA_|apply rN_|apply rD_); exact HO252.out))) (below_size (by repeat (first | (with_reducible first|exact HB.out|apply vA_|apply vN_|apply vD_ | refine vS_ ?_ GE238.out) | exact HB.out)))); have n9_ := Aside0.mk (Kd.R_lower (Kd.R_new' ho3 (Kd.R_lt (by (with_reducible repeat first|apply rA_|apply rN_|apply rD_); exact HO252.out))) (below_size (by repeat (first | (with_reducible first|exact HB.out|apply vA_|apply vN_|apply vD_ | refine vS_ ?_ GE238.out) | exact HB.out)))); have n10_ := Aside0.mk (Kd.R_lower (Kd.R_new' (Kd.R_new' (Kd.R_new' ho4 (Kd.R_lt (by (with_reducible repeat first|apply rA_|apply rN_|apply rD_); exact HO246.out))) (Kd.R_lt (by (with_reducible repeat first|apply rA_|apply rN_|apply rD_); exact HO255.out))) (Kd.R_lt (by (with_reducible repeat first|apply rA_|apply rN_|apply rD_); exact HO259.out))) (below_size (by repeat (first | (with_reducible first|exact HB.out|apply vA_|apply vN_|apply vD_ | refine vS_ ?_ GE238.out) | exact HB.out)))); have n11_ := Aside0.mk (blk_below (by (with_reducible repeat first|apply qN_|apply qD_|apply qA_); exact BK238.out) hb); have n12_ := Aside0.mk (below_step (by repeat (first | (with_reducible first|exact HB.out|apply vA_|apply vN_|apply vD_ | refine vS_ ?_ GE238.out) | exact HB.out)) hb); clear HO243; clear HO246; clear HO249; clear HO252; clear HO255; clear HO259; clear BK238; clear HB; have HO243 := n0_; have HO246 := n1_; have HO249 := n2_; have HO252 := n3_; have HO255 := n4_; have HO259 := n5_; have HO264 := n6_; have HO267 := n7_; have HO270 := n8_; have HO273 := n9_; have HO276 := n10_; have BK238 := n11_; have HB := n12_; clear n0_ n1_ n2_ n3_ n4_ n5_ n6_ n7_ n8_ n9_ n10_ n11_ n12_; (try clear hb); (try clear hb2); (try clear hk); (try clear hi); (try clear ho0); (try clear ho1); (try clear ho2); (try clear ho3); (try clear ho4)) | ((with_reducible refine gate_dst (N := 6) rfl ?_); refine box_event ?hg (N := 6) ?hd (cs := #[.int .i64 0, .slice none 0 0, .slice none 0 0, .slice none 0 0, .slice none 0 0, .slice none 0 0, .int .i64 0]) (t := 80) ?hr ?_; (case hd => rfl); (case hg => rfl); (case hr => first | (go_simp; done) | (go_simp; rfl)); intro gb278 hg w25 hbox hb; have n0_ := Aside0.mk (Kd.R_below (by (with_reducible repeat first|apply rA_|apply rN_|apply rD_); exact HO243.out) hb); have n1_ := Aside0.mk (Kd.R_below (by (with_reducible repeat first|apply rA_|apply rN_|apply rD_); exact HO246.out) hb); have n2_ := Aside0.mk (Kd.S_below (by (with_reducible repeat first|apply sA_|apply sN_|apply sD_); exact HO249.out) hb); have n3_ := Aside0.mk (Kd.R_below (by (with_reducible repeat first|apply rA_|apply rN_|apply rD_); exact HO252.out) hb); have n4_ := Aside0.mk (Kd.R_below (by (with_reducible repeat first|apply rA_|apply rN_|apply rD_); exact HO255.out) hb); have n5_ := Aside0.mk (Kd.R_below (by (with_reducible repeat first|apply rA_|apply rN_|apply rD_); exact HO259.out) hb); have n6_ := Aside0.mk (Kd.R_below (by (with_reducible repeat first|apply rA_|apply rN_|apply rD_); exact HO264.out) hb); have n7_ := Aside0.mk (Kd.R_below (by (with_reducible repeat first|apply rA_|apply rN_|apply rD_); exact HO267.out) hb); have n8_ := Aside0.mk (Kd.S_below (by (with_reducible repeat first|apply sA_|apply sN_|apply sD_); exact HO270.out) hb); have n9_ := Aside0.mk (Kd.R_below (by (with_reducible repeat first|apply rA_|apply rN_|apply rD_); exact HO273.out) hb); have n10_ := Aside0.mk (Kd.R_below (by (with_reducible repeat first|apply rA_|apply rN_|apply rD_); exact HO276.out) hb); have n11_ := Aside0.mk (blk_below (by (with_reducible repeat first|apply qN_|apply qD_|apply qA_); exact BK238.out) hb); have n12_ := Aside0.mk (below_step (by repeat (first | (with_reducible first|exact HB.out|apply vA_|apply vN_|apply vD_ | refine vS_ ?_ GE238.out) | exact HB.out)) hb); have n13_ := Aside0.mk (hbox); have n14_ := Aside0.mk ((by rw [hg]; exact (below_size (by repeat (first | (with_reducible first|exact HB.out|apply vA_|apply vN_|apply vD_ | refine vS_ ?_ GE238.out) | exact HB.out))) : w.heap.size ≤ gb278)); have n15_ := Aside0.mk ((by rw [hg]; exact (below_size (by repeat (first | (with_reducible first|exact HB.out|apply vA_|apply vN_|apply vD_ | refine vS_ ?_ GE238.out) | exact HB.out))) : w.heap.size ≤ gb278)); have n16_ := Aside0.mk ((by rw [hg]; exact Nat.ne_of_lt (blk_lt (g := gb238) (o := .cells #[.int .i64 a0_0, .slice A0_1 l0_1.length c0_1, .slice A0_2 l0_2.length c0_2, .slice A0_3 l0_3.length c0_3, .slice A0_4 l0_4.length c0_4, .slice A0_5 l0_5.length c0_5, .int .i64 a0_6] 73 (0, 0)) (by (with_reducible repeat first|apply qN_|apply qD_|apply qA_); exact BK238.out)) : gb238 ≠ gb278)); have n17_ := Aside0.mk ((by rw [hg]; exact Nat.ne_of_gt (blk_lt (g := gb238) (o := .cells #[.int .i64 a0_0, .slice A0_1 l0_1.length c0_1, .slice A0_2 l0_2.length c0_2, .slice A0_3 l0_3.length c0_3, .slice A0_4 l0_4.length c0_4, .slice A0_5 l0_5.length c0_5, .int .i64 a0_6] 73 (0, 0)) (by (with_reducible repeat first|apply qN_|apply qD_|apply qA_); exact BK238.out)) : gb278 ≠ gb238)); clear HO243; clear HO246; clear HO249; clear HO252; clear HO255; clear HO259; clear HO264; clear HO267; clear HO270; clear HO273; clear HO276; clear BK238; clear HB; have HO243 := n0_; have HO246 := n1_; have HO249 := n2_; have HO252 := n3_; have HO255 := n4_; have HO259 := n5_; have HO264 := n6_; have HO267 := n7_; have HO270 := n8_; have HO273 := n9_; have HO276 := n10_; have BK238 := n11_; have HB := n12_; have BK278 := n13_; have GW278 := n14_; have GE278 := n15_; have NB238_278 := n16_; have NB278_238 := n17_; clear n0_ n1_ n2_ n3_ n4_ n5_ n6_ n7_ n8_ n9_ n10_ n11_ n12_ n13_ n14_ n15_ n16_ n17_; clear hb hbox hg; have hnb26 := NB278_238.out; have hnc26 := NB238_278.out; have hcz27_0 : w25.cell? ⟨gb278, 0, none⟩ = some (.int .i64 0) := (blk_cell BK278.out 0).trans rfl; have hcz27_1 : w25.cell? ⟨gb278, 1, none⟩ = some (.slice none 0 0) := (blk_cell BK278.out 1).trans rfl; have hcz27_2 : w25.cell? ⟨gb278, 2, none⟩ = some (.slice none 0 0) := (blk_cell BK278.out 2).trans rfl; have hcz27_3 : w25.cell? ⟨gb278, 3, none⟩ = some (.slice none 0 0) := (blk_cell BK278.out 3).trans rfl; have hcz27_4 : w25.cell? ⟨gb278, 4, none⟩ = some (.slice none 0 0) := (blk_cell BK278.out 4).trans rfl; have hcz27_5 : w25.cell? ⟨gb278, 5, none⟩ = some (.slice none 0 0) := (blk_cell BK278.out 5).trans rfl; have hcz27_6 : w25.cell? ⟨gb278, 6, none⟩ = some (.int .i64 0) := (blk_cell BK278.out 6).trans rfl; have hfz27_0 := blk_frozen BK278.out 0; have hfz27_1 := blk_frozen BK278.out 1; have hfz27_2 := blk_frozen BK278.out 2; have hfz27_3 := blk_frozen BK278.out 3; have hfz27_4 := blk_frozen BK278.out 4; have hfz27_5 := blk_frozen BK278.out 5; have hfz27_6 := blk_frozen BK278.out 6; obtain ⟨Ao28, co28, eo28⟩ := Kd.R_slice HO264.out; subst eo28; obtain ⟨Ao29, co29, eo29⟩ := Kd.R_slice HO267.out; subst eo29; obtain ⟨Ao30, co30, eo30⟩ := Kd.S_slice HO270.out; subst eo30; obtain ⟨Ao31, co31, eo31⟩ := Kd.R_slice HO273.out; subst eo31; obtain ⟨Ao32, co32, eo32⟩ := Kd.R_slice HO276.out; subst eo32) | ((with_reducible refine gate_callee (f := 48) rfl ?_); refine goesL_ (some 29) rfl rfl Try.func48 (by kernel_rfl) rfl #[.agg #[.int .i64 t261, .slice Ao28 t262.length co28, .slice Ao29 t265.length co29, .slice Ao30 t268.length co30, .slice Ao31 t271.length co31, .slice Ao32 t274.length co32, .int .i64 t277]] rfl (by (try simp only [List.map_toArray, List.map_cons, List.map_nil]); first | done | rfl | (simp only [List.length_drop, List.length_take]; rfl)) ?_; (with_reducible refine (impl_ThreadsOf.calls k t261 _ _ t262 _ _ t265 _ _ t268 _ _ t271 _ _ t274 t277 t279 t282 _ ?side1 ?side2 ?side3 ?side4 ?side5 ?side6 ?side7 ?side8 ?side9 ?side10 A10.out).mono ?_); (case side1 => refine (Kd.R_reads' (e := 118) (base := w.heap.size) (ok := fun k_ => (True ∧ some k_ ≠ (.slice Ao17 t241.length co17 : Value).ownBlock)) (n := t262.length) (c := co28) ?_).2.2; exact (by (with_reducible repeat first|apply rA_|apply rN_|apply rD_); exact (Kd.R_mono (Kd.R_far (p := ⟨gb278, 6, none⟩) (Kd.R_far (p := ⟨gb278, 5, none⟩) (Kd.R_far (p := ⟨gb278, 4, none⟩) (Kd.R_far (p := ⟨gb278, 3, none⟩) (Kd.R_far (p := ⟨gb278, 2, none⟩) (Kd.R_far (p := ⟨gb278, 1, none⟩) (Kd.R_far (p := ⟨gb278, 0, none⟩) (Kd.R_types HO264.out BK278.out (by decide)) (fun _ hk => hk.2) (.int .i64 t261)) (fun _ hk => hk.2) (.slice Ao28 t262.length co28)) (fun _ hk => hk.2) (.slice Ao29 t265.length co29)) (fun _ hk => hk.2) (.slice Ao30 t268.length co30)) (fun _ hk => hk.2) (.slice Ao31 t271.length co31)) (fun _ hk => hk.2) (.slice Ao32 t274.length co32)) (fun _ hk => hk.2) (.int .i64 t277)) (fun _ h_ => h_.1)))); (case side2 => exact (Kd.R_reads' HO264.out).2.1); (case side3 => refine (Kd.R_reads' (e := 3) (base := w.heap.size) (ok := fun k_ => (((some k_ ≠ (.slice Ao32 t274.length co32 : Value).ownBlock ∧ some k_ ≠ (.slice Ao18 t244.length co18 : Value).ownBlock) ∧ some k_ ≠ (.slice Ao21 t253.length co21 : Value).ownBlock) ∧ some k_ ≠ (v258 : Value).ownBlock)) (n := t265.length) (c := co29) ?_).2.2; exact (by (with_reducible repeat first|apply rA_|apply rN_|apply rD_); exact (Kd.R_mono (Kd.R_far (p := ⟨gb278, 6, none⟩) (Kd.R_far (p := ⟨gb278, 5, none⟩) (Kd.R_far (p := ⟨gb278, 4, none⟩) (Kd.R_far (p := ⟨gb278, 3, none⟩) (Kd.R_far (p := ⟨gb278, 2, none⟩) (Kd.R_far (p := ⟨gb278, 1, none⟩) (Kd.R_far (p := ⟨gb278, 0, none⟩) (Kd.R_types HO267.out BK278.out (by decide)) (fun _ hk => hk.2) (.int .i64 t261)) (fun _ hk => hk.2) (.slice Ao28 t262.length co28)) (fun _ hk => hk.2) (.slice Ao29 t265.length co29)) (fun _ hk => hk.2) (.slice Ao30 t268.length co30)) (fun _ hk => hk.2) (.slice Ao31 t271.length co31)) (fun _ hk => hk.2) (.slice Ao32 t274.length co32)) (fun _ hk => hk.2) (.int .i64 t277)) (fun _ h_ => h_.1)))); (case side4 => exact (Kd.R_reads' HO267.out).2.1); (case side5 => refine (Kd.S_reads' (e := 191) (base := w.heap.size) (ok := fun k_ => ((some k_ ≠ (.slice Ao31 t271.length co31 : Value).ownBlock ∧ some k_ ≠ (.slice Ao19 t247.length co19 : Value).ownBlock) ∧ some k_ ≠ (.slice Ao20 t250.length co20 : Value).ownBlock)) (n := t268.length) (c := co30) ?_).2.2; exact (by (with_reducible repeat first|apply sA_|apply sN_|apply sD_); exact (Kd.S_mono (Kd.S_far (p := ⟨gb278, 6, none⟩) (Kd.S_far (p := ⟨gb278, 5, none⟩) (Kd.S_far (p := ⟨gb278, 4, none⟩) (Kd.S_far (p := ⟨gb278, 3, none⟩) (Kd.S_far (p := ⟨gb278, 2, none⟩) (Kd.S_far (p := ⟨gb278, 1, none⟩) (Kd.S_far (p := ⟨gb278, 0, none⟩) (Kd.S_types HO270.out BK278.out (by decide)) (fun _ hk => hk.2) (.int .i64 t261)) (fun _ hk => hk.2) (.slice Ao28 t262.length co28)) (fun _ hk => hk.2) (.slice Ao29 t265.length co29)) (fun _ hk => hk.2) (.slice Ao30 t268.length co30)) (fun _ hk => hk.2) (.slice Ao31 t271.length co31)) (fun _ hk => hk.2) (.slice Ao32 t274.length co32)) (fun _ hk => hk.2) (.int .i64 t277)) (fun _ h_ => h_.1)))); (case side6 => exact (Kd.S_reads' HO270.out).2.1); (case side7 => refine (Kd.R_reads' (e := 133) (base := w.heap.size) (ok := fun k_ => (True ∧ some k_ ≠ (.slice Ao20 t250.length co20 : Value).ownBlock)) (n := t271.length) (c := co31) ?_).2.2; exact (by (with_reducible repeat first|apply rA_|apply rN_|apply rD_); exact (Kd.R_mono (Kd.R_far (p := ⟨gb278, 6, none⟩) (Kd.R_far (p := ⟨gb278, 5, none⟩) (Kd.R_far (p := ⟨gb278, 4, none⟩) (Kd.R_far (p := ⟨gb278, 3, none⟩) (Kd.R_far (p := ⟨gb278, 2, none⟩) (Kd.R_far (p := ⟨gb278, 1, none⟩) (Kd.R_far (p := ⟨gb278, 0, none⟩) (Kd.R_types HO273.out BK278.out (by decide)) (fun _ hk => hk.2) (.int .i64 t261)) (fun _ hk => hk.2) (.slice Ao28 t262.length co28)) (fun _ hk => hk.2) (.slice Ao29 t265.length co29)) (fun _ hk => hk.2) (.slice Ao30 t268.length co30)) (fun _ hk => hk.2) (.slice Ao31 t271.length co31)) (fun _ hk => hk.2) (.slice Ao32 t274.length co32)) (fun _ hk => hk.2) (.int .i64 t277)) (fun _ h_ => h_.1)))); (case side8 => exact (Kd.R_reads' HO273.out).2.1); (case side9 => refine (Kd.R_reads' (e := 3) (base := w.heap.size) (ok := fun k_ => (((some k_ ≠ (.slice Ao29 t265.length co29 : Value).ownBlock ∧ some k_ ≠ (.slice Ao18 t244.length co18 : Value).ownBlock) ∧ some k_ ≠ (.slice Ao21 t253.length co21 : Value).ownBlock) ∧ some k_ ≠ (v258 : Value).ownBlock)) (n := t274.length) (c := co32) ?_).2.2; exact (by (with_reducible repeat first|apply rA_|apply rN_|apply rD_); exact (Kd.R_mono (Kd.R_far (p := ⟨gb278, 6, none⟩) (Kd.R_far (p := ⟨gb278, 5, none⟩) (Kd.R_far (p := ⟨gb278, 4, none⟩) (Kd.R_far (p := ⟨gb278, 3, none⟩) (Kd.R_far (p := ⟨gb278, 2, none⟩) (Kd.R_far (p := ⟨gb278, 1, none⟩) (Kd.R_far (p := ⟨gb278, 0, none⟩) (Kd.R_types HO276.out BK278.out (by decide)) (fun _ hk => hk.2) (.int .i64 t261)) (fun _ hk => hk.2) (.slice Ao28 t262.length co28)) (fun _ hk => hk.2) (.slice Ao29 t265.length co29)) (fun _ hk => hk.2) (.slice Ao30 t268.length co30)) (fun _ hk => hk.2) (.slice Ao31 t271.length co31)) (fun _ hk => hk.2) (.slice Ao32 t274.length co32)) (fun _ hk => hk.2) (.int .i64 t277)) (fun _ h_ => h_.1)))); (case side10 => exact (Kd.R_reads' HO276.out).2.1); rintro e w33 ⟨v280, rfl, ho0, hb⟩; refine ⟨_, rfl, ?_⟩; have n0_ := Aside0.mk (Kd.R_below (by (with_reducible repeat first|apply rA_|apply rN_|apply rD_); exact (Kd.R_mono (Kd.R_far (p := ⟨gb278, 6, none⟩) (Kd.R_far (p := ⟨gb278, 5, none⟩) (Kd.R_far (p := ⟨gb278, 4, none⟩) (Kd.R_far (p := ⟨gb278, 3, none⟩) (Kd.R_far (p := ⟨gb278, 2, none⟩) (Kd.R_far (p := ⟨gb278, 1, none⟩) (Kd.R_far (p := ⟨gb278, 0, none⟩) (Kd.R_types HO243.out BK278.out (by decide)) (fun _ hk => hk.2) (.int .i64 t261)) (fun _ hk => hk.2) (.slice Ao28 t262.length co28)) (fun _ hk => hk.2) (.slice Ao29 t265.length co29)) (fun _ hk => hk.2) (.slice Ao30 t268.length co30)) (fun _ hk => hk.2) (.slice Ao31 t271.length co31)) (fun _ hk => hk.2) (.slice Ao32 t274.length co32)) (fun _ hk => hk.2) (.int .i64 t277)) (fun _ h_ => h_.1))) hb); have n1_ := Aside0.mk (Kd.R_elder' (by (with_reducible repeat first|apply rA_|apply rN_|apply rD_); exact (Kd.R_mono (Kd.R_far (p := ⟨gb278, 6, none⟩) (Kd.R_far (p := ⟨gb278, 5, none⟩) (Kd.R_far (p := ⟨gb278, 4, none⟩) (Kd.R_far (p := ⟨gb278, 3, none⟩) (Kd.R_far (p := ⟨gb278, 2, none⟩) (Kd.R_far (p := ⟨gb278, 1, none⟩) (Kd.R_far (p := ⟨gb278, 0, none⟩) (Kd.R_types HO246.out BK278.out (by decide)) (fun _ hk => hk.2) (.int .i64 t261)) (fun _ hk => hk.2) (.slice Ao28 t262.length co28)) (fun _ hk => hk.2) (.slice Ao29 t265.length co29)) (fun _ hk => hk.2) (.slice Ao30 t268.length co30)) (fun _ hk => hk.2) (.slice Ao31 t271.length co31)) (fun _ hk => hk.2) (.slice Ao32 t274.length co32)) (fun _ hk => hk.2) (.int .i64 t277)) (fun _ h_ => h_.1))) (by first | exact Kd.R_base ho0 | exact Kd.S_base ho0 | exact Kd.R_base ho0) hb); have n2_ := Aside0.mk (Kd.S_below (by (with_reducible repeat first|apply sA_|apply sN_|apply sD_); exact (Kd.S_mono (Kd.S_far (p := ⟨gb278, 6, none⟩) (Kd.S_far (p := ⟨gb278, 5, none⟩) (Kd.S_far (p := ⟨gb278, 4, none⟩) (Kd.S_far (p := ⟨gb278, 3, none⟩) (Kd.S_far (p := ⟨gb278, 2, none⟩) (Kd.S_far (p := ⟨gb278, 1, none⟩) (Kd.S_far (p := ⟨gb278, 0, none⟩) (Kd.S_types HO249.out BK278.out (by decide)) (fun _ hk => hk.2) (.int .i64 t261)) (fun _ hk => hk.2) (.slice Ao28 t262.length co28)) (fun _ hk => hk.2) (.slice Ao29 t265.length co29)) (fun _ hk => hk.2) (.slice Ao30 t268.length co30)) (fun _ hk => hk.2) (.slice Ao31 t271.length co31)) (fun _ hk => hk.2) (.slice Ao32 t274.length co32)) (fun _ hk => hk.2) (.int .i64 t277)) (fun _ h_ => h_.1))) hb); have n3_ := Aside0.mk (Kd.R_below (by (with_reducible repeat first|apply rA_|apply rN_|apply rD_); exact (Kd.R_mono (Kd.R_far (p := ⟨gb278, 6, none⟩) (Kd.R_far (p := ⟨gb278, 5, none⟩) (Kd.R_far (p := ⟨gb278, 4, none⟩) (Kd.R_far (p := ⟨gb278, 3, none⟩) (Kd.R_far (p := ⟨gb278, 2, none⟩) (Kd.R_far (p := ⟨gb278, 1, none⟩) (Kd.R_far (p := ⟨gb278, 0, none⟩) (Kd.R_types HO252.out BK278.out (by decide)) (fun _ hk => hk.2) (.int .i64 t261)) (fun _ hk => hk.2) (.slice Ao28 t262.length co28)) (fun _ hk => hk.2) (.slice Ao29 t265.length co29)) (fun _ hk => hk.2) (.slice Ao30 t268.length co30)) (fun _ hk => hk.2) (.slice Ao31 t271.length co31)) (fun _ hk => hk.2) (.slice Ao32 t274.length co32)) (fun _ hk => hk.2) (.int .i64 t277)) (fun _ h_ => h_.1))) hb); have n4_ := Aside0.mk (Kd.R_elder' (by (with_reducible repeat first|apply rA_|apply rN_|apply rD_); exact (Kd.R_mono (Kd.R_far (p := ⟨gb278, 6, none⟩) (Kd.R_far (p := ⟨gb278, 5, none⟩) (Kd.R_far (p := ⟨gb278, 4, none⟩) (Kd.R_far (p := ⟨gb278, 3, none⟩) (Kd.R_far (p := ⟨gb278, 2, none⟩) (Kd.R_far (p := ⟨gb278, 1, none⟩) (Kd.R_far (p := ⟨gb278, 0, none⟩) (Kd.R_types HO255.out BK278.out (by decide)) (fun _ hk => hk.2) (.int .i64 t261)) (fun _ hk => hk.2) (.slice Ao28 t262.length co28)) (fun _ hk => hk.2) (.slice Ao29 t265.length co29)) (fun _ hk => hk.2) (.slice Ao30 t268.length co30)) (fun _ hk => hk.2) (.slice Ao31 t271.length co31)) (fun _ hk => hk.2) (.slice Ao32 t274.length co32)) (fun _ hk => hk.2) (.int .i64 t277)) (fun _ h_ => h_.1))) (by first | exact Kd.R_base ho0 | exact Kd.S_base ho0 | exact Kd.R_base ho0) hb); have n5_ := Aside0.mk (Kd.R_elder' (by (with_reducible repeat first|apply rA_|apply rN_|apply rD_); exact (Kd.R_mono (Kd.R_far (p := ⟨gb278, 6, none⟩) (Kd.R_far (p := ⟨gb278, 5, none⟩) (Kd.R_far (p := ⟨gb278, 4, none⟩) (Kd.R_far (p := ⟨gb278, 3, none⟩) (Kd.R_far (p := ⟨gb278, 2, none⟩) (Kd.R_far (p := ⟨gb278, 1, none⟩) (Kd.R_far (p := ⟨gb278, 0, none⟩) (Kd.R_types HO259.out BK278.out (by decide)) (fun _ hk => hk.2) (.int .i64 t261)) (fun _ hk => hk.2) (.slice Ao28 t262.length co28)) (fun _ hk => hk.2) (.slice Ao29 t265.length co29)) (fun _ hk => hk.2) (.slice Ao30 t268.length co30)) (fun _ hk => hk.2) (.slice Ao31 t271.length co31)) (fun _ hk => hk.2) (.slice Ao32 t274.length co32)) (fun _ hk => hk.2) (.int .i64 t277)) (fun _ h_ => h_.1))) (by first | exact Kd.R_base ho0 | exact Kd.S_base ho0 | exact Kd.R_base ho0) hb); have n6_ := Aside0.mk (Kd.R_below (by (with_reducible repeat first|apply rA_|apply rN_|apply rD_); exact (Kd.R_mono (Kd.R_far (p := ⟨gb278, 6, none⟩) (Kd.R_far (p := ⟨gb278, 5, none⟩) (Kd.R_far (p := ⟨gb278, 4, none⟩) (Kd.R_far (p := ⟨gb278, 3, none⟩) (Kd.R_far (p := ⟨gb278, 2, none⟩) (Kd.R_far (p := ⟨gb278, 1, none⟩) (Kd.R_far (p := ⟨gb278, 0, none⟩) (Kd.R_types HO264.out BK278.out (by decide)) (fun _ hk => hk.2) (.int .i64 t261)) (fun _ hk => hk.2) (.slice Ao28 t262.length co28)) (fun _ hk => hk.2) (.slice Ao29 t265.length co29)) (fun _ hk => hk.2) (.slice Ao30 t268.length co30)) (fun _ hk => hk.2) (.slice Ao31 t271.length co31)) (fun _ hk => hk.2) (.slice Ao32 t274.length co32)) (fun _ hk => hk.2) (.int .i64 t277)) (fun _ h_ => h_.1))) hb); have n7_ := Aside0.mk (Kd.R_elder' (by (with_reducible repeat first|apply rA_|apply rN_|apply rD_); exact (Kd.R_mono (Kd.R_far (p := ⟨gb278, 6, none⟩) (Kd.R_far (p := ⟨gb278, 5, none⟩) (Kd.R_far (p := ⟨gb278, 4, none⟩) (Kd.R_far (p := ⟨gb278, 3, none⟩) (Kd.R_far (p := ⟨gb278, 2, none⟩) (Kd.R_far (p := ⟨gb278, 1, none⟩) (Kd.R_far (p := ⟨gb278, 0, none⟩) (Kd.R_types HO267.out BK278.out (by decide)) (fun _ hk => hk.2) (.int .i64 t261)) (fun _ hk => hk.2) (.slice Ao28 t262.length co28)) (fun _ hk => hk.2) (.slice Ao29 t265.length co29)) (fun _ hk => hk.2) (.slice Ao30 t268.length co30)) (fun _ hk => hk.2) (.slice Ao31 t271.length co31)) (fun _ hk => hk.2) (.slice Ao32 t274.length co32)) (fun _ hk => hk.2) (.int .i64 t277)) (fun _ h_ => h_.1))) (by first | exact Kd.R_base ho0 | exact Kd.S_base ho0 | exact Kd.R_base ho0) hb); have n8_ := Aside0.mk (Kd.S_below (by (with_reducible repeat first|apply sA_|apply sN_|apply sD_); exact (Kd.S_mono (Kd.S_far (p := ⟨gb278, 6, none⟩) (Kd.S_far (p := ⟨gb278, 5, none⟩) (Kd.S_far (p := ⟨gb278, 4, none⟩) (Kd.S_far (p := ⟨gb278, 3, none⟩) (Kd.S_far (p := ⟨gb278, 2, none⟩) (Kd.S_far (p := ⟨gb278, 1, none⟩) (Kd.S_far (p := ⟨gb278, 0, none⟩) (Kd.S_types HO270.out BK278.out (by decide)) (fun _ hk => hk.2) (.int .i64 t261)) (fun _ hk => hk.2) (.slice Ao28 t262.length co28)) (fun _ hk => hk.2) (.slice Ao29 t265.length co29)) (fun _ hk => hk.2) (.slice Ao30 t268.length co30)) (fun _ hk => hk.2) (.slice Ao31 t271.length co31)) (fun _ hk => hk.2) (.slice Ao32 t274.length co32)) (fun _ hk => hk.2) (.int .i64 t277)) (fun _ h_ => h_.1))) hb); have n9_ := Aside0.mk (Kd.R_below (by (with_reducible repeat first|apply rA_|apply rN_|apply rD_); exact (Kd.R_mono (Kd.R_far (p := ⟨gb278, 6, none⟩) (Kd.R_far (p := ⟨gb278, 5, none⟩) (Kd.R_far (p := ⟨gb278, 4, none⟩) (Kd.R_far (p := ⟨gb278, 3, none⟩) (Kd.R_far (p := ⟨gb278, 2, none⟩) (Kd.R_far (p := ⟨gb278, 1, none⟩) (Kd.R_far (p := ⟨gb278, 0, none⟩) (Kd.R_types HO273.out BK278.out (by decide)) (fun _ hk => hk.2) (.int .i64 t261)) (fun _ hk => hk.2) (.slice Ao28 t262.length co28)) (fun _ hk => hk.2) (.slice Ao29 t265.length co29)) (fun _ hk => hk.2) (.slice Ao30 t268.length co30)) (fun _ hk => hk.2) (.slice Ao31 t271.length co31)) (fun _ hk => hk.2) (.slice Ao32 t274.length co32)) (fun _ hk => hk.2) (.int .i64 t277)) (fun _ h_ => h_.1))) hb); have n10_ := Aside0.mk (Kd.R_elder' (by (with_reducible repeat first|apply rA_|apply rN_|apply rD_); exact (Kd.R_mono (Kd.R_far (p := ⟨gb278, 6, none⟩) (Kd.R_far (p := ⟨gb278, 5, none⟩) (Kd.R_far (p := ⟨gb278, 4, none⟩) (Kd.R_far (p := ⟨gb278, 3, none⟩) (Kd.R_far (p := ⟨gb278, 2, none⟩) (Kd.R_far (p := ⟨gb278, 1, none⟩) (Kd.R_far (p := ⟨gb278, 0, none⟩) (Kd.R_types HO276.out BK278.out (by decide)) (fun _ hk => hk.2) (.int .i64 t261)) (fun _ hk => hk.2) (.slice Ao28 t262.length co28)) (fun _ hk => hk.2) (.slice Ao29 t265.length co29)) (fun _ hk => hk.2) (.slice Ao30 t268.length co30)) (fun _ hk => hk.2) (.slice Ao31 t271.length co31)) (fun _ hk => hk.2) (.slice Ao32 t274.length co32)) (fun _ hk => hk.2) (.int .i64 t277)) (fun _ h_ => h_.1))) (by first | exact Kd.R_base ho0 | exact Kd.S_base ho0 | exact Kd.R_base ho0) hb); have n11_ := Aside0.mk (Kd.R_lower (Kd.R_new' (Kd.R_new' (Kd.R_new' (Kd.R_new' (Kd.R_new' ho0 (Kd.R_lt (by (with_reducible repeat first|apply rA_|apply rN_|apply rD_); exact (Kd.R_mono (Kd.R_far (p := ⟨gb278, 6, none⟩) (Kd.R_far (p := ⟨gb278, 5, none⟩) (Kd.R_far (p := ⟨gb278, 4, none⟩) (Kd.R_far (p := ⟨gb278, 3, none⟩) (Kd.R_far (p := ⟨gb278, 2, none⟩) (Kd.R_far (p := ⟨gb278, 1, none⟩) (Kd.R_far (p := ⟨gb278, 0, none⟩) (Kd.R_types HO246.out BK278.out (by decide)) (fun _ hk => hk.2) (.int .i64 t261)) (fun _ hk => hk.2) (.slice Ao28 t262.length co28)) (fun _ hk => hk.2) (.slice Ao29 t265.length co29)) (fun _ hk => hk.2) (.slice Ao30 t268.length co30)) (fun _ hk => hk.2) (.slice Ao31 t271.length co31)) (fun _ hk => hk.2) (.slice Ao32 t274.length co32)) (fun _ hk => hk.2) (.int .i64 t277)) (fun _ h_ => h_.1))))) (Kd.R_lt (by (with_reducible repeat first|apply rA_|apply rN_|apply rD_); exact (Kd.R_mono (Kd.R_far (p := ⟨gb278, 6, none⟩) (Kd.R_far (p := ⟨gb278, 5, none⟩) (Kd.R_far (p := ⟨gb278, 4, none⟩) (Kd.R_far (p := ⟨gb278, 3, none⟩) (Kd.R_far (p := ⟨gb278, 2, none⟩) (Kd.R_far (p := ⟨gb278, 1, none⟩) (Kd.R_far (p := ⟨gb278, 0, none⟩) (Kd.R_types HO255.out BK278.out (by decide)) (fun _ hk => hk.2) (.int .i64 t261)) (fun _ hk => hk.2) (.slice Ao28 t262.length co28)) (fun _ hk => hk.2) (.slice Ao29 t265.length co29)) (fun _ hk => hk.2) (.slice Ao30 t268.length co30)) (fun _ hk => hk.2) (.slice Ao31 t271.length co31)) (fun _ hk => hk.2) (.slice Ao32 t274.length co32)) (fun _ hk => hk.2) (.int .i64 t277)) (fun _ h_ => h_.1))))) (Kd.R_lt (by (with_reducible repeat first|apply rA_|apply rN_|apply rD_); exact (Kd.R_mono (Kd.R_far (p := ⟨gb278, 6, none⟩) (Kd.R_far (p := ⟨gb278, 5, none⟩) (Kd.R_far (p := ⟨gb278, 4, none⟩) (Kd.R_far (p := ⟨gb278, 3, none⟩) (Kd.R_far (p := ⟨gb278, 2, none⟩) (Kd.R_far (p := ⟨gb278, 1, none⟩) (Kd.R_far (p := ⟨gb278, 0, none⟩) (Kd.R_types HO259.out BK278.out (by decide)) (fun _ hk => hk.2) (.int .i64 t261)) (fun _ hk => hk.2) (.slice Ao28 t262.length co28)) (fun _ hk => hk.2) (.slice Ao29 t265.length co29)) (fun _ hk => hk.2) (.slice Ao30 t268.length co30)) (fun _ hk => hk.2) (.slice Ao31 t271.length co31)) (fun _ hk => hk.2) (.slice Ao32 t274.length co32)) (fun _ hk => hk.2) (.int .i64 t277)) (fun _ h_ => h_.1))))) (Kd.R_lt (by (with_reducible repeat first|apply rA_|apply rN_|apply rD_); exact (Kd.R_mono (Kd.R_far (p := ⟨gb278, 6, none⟩) (Kd.R_far (p := ⟨gb278, 5, none⟩) (Kd.R_far (p := ⟨gb278, 4, none⟩) (Kd.R_far (p := ⟨gb278, 3, none⟩) (Kd.R_far (p := ⟨gb278, 2, none⟩) (Kd.R_far (p := ⟨gb278, 1, none⟩) (Kd.R_far (p := ⟨gb278, 0, none⟩) (Kd.R_types HO267.out BK278.out (by decide)) (fun _ hk => hk.2) (.int .i64 t261)) (fun _ hk => hk.2) (.slice Ao28 t262.length co28)) (fun _ hk => hk.2) (.slice Ao29 t265.length co29)) (fun _ hk => hk.2) (.slice Ao30 t268.length co30)) (fun _ hk => hk.2) (.slice Ao31 t271.length co31)) (fun _ hk => hk.2) (.slice Ao32 t274.length co32)) (fun _ hk => hk.2) (.int .i64 t277)) (fun _ h_ => h_.1))))) (Kd.R_lt (by (with_reducible repeat first|apply rA_|apply rN_|apply rD_); exact (Kd.R_mono (Kd.R_far (p := ⟨gb278, 6, none⟩) (Kd.R_far (p := ⟨gb278, 5, none⟩) (Kd.R_far (p := ⟨gb278, 4, none⟩) (Kd.R_far (p := ⟨gb278, 3, none⟩) (Kd.R_far (p := ⟨gb278, 2, none⟩) (Kd.R_far (p := ⟨gb278, 1, none⟩) (Kd.R_far (p := ⟨gb278, 0, none⟩) (Kd.R_types HO276.out BK278.out (by decide)) (fun _ hk => hk.2) (.int .i64 t261)) (fun _ hk => hk.2) (.slice Ao28 t262.length co28)) (fun _ hk => hk.2) (.slice Ao29 t265.length co29)) (fun _ hk => hk.2) (.slice Ao30 t268.length co30)) (fun _ hk => hk.2) (.slice Ao31 t271.length co31)) (fun _ hk => hk.2) (.slice Ao32 t274.length co32)) (fun _ hk => hk.2) (.int .i64 t277)) (fun _ h_ => h_.1))))) (below_size (by repeat (first | (with_reducible first|exact HB.out|apply vA_|apply vN_|apply vD_ | refine vS_ ?_ GE238.out | refine vS_ ?_ GE278.out) | exact HB.out)))); have n12_ := Aside0.mk (blk_below (g := gb238) (o := .cells #[.int .i64 a0_0, .slice A0_1 l0_1.length c0_1, .slice A0_2 l0_2.length c0_2, .slice A0_3 l0_3.length c0_3, .slice A0_4 l0_4.length c0_4, .slice A0_5 l0_5.length c0_5, .int .i64 a0_6] 73 (0, 0)) (by (with_reducible repeat first|apply qN_|apply qD_|apply qA_); refine blk_far ?_ NB238_278.out _; (with_reducible repeat first|apply qN_|apply qD_|apply qA_); refine blk_far ?_ NB238_278.out _; (with_reducible repeat first|apply qN_|apply qD_|apply qA_); refine blk_far ?_ NB238_278.out _; (with_reducible repeat first|apply qN_|apply qD_|apply qA_); refine blk_far ?_ NB238_278.out _; (with_reducible repeat first|apply qN_|apply qD_|apply qA_); refine blk_far ?_ NB238_278.out _; (with_reducible repeat first|apply qN_|apply qD_|apply qA_); refine blk_far ?_ NB238_278.out _; (with_reducible repeat first|apply qN_|apply qD_|apply qA_); refine blk_far ?_ NB238_278.out _; (with_reducible repeat first|apply qN_|apply qD_|apply qA_); exact BK238.out) hb); have n13_ := Aside0.mk (blk_below (g := gb278) (o := .cells #[.int .i64 t261, .slice Ao28 t262.length co28, .slice Ao29 t265.length co29, .slice Ao30 t268.length co30, .slice Ao31 t271.length co31, .slice Ao32 t274.length co32, .int .i64 t277] 80 (0, 0)) (by (with_reducible repeat first|apply qN_|apply qD_|apply qA_); refine blk_put (cs := #[.int .i64 t261, .slice Ao28 t262.length co28, .slice Ao29 t265.length co29, .slice Ao30 t268.length co30, .slice Ao31 t271.length co31, .slice Ao32 t274.length co32, .int .i64 0]) ?_ 6 _ rfl; (with_reducible repeat first|apply qN_|apply qD_|apply qA_); refine blk_put (cs := #[.int .i64 t261, .slice Ao28 t262.length co28, .slice Ao29 t265.length co29, .slice Ao30 t268.length co30, .slice Ao31 t271.length co31, .slice none 0 0, .int .i64 0]) ?_ 5 _ rfl; (with_reducible repeat first|apply qN_|apply qD_|apply qA_); refine blk_put (cs := #[.int .i64 t261, .slice Ao28 t262.length co28, .slice Ao29 t265.length co29, .slice Ao30 t268.length co30, .slice none 0 0, .slice none 0 0, .int .i64 0]) ?_ 4 _ rfl; (with_reducible repeat first|apply qN_|apply qD_|apply qA_); refine blk_put (cs := #[.int .i64 t261, .slice Ao28 t262.length co28, .slice Ao29 t265.length co29, .slice none 0 0, .slice none 0 0, .slice none 0 0, .int .i64 0]) ?_ 3 _ rfl; (with_reducible repeat first|apply qN_|apply qD_|apply qA_); refine blk_put (cs := #[.int .i64 t261, .slice Ao28 t262.length co28, .slice none 0 0, .slice none 0 0, .slice none 0 0, .slice none 0 0, .int .i64 0]) ?_ 2 _ rfl; (with_reducible repeat first|apply qN_|apply qD_|apply qA_); refine blk_put (cs := #[.int .i64 t261, .slice none 0 0, .slice none 0 0, .slice none 0 0, .slice none 0 0, .slice none 0 0, .int .i64 0]) ?_ 1 _ rfl; (with_reducible repeat first|apply qN_|apply qD_|apply qA_); refine blk_put (cs := #[.int .i64 0, .slice none 0 0, .slice none 0 0, .slice none 0 0, .slice none 0 0, .slice none 0 0, .int .i64 0]) ?_ 0 _ rfl; (with_reducible repeat first|apply qN_|apply qD_|apply qA_); exact BK278.out) hb); have n14_ := Aside0.mk (below_step (by repeat (first | (with_reducible first|exact HB.out|apply vA_|apply vN_|apply vD_ | refine vS_ ?_ GE238.out | refine vS_ ?_ GE278.out) | exact HB.out)) hb); clear HO243; clear HO246; clear HO249; clear HO252; clear HO255; clear HO259; clear HO264; clear HO267; clear HO270; clear HO273; clear HO276; clear BK238; clear BK278; clear HB; have HO243 := n0_; have HO246 := n1_; have HO249 := n2_; have HO252 := n3_; have HO255 := n4_; have HO259 := n5_; have HO264 := n6_; have HO267 := n7_; have HO270 := n8_; have HO273 := n9_; have HO276 := n10_; have HO281 := n11_; have BK238 := n12_; have BK278 := n13_; have HB := n14_; clear n0_ n1_ n2_ n3_ n4_ n5_ n6_ n7_ n8_ n9_ n10_ n11_ n12_ n13_ n14_; (try clear hb); (try clear hb2); (try clear hk); (try clear hi); (try clear ho0)))
  (try simp only [Act.put, List.setIfInBounds_toArray, List.set_cons_zero, List.set_cons_succ])
  go_cut [40] (fun v40 wc => ∃ (kq : Nat) (x40_10 : Bool), v40 = .bool x40_10 ∧ Aside0 (laws_FnExactThreadsOf.j0 kq t257 t260 t279 t282 x40_10 a0_0 l0_1 l0_2 l0_3 l0_4 l0_5 a0_6 t261 t262 t265 t268 t271 t274 t277 = some r) ∧ Aside0 (kq ≤ k) ∧ Aside0 (Kd.R (Kd.int .i64) 3 wc w.heap.size (fun k_ => some k_ ≠ (v280 : Value).ownBlock ∧ some k_ ≠ ((.slice Ao29 t265.length co29) : Value).ownBlock ∧ some k_ ≠ ((.slice Ao32 t274.length co32) : Value).ownBlock) v258 t257) ∧ Aside0 (Kd.R (Kd.int .i64) 3 wc w.heap.size (fun k_ => some k_ ≠ (v258 : Value).ownBlock ∧ some k_ ≠ ((.slice Ao29 t265.length co29) : Value).ownBlock ∧ some k_ ≠ ((.slice Ao32 t274.length co32) : Value).ownBlock) v280 t279) ∧ Aside0 (Kd.R k118 118 wc w.heap.size (fun _ => True) (.slice Ao28 t262.length co28) t262) ∧ Aside0 (Kd.R (Kd.int .i64) 3 wc w.heap.size (fun k_ => some k_ ≠ (v258 : Value).ownBlock ∧ some k_ ≠ (v280 : Value).ownBlock ∧ some k_ ≠ ((.slice Ao32 t274.length co32) : Value).ownBlock) (.slice Ao29 t265.length co29) t265) ∧ Aside0 (Kd.S k191 191 wc w.heap.size (fun k_ => some k_ ≠ ((.slice Ao31 t271.length co31) : Value).ownBlock) (.slice Ao30 t268.length co30) t268) ∧ Aside0 (Kd.R Kd.float 133 wc w.heap.size (fun _ => True) (.slice Ao31 t271.length co31) t271) ∧ Aside0 (Kd.R (Kd.int .i64) 3 wc w.heap.size (fun k_ => some k_ ≠ (v258 : Value).ownBlock ∧ some k_ ≠ (v280 : Value).ownBlock ∧ some k_ ≠ ((.slice Ao29 t265.length co29) : Value).ownBlock) (.slice Ao32 t274.length co32) t274) ∧ Aside0 (wc.heap[gb238]? = some (.cells #[.int .i64 a0_0, (.slice A0_1 l0_1.length c0_1), (.slice A0_2 l0_2.length c0_2), (.slice A0_3 l0_3.length c0_3), (.slice A0_4 l0_4.length c0_4), (.slice A0_5 l0_5.length c0_5), .int .i64 a0_6] 73 (0, 0))) ∧ Aside0 (wc.heap[gb278]? = some (.cells #[.int .i64 t261, (.slice Ao28 t262.length co28), (.slice Ao29 t265.length co29), (.slice Ao30 t268.length co30), (.slice Ao31 t271.length co31), (.slice Ao32 t274.length co32), .int .i64 t277] 80 (0, 0))) ∧ Aside0 (Below w.heap.size w wc))
  case first =>
   have H := HC11.out
   clear HC11
   replace H := Option.bind_eq_some_iff.mp H
   obtain ⟨t283, A340, H⟩ := H
   replace H : (if t283 = true then (laws_FnExactThreadsOf.j0 k t257 t260 t279 t282 (t282 != t260) a0_0 l0_1 l0_2 l0_3 l0_4 l0_5 a0_6 t261 t262 t265 t268 t271 t274 t277) else (laws_FnExactThreadsOf.j0 k t257 t260 t279 t282 true a0_0 l0_1 l0_2 l0_3 l0_4 l0_5 a0_6 t261 t262 t265 t268 t271 t274 t277)) = some r := H
   have A34 := Aside0.mk A340
   clear A340
   by_cases c35 : t283 = true
   ·subst c35
    have H1 : (laws_FnExactThreadsOf.j0 k t257 t260 t279 t282 (t282 != t260) a0_0 l0_1 l0_2 l0_3 l0_4 l0_5 a0_6 t261 t262 t265 t268 t271 t274 t277) = some r := by rw [if_pos rfl] at H; exact H
    clear H
    have H := H1
    clear H1
    have H' := Aside0.mk H
    clear H
    obtain ⟨Ao36, co36, eo36⟩ := Kd.R_slice HO281.out
    subst eo36
    obtain ⟨Ao37, co37, eo37⟩ := Kd.R_slice HO259.out
    subst eo37
    go_wp2_with (first | ((with_reducible refine gate_callee (f := 21) rfl ?_); refine goesL_ (some 34) rfl rfl Try.func21 (by kernel_rfl) rfl #[.slice Ao36 t279.length co36, .slice Ao37 t257.length co37] rfl (by (try simp only [List.map_toArray, List.map_cons, List.map_nil]); first | done | rfl | (simp only [List.length_drop, List.length_take]; rfl)) ?_; (with_reducible refine (laws_eqIntS.calls k _ _ t279 _ _ t257 true _ ?side1 ?side2 ?side3 ?side4 A34.out).mono ?_); (case side1 => repeat (first | exact (Kd.R_reads' HO281.out).2.2 | with_reducible apply cA_|with_reducible apply cN_|with_reducible apply cD_)); (case side2 => exact (Kd.R_reads' HO281.out).2.1); (case side3 => repeat (first | exact (Kd.R_reads' HO259.out).2.2 | with_reducible apply cA_|with_reducible apply cN_|with_reducible apply cD_)); (case side4 => exact (Kd.R_reads' HO259.out).2.1); rintro e w' ⟨rfl, ⟨nd, rfl⟩⟩; refine ⟨_, rfl, ?_⟩))
    go_meet
    case rel => exact ⟨_, ((t282 != t260)), (by first | rfl | (simp; done) | (simp [*]; done)), H', ⟨by first | omega | exact Nat.le_refl _⟩, ⟨by (with_reducible repeat first|apply rA_|apply rN_|apply rD_); exact Kd.R_mono HO259.out (fun _ hk => ⟨hk.2, ⟨hk.1.1.2, hk.1.2⟩⟩)⟩, ⟨by (with_reducible repeat first|apply rA_|apply rN_|apply rD_); exact Kd.R_mono HO281.out (fun _ hk => ⟨hk.1.1.2, ⟨hk.1.2, hk.2⟩⟩)⟩, ⟨by (with_reducible repeat first|apply rA_|apply rN_|apply rD_); exact Kd.R_mono HO264.out (fun _ hk => trivial)⟩, ⟨by (with_reducible repeat first|apply rA_|apply rN_|apply rD_); exact Kd.R_mono HO267.out (fun _ hk => ⟨hk.1.2, ⟨hk.2, hk.1.1.1.1⟩⟩)⟩, ⟨by (with_reducible repeat first|apply sA_|apply sN_|apply sD_); exact Kd.S_mono HO270.out (fun _ hk => hk.1.1)⟩, ⟨by (with_reducible repeat first|apply rA_|apply rN_|apply rD_); exact Kd.R_mono HO273.out (fun _ hk => trivial)⟩, ⟨by (with_reducible repeat first|apply rA_|apply rN_|apply rD_); exact Kd.R_mono HO276.out (fun _ hk => ⟨hk.1.2, ⟨hk.2, hk.1.1.1.1⟩⟩)⟩, ⟨by (with_reducible repeat first|apply qN_|apply qD_|apply qA_); exact BK238.out⟩, ⟨by (with_reducible repeat first|apply qN_|apply qD_|apply qA_); exact BK278.out⟩, ⟨by repeat (first | (with_reducible first|exact HB.out|apply vA_|apply vN_|apply vD_ | refine vS_ ?_ GE238.out | refine vS_ ?_ GE278.out) | exact HB.out)⟩⟩
   ·replace c35 := Bool.eq_false_iff.mpr c35
    subst c35
    have H1 : (laws_FnExactThreadsOf.j0 k t257 t260 t279 t282 true a0_0 l0_1 l0_2 l0_3 l0_4 l0_5 a0_6 t261 t262 t265 t268 t271 t274 t277) = some r := by rw [if_neg (show ¬ (false = true) by decide)] at H; exact H
    clear H
    have H := H1
    clear H1
    have H' := Aside0.mk H
    clear H
    obtain ⟨Ao38, co38, eo38⟩ := Kd.R_slice HO281.out
    subst eo38
    obtain ⟨Ao39, co39, eo39⟩ := Kd.R_slice HO259.out
    subst eo39
    go_wp2_with (first | ((with_reducible refine gate_callee (f := 21) rfl ?_); refine goesL_ (some 34) rfl rfl Try.func21 (by kernel_rfl) rfl #[.slice Ao38 t279.length co38, .slice Ao39 t257.length co39] rfl (by (try simp only [List.map_toArray, List.map_cons, List.map_nil]); first | done | rfl | (simp only [List.length_drop, List.length_take]; rfl)) ?_; (with_reducible refine (laws_eqIntS.calls k _ _ t279 _ _ t257 false _ ?side1 ?side2 ?side3 ?side4 A34.out).mono ?_); (case side1 => repeat (first | exact (Kd.R_reads' HO281.out).2.2 | with_reducible apply cA_|with_reducible apply cN_|with_reducible apply cD_)); (case side2 => exact (Kd.R_reads' HO281.out).2.1); (case side3 => repeat (first | exact (Kd.R_reads' HO259.out).2.2 | with_reducible apply cA_|with_reducible apply cN_|with_reducible apply cD_)); (case side4 => exact (Kd.R_reads' HO259.out).2.1); rintro e w' ⟨rfl, ⟨nd, rfl⟩⟩; refine ⟨_, rfl, ?_⟩))
    go_meet
    case rel => exact ⟨_, (true), (by first | rfl | (simp; done) | (simp [*]; done)), H', ⟨by first | omega | exact Nat.le_refl _⟩, ⟨by (with_reducible repeat first|apply rA_|apply rN_|apply rD_); exact Kd.R_mono HO259.out (fun _ hk => ⟨hk.2, ⟨hk.1.1.2, hk.1.2⟩⟩)⟩, ⟨by (with_reducible repeat first|apply rA_|apply rN_|apply rD_); exact Kd.R_mono HO281.out (fun _ hk => ⟨hk.1.1.2, ⟨hk.1.2, hk.2⟩⟩)⟩, ⟨by (with_reducible repeat first|apply rA_|apply rN_|apply rD_); exact Kd.R_mono HO264.out (fun _ hk => trivial)⟩, ⟨by (with_reducible repeat first|apply rA_|apply rN_|apply rD_); exact Kd.R_mono HO267.out (fun _ hk => ⟨hk.1.2, ⟨hk.2, hk.1.1.1.1⟩⟩)⟩, ⟨by (with_reducible repeat first|apply sA_|apply sN_|apply sD_); exact Kd.S_mono HO270.out (fun _ hk => hk.1.1)⟩, ⟨by (with_reducible repeat first|apply rA_|apply rN_|apply rD_); exact Kd.R_mono HO273.out (fun _ hk => trivial)⟩, ⟨by (with_reducible repeat first|apply rA_|apply rN_|apply rD_); exact Kd.R_mono HO276.out (fun _ hk => ⟨hk.1.2, ⟨hk.2, hk.1.1.1.1⟩⟩)⟩, ⟨by (with_reducible repeat first|apply qN_|apply qD_|apply qA_); exact BK238.out⟩, ⟨by (with_reducible repeat first|apply qN_|apply qD_|apply qA_); exact BK278.out⟩, ⟨by repeat (first | (with_reducible first|exact HB.out|apply vA_|apply vN_|apply vD_ | refine vS_ ?_ GE238.out | refine vS_ ?_ GE278.out) | exact HB.out)⟩⟩
  case rest =>
   clear HC11
   try clear c2
   try clear p2
   try clear c3
   try clear c3b0
   try clear c4
   try clear c9
   try clear c21
   try clear c26
   try clear c35
   try clear hcz13_0
   try clear hcz13_1
   try clear hcz13_2
   try clear hcz13_3
   try clear hcz13_4
   try clear hcz13_5
   try clear hcz13_6
   try clear hcz15_0
   try clear hcz15_1
   try clear hcz15_2
   try clear hcz15_3
   try clear hcz15_4
   try clear hcz15_5
   try clear hcz15_6
   try clear hcz23_0
   try clear hcz23_1
   try clear hcz23_2
   try clear hcz23_3
   try clear hcz23_4
   try clear hcz23_5
   try clear hcz23_6
   try clear hcz27_0
   try clear hcz27_1
   try clear hcz27_2
   try clear hcz27_3
   try clear hcz27_4
   try clear hcz27_5
   try clear hcz27_6
   try clear hcz5_0
   try clear hcz5_1
   try clear hcz5_2
   try clear hcz5_3
   try clear hcz5_4
   try clear hcz5_5
   try clear hcz5_6
   try clear hfz13_0
   try clear hfz13_1
   try clear hfz13_2
   try clear hfz13_3
   try clear hfz13_4
   try clear hfz13_5
   try clear hfz13_6
   try clear hfz15_0
   try clear hfz15_1
   try clear hfz15_2
   try clear hfz15_3
   try clear hfz15_4
   try clear hfz15_5
   try clear hfz15_6
   try clear hfz23_0
   try clear hfz23_1
   try clear hfz23_2
   try clear hfz23_3
   try clear hfz23_4
   try clear hfz23_5
   try clear hfz23_6
   try clear hfz27_0
   try clear hfz27_1
   try clear hfz27_2
   try clear hfz27_3
   try clear hfz27_4
   try clear hfz27_5
   try clear hfz27_6
   try clear hfz5_0
   try clear hfz5_1
   try clear hfz5_2
   try clear hfz5_3
   try clear hfz5_4
   try clear hfz5_5
   try clear hfz5_6
   obtain ⟨kq, x40_10, rfl, HA, HJ10, HO_4, HO_7, HO_279001, HO_279002, HO_279003, HO_279004, HO_279005, BK238, BK278, HB⟩ := hcut
   cases kq with
   | zero => exact absurd HA.out (by simp [laws_FnExactThreadsOf.j0])
   | succ kj10 =>
    have H := HA.out
    clear HA
    simp only [laws_FnExactThreadsOf.j0] at H
    by_cases c40 : x40_10 = true
    ·subst c40
     have H1 : (some false) = some r := by rw [if_pos rfl] at H; exact H
     clear H
     have H := H1
     clear H1
     obtain rfl := Option.some.inj H
     go_wp2
     go_ret
     exact ⟨by first | rfl | (simp [errW_none, errW_some] <;> rfl) | (simp [*, errW_none, errW_some] <;> rfl), by repeat (first | (with_reducible first|exact HB.out|apply vA_|apply vN_|apply vD_ | refine vS_ ?_ GE238.out | refine vS_ ?_ GE278.out) | exact HB.out)⟩
    ·replace c40 := Bool.eq_false_iff.mpr c40
     subst c40
     have H1 : ((laws_toRun.f kj10 a0_0 l0_1 l0_2 l0_3 l0_4 l0_5 a0_6).bind fun bt284 => ((laws_eqRun.f kj10 t261 t262 t265 t268 t271 t274 t277 bt284.1 bt284.2.1 bt284.2.2.1 bt284.2.2.2.1 bt284.2.2.2.2.1 bt284.2.2.2.2.2.1 bt284.2.2.2.2.2.2).bind fun t301 => (if t301 = true then ((laws_markRun.f kj10 t261 t262 t265 t268 t271 t274 t277 1).bind fun t302 => (if t302 < 0 then (laws_FnExactThreadsOf.j1 kj10 t257 t260 t279 true a0_0 l0_1 l0_2 l0_3 l0_4 l0_5 a0_6) else ((laws_eqIntS.f kj10 t279 t257).bind fun t303 => (if t303 = true then (laws_FnExactThreadsOf.j1 kj10 t257 t260 t279 (t282 != t260) a0_0 l0_1 l0_2 l0_3 l0_4 l0_5 a0_6) else (laws_FnExactThreadsOf.j1 kj10 t257 t260 t279 true a0_0 l0_1 l0_2 l0_3 l0_4 l0_5 a0_6))))) else (some false)))) = some r := by rw [if_neg (show ¬ (false = true) by decide)] at H; exact H
     clear H
     have H := H1
     clear H1
     replace H := Option.bind_eq_some_iff.mp H
     obtain ⟨⟨t284, t285, t288, t291, t294, t297, t300⟩, A410, H⟩ := H
     replace H : ((laws_eqRun.f kj10 t261 t262 t265 t268 t271 t274 t277 t284 t285 t288 t291 t294 t297 t300).bind fun t301 => (if t301 = true then ((laws_markRun.f kj10 t261 t262 t265 t268 t271 t274 t277 1).bind fun t302 => (if t302 < 0 then (laws_FnExactThreadsOf.j1 kj10 t257 t260 t279 true a0_0 l0_1 l0_2 l0_3 l0_4 l0_5 a0_6) else ((laws_eqIntS.f kj10 t279 t257).bind fun t303 => (if t303 = true then (laws_FnExactThreadsOf.j1 kj10 t257 t260 t279 (t282 != t260) a0_0 l0_1 l0_2 l0_3 l0_4 l0_5 a0_6) else (laws_FnExactThreadsOf.j1 kj10 t257 t260 t279 true a0_0 l0_1 l0_2 l0_3 l0_4 l0_5 a0_6))))) else (some false))) = some r := H
     have A41 := Aside0.mk A410
     clear A410
     replace H := Option.bind_eq_some_iff.mp H
     obtain ⟨t301, A420, H⟩ := H
     replace H : (if t301 = true then ((laws_markRun.f kj10 t261 t262 t265 t268 t271 t274 t277 1).bind fun t302 => (if t302 < 0 then (laws_FnExactThreadsOf.j1 kj10 t257 t260 t279 true a0_0 l0_1 l0_2 l0_3 l0_4 l0_5 a0_6) else ((laws_eqIntS.f kj10 t279 t257).bind fun t303 => (if t303 = true then (laws_FnExactThreadsOf.j1 kj10 t257 t260 t279 (t282 != t260) a0_0 l0_1 l0_2 l0_3 l0_4 l0_5 a0_6) else (laws_FnExactThreadsOf.j1 kj10 t257 t260 t279 true a0_0 l0_1 l0_2 l0_3 l0_4 l0_5 a0_6))))) else (some false)) = some r := H
     have A42 := Aside0.mk A420
     clear A420
     by_cases c43 : t301 = true
     ·subst c43
      have H1 : ((laws_markRun.f kj10 t261 t262 t265 t268 t271 t274 t277 1).bind fun t302 => (if t302 < 0 then (laws_FnExactThreadsOf.j1 kj10 t257 t260 t279 true a0_0 l0_1 l0_2 l0_3 l0_4 l0_5 a0_6) else ((laws_eqIntS.f kj10 t279 t257).bind fun t303 => (if t303 = true then (laws_FnExactThreadsOf.j1 kj10 t257 t260 t279 (t282 != t260) a0_0 l0_1 l0_2 l0_3 l0_4 l0_5 a0_6) else (laws_FnExactThreadsOf.j1 kj10 t257 t260 t279 true a0_0 l0_1 l0_2 l0_3 l0_4 l0_5 a0_6))))) = some r := by rw [if_pos rfl] at H; exact H
      clear H
      have H := H1
      clear H1
      replace H := Option.bind_eq_some_iff.mp H
      obtain ⟨t302, A440, H⟩ := H
      replace H : (if t302 < 0 then (laws_FnExactThreadsOf.j1 kj10 t257 t260 t279 true a0_0 l0_1 l0_2 l0_3 l0_4 l0_5 a0_6) else ((laws_eqIntS.f kj10 t279 t257).bind fun t303 => (if t303 = true then (laws_FnExactThreadsOf.j1 kj10 t257 t260 t279 (t282 != t260) a0_0 l0_1 l0_2 l0_3 l0_4 l0_5 a0_6) else (laws_FnExactThreadsOf.j1 kj10 t257 t260 t279 true a0_0 l0_1 l0_2 l0_3 l0_4 l0_5 a0_6)))) = some r := H
      have A44 := Aside0.mk A440
      clear A440
      have HC45 := Aside0.mk H
      clear H
      try go_wp2
      have n0_ := Aside0.mk (Kd.R_drew HO_4.out)
      have n1_ := Aside0.mk (Kd.R_drew HO_7.out)
      have n2_ := Aside0.mk (Kd.R_drew HO_279001.out)
      have n3_ := Aside0.mk (Kd.R_drew HO_279002.out)
      have n4_ := Aside0.mk (Kd.S_drew HO_279003.out)
      have n5_ := Aside0.mk (Kd.R_drew HO_279004.out)
      have n6_ := Aside0.mk (Kd.R_drew HO_279005.out)
      have n7_ := Aside0.mk (blk_drew BK238.out)
      have n8_ := Aside0.mk (blk_drew BK278.out)
      have n9_ := Aside0.mk (below_drew1 HB.out)
      clear HO_4
      clear HO_7
      clear HO_279001
      clear HO_279002
      clear HO_279003
      clear HO_279004
      clear HO_279005
      clear BK238
      clear BK278
      clear HB
      have HO_4 := n0_
      have HO_7 := n1_
      have HO_279001 := n2_
      have HO_279002 := n3_
      have HO_279003 := n4_
      have HO_279004 := n5_
      have HO_279005 := n6_
      have BK238 := n7_
      have BK278 := n8_
      have HB := n9_
      clear n0_ n1_ n2_ n3_ n4_ n5_ n6_ n7_ n8_ n9_
      refine start_ (n := 5) (S := fun w' => w'.cell? ⟨gb278, 0, none⟩ = some (.int .i64 t261) ∧ w'.cell? ⟨gb278, 1, none⟩ = some (.slice Ao28 t262.length co28) ∧ w'.cell? ⟨gb278, 2, none⟩ = some (.slice Ao29 t265.length co29) ∧ w'.cell? ⟨gb278, 3, none⟩ = some (.slice Ao30 t268.length co30) ∧ w'.cell? ⟨gb278, 4, none⟩ = some (.slice Ao31 t271.length co31) ∧ w'.cell? ⟨gb278, 5, none⟩ = some (.slice Ao32 t274.length co32) ∧ w'.cell? ⟨gb278, 6, none⟩ = some (.int .i64 t277) ∧ w'.cell? ⟨gb238, 0, none⟩ = some (.int .i64 a0_0) ∧ w'.cell? ⟨gb238, 1, none⟩ = some (.slice A0_1 l0_1.length c0_1) ∧ w'.cell? ⟨gb238, 2, none⟩ = some (.slice A0_2 l0_2.length c0_2) ∧ w'.cell? ⟨gb238, 3, none⟩ = some (.slice A0_3 l0_3.length c0_3) ∧ w'.cell? ⟨gb238, 4, none⟩ = some (.slice A0_4 l0_4.length c0_4) ∧ w'.cell? ⟨gb238, 5, none⟩ = some (.slice A0_5 l0_5.length c0_5) ∧ w'.cell? ⟨gb238, 6, none⟩ = some (.int .i64 a0_6)) (ds := []) #[false, false, false, false, false] (by kernel_rfl) rfl rfl ⟨(blk_cell BK278.out 0).trans rfl, (blk_cell BK278.out 1).trans rfl, (blk_cell BK278.out 2).trans rfl, (blk_cell BK278.out 3).trans rfl, (blk_cell BK278.out 4).trans rfl, (blk_cell BK278.out 5).trans rfl, (blk_cell BK278.out 6).trans rfl, (blk_cell BK238.out 0).trans rfl, (blk_cell BK238.out 1).trans rfl, (blk_cell BK238.out 2).trans rfl, (blk_cell BK238.out 3).trans rfl, (blk_cell BK238.out 4).trans rfl, (blk_cell BK238.out 5).trans rfl, (blk_cell BK238.out 6).trans rfl⟩ (fun hHeld => ?_)
      generalize wc.drew = w46 at HO_4 HO_7 HO_279001 HO_279002 HO_279003 HO_279004 HO_279005 BK238 BK278 HB hHeld ⊢
      refine take_ (i := 0) (N := some 41) (v := ?_) (a' := ?_) #[true, false, false, false, false] rfl rfl (by kernel_rfl) (fun _ _ _ h => h) (Or.inl ⟨by rfl, ?_⟩) hHeld ?_ ?_
      rotate_left
      ·rintro w' ⟨s0, s1, s2, s3, s4, s5, s6, s7, s8, s9, s10, s11, s12, s13⟩
       go_simp
       with_reducible rfl
      rotate_left
      ·simp only [Act.put, List.setIfInBounds_toArray, List.set_cons_zero, List.set_cons_succ, i64_w, i32_w]
       rfl
      refine take_ (i := 1) (N := some 42) (v := ?_) (a' := ?_) #[true, true, false, false, false] rfl rfl (by kernel_rfl) (fun _ _ _ h => h) (Or.inl ⟨by rfl, ?_⟩) hHeld ?_ ?_
      rotate_left
      ·rintro w' ⟨s0, s1, s2, s3, s4, s5, s6, s7, s8, s9, s10, s11, s12, s13⟩
       go_simp
       with_reducible rfl
      rotate_left
      ·simp only [Act.put, List.setIfInBounds_toArray, List.set_cons_zero, List.set_cons_succ, i64_w, i32_w]
       rfl
      refine one_ (i := 2) (N := some 43) #[true, true, true, false, false] rfl rfl (by kernel_rfl) (by decide) (fun K hK => ?_)
      first | refine goes_ Try.func47 (by kernel_rfl) rfl #[.agg #[.int .i64 a0_0, .slice A0_1 l0_1.length c0_1, .slice A0_2 l0_2.length c0_2, .slice A0_3 l0_3.length c0_3, .slice A0_4 l0_4.length c0_4, .slice A0_5 l0_5.length c0_5, .int .i64 a0_6]] (by rfl) rfl rfl (by (try simp only [List.map_toArray, List.map_cons, List.map_nil]); first | done | rfl | (simp only [List.length_drop, List.length_take]; rfl)) ?_ | refine goesV_ Try.func47 (by kernel_rfl) rfl #[.agg #[.int .i64 a0_0, .slice A0_1 l0_1.length c0_1, .slice A0_2 l0_2.length c0_2, .slice A0_3 l0_3.length c0_3, .slice A0_4 l0_4.length c0_4, .slice A0_5 l0_5.length c0_5, .int .i64 a0_6]] (by rfl) rfl rfl (by rfl) (by first | rfl | (simp only [List.map_toArray, List.map_cons, List.map_nil]; rfl)) ?_
      with_reducible refine (laws_toRun.calls kj10 a0_0 _ _ l0_1 _ _ l0_2 _ _ l0_3 _ _ l0_4 _ _ l0_5 a0_6 t284 t285 t288 t291 t294 t297 t300 _ ?side1 ?side2 ?side3 ?side4 ?side5 ?side6 ?side7 ?side8 ?side9 ?side10 A41.out).mono ?_
      (case side1 => repeat (first | exact (Kd.C_below HR0_1.out HB.out) | with_reducible apply cA_|with_reducible apply cN_|with_reducible apply cD_))
      (case side2 => exact HC0_1.out)
      (case side3 => repeat (first | exact (Kd.C_below HR0_2.out HB.out) | with_reducible apply cA_|with_reducible apply cN_|with_reducible apply cD_))
      (case side4 => exact HC0_2.out)
      (case side5 => repeat (first | exact (Kd.C_below HR0_3.out HB.out) | with_reducible apply cA_|with_reducible apply cN_|with_reducible apply cD_))
      (case side6 => exact HC0_3.out)
      (case side7 => repeat (first | exact (Kd.C_below HR0_4.out HB.out) | with_reducible apply cA_|with_reducible apply cN_|with_reducible apply cD_))
      (case side8 => exact HC0_4.out)
      (case side9 => repeat (first | exact (Kd.C_below HR0_5.out HB.out) | with_reducible apply cA_|with_reducible apply cN_|with_reducible apply cD_))
      (case side10 => exact HC0_5.out)
      rintro e w47 ⟨v286, v289, v292, v295, v298, rfl, ho0, ho1, ho2, ho3, ho4, hb⟩
      refine ⟨_, rfl, ?_⟩
      have n0_ := Aside0.mk (Kd.R_mono (Kd.R_told (Kd.R_told (Kd.R_old (by (with_reducible repeat first|apply rA_|apply rN_|apply rD_); exact HO_4.out) hb) (by first | exact Kd.R_base ho1 | exact Kd.S_base ho1 | exact Kd.R_base ho1)) (by first | exact Kd.R_base ho4 | exact Kd.S_base ho4 | exact Kd.R_base ho4)) (fun _ h_ => h_.1))
      have n1_ := Aside0.mk (Kd.R_mono (Kd.R_told (Kd.R_told (Kd.R_old (by (with_reducible repeat first|apply rA_|apply rN_|apply rD_); exact HO_7.out) hb) (by first | exact Kd.R_base ho1 | exact Kd.S_base ho1 | exact Kd.R_base ho1)) (by first | exact Kd.R_base ho4 | exact Kd.S_base ho4 | exact Kd.R_base ho4)) (fun _ h_ => h_.1))
      have n2_ := Aside0.mk (Kd.R_elder' (by (with_reducible repeat first|apply rA_|apply rN_|apply rD_); exact HO_279001.out) (by first | exact Kd.R_base ho0 | exact Kd.S_base ho0 | exact Kd.R_base ho0) hb)
      have n3_ := Aside0.mk (Kd.R_mono (Kd.R_told (Kd.R_told (Kd.R_old (by (with_reducible repeat first|apply rA_|apply rN_|apply rD_); exact HO_279002.out) hb) (by first | exact Kd.R_base ho1 | exact Kd.S_base ho1 | exact Kd.R_base ho1)) (by first | exact Kd.R_base ho4 | exact Kd.S_base ho4 | exact Kd.R_base ho4)) (fun _ h_ => h_.1))
      have n4_ := Aside0.mk (Kd.S_mono (Kd.S_told (Kd.S_told (Kd.S_old (by (with_reducible repeat first|apply sA_|apply sN_|apply sD_); exact HO_279003.out) hb) (by first | exact Kd.S_base ho2 | exact Kd.R_base ho2)) (by first | exact Kd.R_base ho3 | exact Kd.S_base ho3 | exact Kd.R_base ho3)) (fun _ h_ => h_.1))
      have n5_ := Aside0.mk (Kd.R_elder' (by (with_reducible repeat first|apply rA_|apply rN_|apply rD_); exact HO_279004.out) (by first | exact Kd.R_base ho3 | exact Kd.S_base ho3 | exact Kd.R_base ho3) hb)
      have n6_ := Aside0.mk (Kd.R_mono (Kd.R_told (Kd.R_told (Kd.R_old (by (with_reducible repeat first|apply rA_|apply rN_|apply rD_); exact HO_279005.out) hb) (by first | exact Kd.R_base ho1 | exact Kd.S_base ho1 | exact Kd.R_base ho1)) (by first | exact Kd.R_base ho4 | exact Kd.S_base ho4 | exact Kd.R_base ho4)) (fun _ h_ => h_.1))
      have n7_ := Aside0.mk (Kd.R_lower (Kd.R_new' ho0 (Kd.R_lt (by (with_reducible repeat first|apply rA_|apply rN_|apply rD_); exact HO_279001.out))) (below_size (by repeat (first | (with_reducible first|exact HB.out|apply vA_|apply vN_|apply vD_ | refine vS_ ?_ GE238.out | refine vS_ ?_ GE278.out) | exact HB.out))))
      have n8_ := Aside0.mk (Kd.R_lower (Kd.R_new' (Kd.R_new' (Kd.R_new' (Kd.R_new' ho1 (Kd.R_lt (by (with_reducible repeat first|apply rA_|apply rN_|apply rD_); exact HO_4.out))) (Kd.R_lt (by (with_reducible repeat first|apply rA_|apply rN_|apply rD_); exact HO_7.out))) (Kd.R_lt (by (with_reducible repeat first|apply rA_|apply rN_|apply rD_); exact HO_279002.out))) (Kd.R_lt (by (with_reducible repeat first|apply rA_|apply rN_|apply rD_); exact HO_279005.out))) (below_size (by repeat (first | (with_reducible first|exact HB.out|apply vA_|apply vN_|apply vD_ | refine vS_ ?_ GE238.out | refine vS_ ?_ GE278.out) | exact HB.out))))
      have n9_ := Aside0.mk (Kd.S_lower (Kd.S_new' (Kd.S_new' ho2 (Kd.S_lt (by (with_reducible repeat first|apply sA_|apply sN_|apply sD_); exact HO_279003.out))) (Kd.R_lt (by (with_reducible repeat first|apply rA_|apply rN_|apply rD_); exact HO_279004.out))) (below_size (by repeat (first | (with_reducible first|exact HB.out|apply vA_|apply vN_|apply vD_ | refine vS_ ?_ GE238.out | refine vS_ ?_ GE278.out) | exact HB.out))))
      have n10_ := Aside0.mk (Kd.R_lower (Kd.R_new' ho3 (Kd.R_lt (by (with_reducible repeat first|apply rA_|apply rN_|apply rD_); exact HO_279004.out))) (below_size (by repeat (first | (with_reducible first|exact HB.out|apply vA_|apply vN_|apply vD_ | refine vS_ ?_ GE238.out | refine vS_ ?_ GE278.out) | exact HB.out))))
      have n11_ := Aside0.mk (Kd.R_lower (Kd.R_new' (Kd.R_new' (Kd.R_new' (Kd.R_new' ho4 (Kd.R_lt (by (with_reducible repeat first|apply rA_|apply rN_|apply rD_); exact HO_4.out))) (Kd.R_lt (by (with_reducible repeat first|apply rA_|apply rN_|apply rD_); exact HO_7.out))) (Kd.R_lt (by (with_reducible repeat first|apply rA_|apply rN_|apply rD_); exact HO_279002.out))) (Kd.R_lt (by (with_reducible repeat first|apply rA_|apply rN_|apply rD_); exact HO_279005.out))) (below_size (by repeat (first | (with_reducible first|exact HB.out|apply vA_|apply vN_|apply vD_ | refine vS_ ?_ GE238.out | refine vS_ ?_ GE278.out) | exact HB.out))))
      have n12_ := Aside0.mk (blk_below (by (with_reducible repeat first|apply qN_|apply qD_|apply qA_); exact BK238.out) hb)
      have n13_ := Aside0.mk (blk_below (by (with_reducible repeat first|apply qN_|apply qD_|apply qA_); exact BK278.out) hb)
      have n14_ := Aside0.mk (below_step (by repeat (first | (with_reducible first|exact HB.out|apply vA_|apply vN_|apply vD_ | refine vS_ ?_ GE238.out | refine vS_ ?_ GE278.out) | exact HB.out)) hb)
      clear HO_4
      clear HO_7
      clear HO_279001
      clear HO_279002
      clear HO_279003
      clear HO_279004
      clear HO_279005
      clear BK238
      clear BK278
      clear HB
      have HO_4 := n0_
      have HO_7 := n1_
      have HO_279001 := n2_
      have HO_279002 := n3_
      have HO_279003 := n4_
      have HO_279004 := n5_
      have HO_279005 := n6_
      have HO287 := n7_
      have HO290 := n8_
      have HO293 := n9_
      have HO296 := n10_
      have HO299 := n11_
      have BK238 := n12_
      have BK278 := n13_
      have HB := n14_
      clear n0_ n1_ n2_ n3_ n4_ n5_ n6_ n7_ n8_ n9_ n10_ n11_ n12_ n13_ n14_
      (try clear hb)
      (try clear hb2)
      (try clear hk)
      (try clear hi)
      (try clear ho0)
      (try clear ho1)
      (try clear ho2)
      (try clear ho3)
      (try clear ho4)
      obtain ⟨Ao48, co48, eo48⟩ := Kd.R_slice HO287.out
      (first | subst eo48 | (injection eo48 with f1_ f2_ f3_; have f4_ := f1_.symm; have f5_ := f3_.symm; clear f1_ f2_ f3_; subst f4_; subst f5_))
      obtain ⟨Ao49, co49, eo49⟩ := Kd.R_slice HO290.out
      (first | subst eo49 | (injection eo49 with f1_ f2_ f3_; have f4_ := f1_.symm; have f5_ := f3_.symm; clear f1_ f2_ f3_; subst f4_; subst f5_))
      obtain ⟨Ao50, co50, eo50⟩ := Kd.S_slice HO293.out
      (first | subst eo50 | (injection eo50 with f1_ f2_ f3_; have f4_ := f1_.symm; have f5_ := f3_.symm; clear f1_ f2_ f3_; subst f4_; subst f5_))
      obtain ⟨Ao51, co51, eo51⟩ := Kd.R_slice HO296.out
      (first | subst eo51 | (injection eo51 with f1_ f2_ f3_; have f4_ := f1_.symm; have f5_ := f3_.symm; clear f1_ f2_ f3_; subst f4_; subst f5_))
      obtain ⟨Ao52, co52, eo52⟩ := Kd.R_slice HO299.out
      (first | subst eo52 | (injection eo52 with f1_ f2_ f3_; have f4_ := f1_.symm; have f5_ := f3_.symm; clear f1_ f2_ f3_; subst f4_; subst f5_))
      refine hK.out _ _ ⟨(blk_cell BK278.out 0).trans rfl, (blk_cell BK278.out 1).trans rfl, (blk_cell BK278.out 2).trans rfl, (blk_cell BK278.out 3).trans rfl, (blk_cell BK278.out 4).trans rfl, (blk_cell BK278.out 5).trans rfl, (blk_cell BK278.out 6).trans rfl, (blk_cell BK238.out 0).trans rfl, (blk_cell BK238.out 1).trans rfl, (blk_cell BK238.out 2).trans rfl, (blk_cell BK238.out 3).trans rfl, (blk_cell BK238.out 4).trans rfl, (blk_cell BK238.out 5).trans rfl, (blk_cell BK238.out 6).trans rfl⟩ (fun hHeld => ?_)
      clear hK K
      refine norm_ (a' := ?_) ?_ ?_
      rotate_left
      ·show Act.put _ (some 43) _ = _
       simp only [Act.put, List.setIfInBounds_toArray, List.set_cons_zero, List.set_cons_succ, i64_w, i32_w]
       rfl
      refine one_ (i := 3) (N := some 44) #[true, true, true, true, false] rfl rfl (by kernel_rfl) (by decide) (fun K hK => ?_)
      first | refine goes_ Try.func49 (by kernel_rfl) rfl #[.agg #[.int .i64 t261, .slice Ao28 t262.length co28, .slice Ao29 t265.length co29, .slice Ao30 t268.length co30, .slice Ao31 t271.length co31, .slice Ao32 t274.length co32, .int .i64 t277], .agg #[.int .i64 t284, .slice Ao48 t285.length co48, .slice Ao49 t288.length co49, .slice Ao50 t291.length co50, .slice Ao51 t294.length co51, .slice Ao52 t297.length co52, .int .i64 t300]] (by rfl) rfl rfl (by (try simp only [List.map_toArray, List.map_cons, List.map_nil]); first | done | rfl | (simp only [List.length_drop, List.length_take]; rfl)) ?_ | refine goesV_ Try.func49 (by kernel_rfl) rfl #[.agg #[.int .i64 t261, .slice Ao28 t262.length co28, .slice Ao29 t265.length co29, .slice Ao30 t268.length co30, .slice Ao31 t271.length co31, .slice Ao32 t274.length co32, .int .i64 t277], .agg #[.int .i64 t284, .slice Ao48 t285.length co48, .slice Ao49 t288.length co49, .slice Ao50 t291.length co50, .slice Ao51 t294.length co51, .slice Ao52 t297.length co52, .int .i64 t300]] (by rfl) rfl rfl (by rfl) (by first | rfl | (simp only [List.map_toArray, List.map_cons, List.map_nil]; rfl)) ?_
      with_reducible refine (laws_eqRun.calls kj10 t261 _ _ t262 _ _ t265 _ _ t268 _ _ t271 _ _ t274 t277 t284 _ _ t285 _ _ t288 _ _ t291 _ _ t294 _ _ t297 t300 true _ ?side1 ?side2 ?side3 ?side4 ?side5 ?side6 ?side7 ?side8 ?side9 ?side10 ?side11 ?side12 ?side13 ?side14 ?side15 ?side16 ?side17 ?side18 ?side19 ?side20 A42.out).mono ?_
      (case side1 => repeat (first | exact (Kd.R_reads' HO_279001.out).2.2 | with_reducible apply cA_|with_reducible apply cN_|with_reducible apply cD_))
      (case side2 => exact (Kd.R_reads' HO_279001.out).2.1)
      (case side3 => repeat (first | exact (Kd.R_reads' HO_279002.out).2.2 | with_reducible apply cA_|with_reducible apply cN_|with_reducible apply cD_))
      (case side4 => exact (Kd.R_reads' HO_279002.out).2.1)
      (case side5 => repeat (first | exact (Kd.S_reads' HO_279003.out).2.2 | with_reducible apply cA_|with_reducible apply cN_|with_reducible apply cD_))
      (case side6 => exact (Kd.S_reads' HO_279003.out).2.1)
      (case side7 => repeat (first | exact (Kd.R_reads' HO_279004.out).2.2 | with_reducible apply cA_|with_reducible apply cN_|with_reducible apply cD_))
      (case side8 => exact (Kd.R_reads' HO_279004.out).2.1)
      (case side9 => repeat (first | exact (Kd.R_reads' HO_279005.out).2.2 | with_reducible apply cA_|with_reducible apply cN_|with_reducible apply cD_))
      (case side10 => exact (Kd.R_reads' HO_279005.out).2.1)
      (case side11 => repeat (first | exact (Kd.R_reads' HO287.out).2.2 | with_reducible apply cA_|with_reducible apply cN_|with_reducible apply cD_))
      (case side12 => exact (Kd.R_reads' HO287.out).2.1)
      (case side13 => repeat (first | exact (Kd.R_reads' HO290.out).2.2 | with_reducible apply cA_|with_reducible apply cN_|with_reducible apply cD_))
      (case side14 => exact (Kd.R_reads' HO290.out).2.1)
      (case side15 => repeat (first | exact (Kd.S_reads' HO293.out).2.2 | with_reducible apply cA_|with_reducible apply cN_|with_reducible apply cD_))
      (case side16 => exact (Kd.S_reads' HO293.out).2.1)
      (case side17 => repeat (first | exact (Kd.R_reads' HO296.out).2.2 | with_reducible apply cA_|with_reducible apply cN_|with_reducible apply cD_))
      (case side18 => exact (Kd.R_reads' HO296.out).2.1)
      (case side19 => repeat (first | exact (Kd.R_reads' HO299.out).2.2 | with_reducible apply cA_|with_reducible apply cN_|with_reducible apply cD_))
      (case side20 => exact (Kd.R_reads' HO299.out).2.1)
      rintro e w53 ⟨rfl, hb⟩
      refine ⟨_, rfl, ?_⟩
      have n0_ := Aside0.mk (Kd.R_below (by (with_reducible repeat first|apply rA_|apply rN_|apply rD_); exact HO_4.out) hb)
      have n1_ := Aside0.mk (Kd.R_below (by (with_reducible repeat first|apply rA_|apply rN_|apply rD_); exact HO_7.out) hb)
      have n2_ := Aside0.mk (Kd.R_below (by (with_reducible repeat first|apply rA_|apply rN_|apply rD_); exact HO_279001.out) hb)
      have n3_ := Aside0.mk (Kd.R_below (by (with_reducible repeat first|apply rA_|apply rN_|apply rD_); exact HO_279002.out) hb)
      have n4_ := Aside0.mk (Kd.S_below (by (with_reducible repeat first|apply sA_|apply sN_|apply sD_); exact HO_279003.out) hb)
      have n5_ := Aside0.mk (Kd.R_below (by (with_reducible repeat first|apply rA_|apply rN_|apply rD_); exact HO_279004.out) hb)
      have n6_ := Aside0.mk (Kd.R_below (by (with_reducible repeat first|apply rA_|apply rN_|apply rD_); exact HO_279005.out) hb)
      have n7_ := Aside0.mk (Kd.R_below (by (with_reducible repeat first|apply rA_|apply rN_|apply rD_); exact HO287.out) hb)
      have n8_ := Aside0.mk (Kd.R_below (by (with_reducible repeat first|apply rA_|apply rN_|apply rD_); exact HO290.out) hb)
      have n9_ := Aside0.mk (Kd.S_below (by (with_reducible repeat first|apply sA_|apply sN_|apply sD_); exact HO293.out) hb)
      have n10_ := Aside0.mk (Kd.R_below (by (with_reducible repeat first|apply rA_|apply rN_|apply rD_); exact HO296.out) hb)
      have n11_ := Aside0.mk (Kd.R_below (by (with_reducible repeat first|apply rA_|apply rN_|apply rD_); exact HO299.out) hb)
      have n12_ := Aside0.mk (blk_below (by (with_reducible repeat first|apply qN_|apply qD_|apply qA_); exact BK238.out) hb)
      have n13_ := Aside0.mk (blk_below (by (with_reducible repeat first|apply qN_|apply qD_|apply qA_); exact BK278.out) hb)
      have n14_ := Aside0.mk (below_step (by repeat (first | (with_reducible first|exact HB.out|apply vA_|apply vN_|apply vD_ | refine vS_ ?_ GE238.out | refine vS_ ?_ GE278.out) | exact HB.out)) hb)
      clear HO_4
      clear HO_7
      clear HO_279001
      clear HO_279002
      clear HO_279003
      clear HO_279004
      clear HO_279005
      clear HO287
      clear HO290
      clear HO293
      clear HO296
      clear HO299
      clear BK238
      clear BK278
      clear HB
      have HO_4 := n0_
      have HO_7 := n1_
      have HO_279001 := n2_
      have HO_279002 := n3_
      have HO_279003 := n4_
      have HO_279004 := n5_
      have HO_279005 := n6_
      have HO287 := n7_
      have HO290 := n8_
      have HO293 := n9_
      have HO296 := n10_
      have HO299 := n11_
      have BK238 := n12_
      have BK278 := n13_
      have HB := n14_
      clear n0_ n1_ n2_ n3_ n4_ n5_ n6_ n7_ n8_ n9_ n10_ n11_ n12_ n13_ n14_
      (try clear hb)
      (try clear hb2)
      (try clear hk)
      (try clear hi)
      refine hK.out _ _ ⟨(blk_cell BK278.out 0).trans rfl, (blk_cell BK278.out 1).trans rfl, (blk_cell BK278.out 2).trans rfl, (blk_cell BK278.out 3).trans rfl, (blk_cell BK278.out 4).trans rfl, (blk_cell BK278.out 5).trans rfl, (blk_cell BK278.out 6).trans rfl, (blk_cell BK238.out 0).trans rfl, (blk_cell BK238.out 1).trans rfl, (blk_cell BK238.out 2).trans rfl, (blk_cell BK238.out 3).trans rfl, (blk_cell BK238.out 4).trans rfl, (blk_cell BK238.out 5).trans rfl, (blk_cell BK238.out 6).trans rfl⟩ (fun hHeld => ?_)
      clear hK K
      refine norm_ (a' := ?_) ?_ ?_
      rotate_left
      ·show Act.put _ (some 44) _ = _
       simp only [Act.put, List.setIfInBounds_toArray, List.set_cons_zero, List.set_cons_succ, i64_w, i32_w]
       rfl
      refine pure_ (i := 4) (N := some 45) (v := ?_) (a' := ?_) #[true, true, true, true, true] rfl rfl (by kernel_rfl) (fun _ _ _ h => h) (Or.inl ⟨by rfl, ?_⟩) ?_ ?_
      rotate_left
      ·intro w'
       go_simp
       with_reducible rfl
      rotate_left
      ·simp only [Act.put, List.setIfInBounds_toArray, List.set_cons_zero, List.set_cons_succ, i64_w, i32_w]
       rfl
      refine done_ (by kernel_rfl) ?_
      have hnb54 := NB278_238.out
      have hnc54 := NB238_278.out
      have hcz55_0 : w53.cell? ⟨gb278, 0, none⟩ = some (.int .i64 t261) := (blk_cell BK278.out 0).trans rfl
      have hcz55_1 : w53.cell? ⟨gb278, 1, none⟩ = some (.slice Ao28 t262.length co28) := (blk_cell BK278.out 1).trans rfl
      have hcz55_2 : w53.cell? ⟨gb278, 2, none⟩ = some (.slice Ao29 t265.length co29) := (blk_cell BK278.out 2).trans rfl
      have hcz55_3 : w53.cell? ⟨gb278, 3, none⟩ = some (.slice Ao30 t268.length co30) := (blk_cell BK278.out 3).trans rfl
      have hcz55_4 : w53.cell? ⟨gb278, 4, none⟩ = some (.slice Ao31 t271.length co31) := (blk_cell BK278.out 4).trans rfl
      have hcz55_5 : w53.cell? ⟨gb278, 5, none⟩ = some (.slice Ao32 t274.length co32) := (blk_cell BK278.out 5).trans rfl
      have hcz55_6 : w53.cell? ⟨gb278, 6, none⟩ = some (.int .i64 t277) := (blk_cell BK278.out 6).trans rfl
      have hfz55_0 := blk_frozen BK278.out 0
      have hfz55_1 := blk_frozen BK278.out 1
      have hfz55_2 := blk_frozen BK278.out 2
      have hfz55_3 := blk_frozen BK278.out 3
      have hfz55_4 := blk_frozen BK278.out 4
      have hfz55_5 := blk_frozen BK278.out 5
      have hfz55_6 := blk_frozen BK278.out 6
      go_upto_region 14 with (first | ((with_reducible refine gate_callee (f := 50) rfl ?_); refine goesL_ (some 48) rfl rfl Try.func50 (by kernel_rfl) rfl #[.agg #[.int .i64 t261, .slice Ao28 t262.length co28, .slice Ao29 t265.length co29, .slice Ao30 t268.length co30, .slice Ao31 t271.length co31, .slice Ao32 t274.length co32, .int .i64 t277], .int .i64 1] rfl (by (try simp only [List.map_toArray, List.map_cons, List.map_nil]); first | done | rfl | (simp only [List.length_drop, List.length_take]; rfl)) ?_; (refine (laws_markRun.calls kj10 (fun k_ => some k_ = (.slice Ao28 t262.length co28 : Value).ownBlock) (fun k_ => some k_ = (.slice Ao29 t265.length co29 : Value).ownBlock) _ (fun k_ => some k_ = (.slice Ao31 t271.length co31 : Value).ownBlock) (fun k_ => some k_ = (.slice Ao32 t274.length co32 : Value).ownBlock) (.slice Ao28 t262.length co28) (.slice Ao29 t265.length co29) (.slice Ao30 t268.length co30) (.slice Ao31 t271.length co31) (.slice Ao32 t274.length co32) t261 t262 t265 t268 t271 t274 t277 1 t302 w _ ?side1 (Kd.R_tight rfl HO_279001.out) (Kd.R_tight rfl HO_279002.out) (Kd.S_bound (Kd.S_apart' (Kd.S_apart' (Kd.S_apart' HO_279003.out (Kd.R_typed HO_279001.out) (by decide)) (Kd.R_typed HO_279002.out) (by decide)) (Kd.R_typed HO_279005.out) (by decide))) (Kd.R_tight rfl HO_279004.out) (Kd.R_tight rfl HO_279005.out) (laws_markRun.apart (Kd.R_typed HO_279001.out) (Kd.R_typed HO_279002.out) (by decide)) (fun k_ e_ h_ => (h_.1.1.1.2) e_) (laws_markRun.apart (Kd.R_typed HO_279001.out) (Kd.R_typed HO_279004.out) (by decide)) (laws_markRun.apart (Kd.R_typed HO_279001.out) (Kd.R_typed HO_279005.out) (by decide)) (fun k_ e_ h_ => (h_.1.1.2) e_) (laws_markRun.apart (Kd.R_typed HO_279002.out) (Kd.R_typed HO_279004.out) (by decide)) (fun k_ e_ => (HO_279002.out.1 k_ e_.symm).1.1.2.2) (fun k_ h_ e_ => (h_.1.1.1.1.1.1) e_) (fun k_ h_ e_ => (h_.1.2) e_) (laws_markRun.apart (Kd.R_typed HO_279004.out) (Kd.R_typed HO_279005.out) (by decide)) A44.out).mono ?_); (case side1 => repeat (first | (with_reducible first|exact HB.out|apply vA_|apply vN_|apply vD_ | refine vS_ ?_ GE238.out | refine vS_ ?_ GE278.out) | exact HB.out)); rintro e w56 ⟨rfl, hb, hkp⟩; refine ⟨_, rfl, ?_⟩; have n0_ := Aside0.mk (Kd.R_mono (ok' := fun k_ => some k_ ≠ (v280 : Value).ownBlock ∧ some k_ ≠ (.slice Ao49 t288.length co49 : Value).ownBlock ∧ some k_ ≠ (.slice Ao52 t297.length co52 : Value).ownBlock) (Kd.R_keptB (Kd.R_bound ((Kd.R_apart' (Kd.R_apart' HO_4.out (Kd.R_typed HO_279001.out) (by decide)) (Kd.R_typed HO_279004.out) (by decide)))) hkp (fun k_ hk0_ hs_ => have hk_ := hk0_.1; Or.elim hs_ (fun e_ => (hk_.1.2) e_) (fun e_ => Or.elim e_ (fun e_ => (hk_.1.1.1.1.2.1) e_) (fun e_ => Or.elim e_ (fun h3_ => laws_markRun.clash hk0_.2.2.2 h3_.2.2.2 (by decide)) (fun e_ => Or.elim e_ (fun e_ => (hk_.2) e_) (fun e_ => (hk_.1.1.1.1.2.2) e_)))))) (fun k_ hk0_ => have hk_ := And.intro hk0_.1.1 trivial; ⟨hk_.1.1.1.1.1.1, hk_.1.1.1.1.2, hk_.1.1.1.2⟩)); have n1_ := Aside0.mk (Kd.R_mono (ok' := fun k_ => some k_ ≠ (v258 : Value).ownBlock ∧ some k_ ≠ (.slice Ao49 t288.length co49 : Value).ownBlock ∧ some k_ ≠ (.slice Ao52 t297.length co52 : Value).ownBlock) (Kd.R_keptB (Kd.R_bound ((Kd.R_apart' (Kd.R_apart' HO_7.out (Kd.R_typed HO_279001.out) (by decide)) (Kd.R_typed HO_279004.out) (by decide)))) hkp (fun k_ hk0_ hs_ => have hk_ := hk0_.1; Or.elim hs_ (fun e_ => (hk_.1.2) e_) (fun e_ => Or.elim e_ (fun e_ => (hk_.1.1.1.1.2.1) e_) (fun e_ => Or.elim e_ (fun h3_ => laws_markRun.clash hk0_.2.2.2 h3_.2.2.2 (by decide)) (fun e_ => Or.elim e_ (fun e_ => (hk_.2) e_) (fun e_ => (hk_.1.1.1.1.2.2) e_)))))) (fun k_ hk0_ => have hk_ := And.intro hk0_.1.1 trivial; ⟨hk_.1.1.1.1.1.1, hk_.1.1.1.1.2, hk_.1.1.1.2⟩)); have n2_ := Aside0.mk trivial; have n3_ := Aside0.mk (blk_kept (by (with_reducible repeat first|apply qN_|apply qD_|apply qA_); exact BK238.out) hkp (fun hs_ => Or.elim hs_ (fun e_ => (fun e_ => (Kd.R_ne HO_279001.out BK238.out (by decide)) e_) e_) (fun e_ => Or.elim e_ (fun e_ => (fun e_ => (Kd.R_ne HO_279002.out BK238.out (by decide)) e_) e_) (fun e_ => Or.elim e_ (fun h3_ => (laws_markRun.clash (L := [73]) ⟨_, List.mem_singleton.mpr rfl, _, BK238.out⟩ h3_.2.2.2 (by decide)).elim) (fun e_ => Or.elim e_ (fun e_ => (fun e_ => (Kd.R_ne HO_279004.out BK238.out (by decide)) e_) e_) (fun e_ => (fun e_ => (Kd.R_ne HO_279005.out BK238.out (by decide)) e_) e_)))))); have n4_ := Aside0.mk (blk_kept (by (with_reducible repeat first|apply qN_|apply qD_|apply qA_); exact BK278.out) hkp (fun hs_ => Or.elim hs_ (fun e_ => (fun e_ => (Kd.R_ne HO_279001.out BK278.out (by decide)) e_) e_) (fun e_ => Or.elim e_ (fun e_ => (fun e_ => (Kd.R_ne HO_279002.out BK278.out (by decide)) e_) e_) (fun e_ => Or.elim e_ (fun h3_ => (laws_markRun.clash (L := [80]) ⟨_, List.mem_singleton.mpr rfl, _, BK278.out⟩ h3_.2.2.2 (by decide)).elim) (fun e_ => Or.elim e_ (fun e_ => (fun e_ => (Kd.R_ne HO_279004.out BK278.out (by decide)) e_) e_) (fun e_ => (fun e_ => (Kd.R_ne HO_279005.out BK278.out (by decide)) e_) e_)))))); have n5_ := Aside0.mk trivial; have n6_ := Aside0.mk (Kd.R_mono (ok' := fun k_ => some k_ ≠ (v258 : Value).ownBlock ∧ some k_ ≠ (v280 : Value).ownBlock ∧ some k_ ≠ (.slice Ao52 t297.length co52 : Value).ownBlock) (Kd.R_keptB (Kd.R_bound ((Kd.R_apart' (Kd.R_apart' HO290.out (Kd.R_typed HO_279001.out) (by decide)) (Kd.R_typed HO_279004.out) (by decide)))) hkp (fun k_ hk0_ hs_ => have hk_ := hk0_.1; Or.elim hs_ (fun e_ => (hk_.1.2) e_) (fun e_ => Or.elim e_ (fun e_ => (hk_.1.1.1.2) e_) (fun e_ => Or.elim e_ (fun h3_ => laws_markRun.clash hk0_.2.2.2 h3_.2.2.2 (by decide)) (fun e_ => Or.elim e_ (fun e_ => (hk_.2) e_) (fun e_ => (hk_.1.1.2) e_)))))) (fun k_ hk0_ => have hk_ := And.intro hk0_.1.1 trivial; ⟨hk_.1.1.1.1.1.1.2, hk_.1.1.1.1.1.2, hk_.1.1.1.1.1.1.1⟩)); have n7_ := Aside0.mk trivial; have n8_ := Aside0.mk trivial; have n9_ := Aside0.mk (Kd.R_mono (ok' := fun k_ => some k_ ≠ (v258 : Value).ownBlock ∧ some k_ ≠ (v280 : Value).ownBlock ∧ some k_ ≠ (.slice Ao49 t288.length co49 : Value).ownBlock) (Kd.R_keptB (Kd.R_bound ((Kd.R_apart' (Kd.R_apart' HO299.out (Kd.R_typed HO_279001.out) (by decide)) (Kd.R_typed HO_279004.out) (by decide)))) hkp (fun k_ hk0_ hs_ => have hk_ := hk0_.1; Or.elim hs_ (fun e_ => (hk_.1.2) e_) (fun e_ => Or.elim e_ (fun e_ => (hk_.1.1.1.2) e_) (fun e_ => Or.elim e_ (fun h3_ => laws_markRun.clash hk0_.2.2.2 h3_.2.2.2 (by decide)) (fun e_ => Or.elim e_ (fun e_ => (hk_.2) e_) (fun e_ => (hk_.1.1.2) e_)))))) (fun k_ hk0_ => have hk_ := And.intro hk0_.1.1 trivial; ⟨hk_.1.1.1.1.1.1.2, hk_.1.1.1.1.1.2, hk_.1.1.1.1.1.1.1⟩)); have n10_ := Aside0.mk (hb); clear HO_4; clear HO_7; clear HO_279003; clear BK238; clear BK278; clear HO287; clear HO290; clear HO293; clear HO296; clear HO299; clear HB; clear HO_279001; clear HO_279002; clear HO_279004; clear HO_279005; have HO_4 := n0_; have HO_7 := n1_; have HO_279003 := n2_; have BK238 := n3_; have BK278 := n4_; have HO287 := n5_; have HO290 := n6_; have HO293 := n7_; have HO296 := n8_; have HO299 := n9_; have HB := n10_; clear n0_ n1_ n2_ n3_ n4_ n5_ n6_ n7_ n8_ n9_ n10_; (try clear hb); (try clear hkp)))
      (try simp only [Act.put, List.setIfInBounds_toArray, List.set_cons_zero, List.set_cons_succ])
      go_cut [61] (fun v61 wc => ∃ (kq : Nat) (x61_44 : Bool), v61 = .bool x61_44 ∧ Aside0 (laws_FnExactThreadsOf.j1 kq t257 t260 t279 x61_44 a0_0 l0_1 l0_2 l0_3 l0_4 l0_5 a0_6 = some r) ∧ Aside0 (kq ≤ kj10) ∧ Aside0 (Kd.R (Kd.int .i64) 3 wc w.heap.size (fun k_ => some k_ ≠ (v280 : Value).ownBlock) v258 t257) ∧ Aside0 (Kd.R (Kd.int .i64) 3 wc w.heap.size (fun k_ => some k_ ≠ (v258 : Value).ownBlock) v280 t279) ∧ Aside0 (wc.heap[gb238]? = some (.cells #[.int .i64 a0_0, (.slice A0_1 l0_1.length c0_1), (.slice A0_2 l0_2.length c0_2), (.slice A0_3 l0_3.length c0_3), (.slice A0_4 l0_4.length c0_4), (.slice A0_5 l0_5.length c0_5), .int .i64 a0_6] 73 (0, 0))) ∧ Aside0 (Below w.heap.size w wc))
      case first =>
       have H := HC45.out
       clear HC45
       by_cases c57 : t302 < 0
       ·rw [if_pos c57] at H
        have c57b0 : decide (t302 < 0) = true := decide_eq_true c57
        clear c57
        (first | rw [c57b0] | (simp only [i64_w, i32_w]; rw [c57b0]) | skip)
        have H' := Aside0.mk H
        clear H
        go_wp2
        go_meet
        case rel => exact ⟨_, (true), (by first | rfl | (simp; done) | (simp [*]; done)), H', ⟨by have := HJ10.out; first | omega | exact Nat.le_refl _⟩, ⟨by (with_reducible repeat first|apply rA_|apply rN_|apply rD_); exact Kd.R_mono HO_4.out (fun _ hk => hk.1)⟩, ⟨by (with_reducible repeat first|apply rA_|apply rN_|apply rD_); exact Kd.R_mono HO_7.out (fun _ hk => hk.1)⟩, ⟨by (with_reducible repeat first|apply qN_|apply qD_|apply qA_); exact BK238.out⟩, ⟨by repeat (first | (with_reducible first|exact HB.out|apply vA_|apply vN_|apply vD_ | refine vS_ ?_ GE238.out | refine vS_ ?_ GE278.out) | exact HB.out)⟩⟩
       ·rw [if_neg c57] at H
        have c57b0 : decide (t302 < 0) = false := decide_eq_false c57
        clear c57
        (first | rw [c57b0] | (simp only [i64_w, i32_w]; rw [c57b0]) | skip)
        replace H := Option.bind_eq_some_iff.mp H
        obtain ⟨t303, A580, H⟩ := H
        replace H : (if t303 = true then (laws_FnExactThreadsOf.j1 kj10 t257 t260 t279 (t282 != t260) a0_0 l0_1 l0_2 l0_3 l0_4 l0_5 a0_6) else (laws_FnExactThreadsOf.j1 kj10 t257 t260 t279 true a0_0 l0_1 l0_2 l0_3 l0_4 l0_5 a0_6)) = some r := H
        have A58 := Aside0.mk A580
        clear A580
        by_cases c59 : t303 = true
        ·subst c59
         have H1 : (laws_FnExactThreadsOf.j1 kj10 t257 t260 t279 (t282 != t260) a0_0 l0_1 l0_2 l0_3 l0_4 l0_5 a0_6) = some r := by rw [if_pos rfl] at H; exact H
         clear H
         have H := H1
         clear H1
         have H' := Aside0.mk H
         clear H
         obtain ⟨Ao60, co60, eo60⟩ := Kd.R_slice HO_7.out
         subst eo60
         obtain ⟨Ao61, co61, eo61⟩ := Kd.R_slice HO_4.out
         subst eo61
         go_wp2_with (first | (go_at_call 21; (with_reducible refine (laws_eqIntS.calls kj10 _ _ t279 _ _ t257 true _ ?side1 ?side2 ?side3 ?side4 A58.out).mono ?_); (case side1 => repeat (first | exact (Kd.R_reads' HO_7.out).2.2 | with_reducible apply cA_|with_reducible apply cN_|with_reducible apply cD_)); (case side2 => exact (Kd.R_reads' HO_7.out).2.1); (case side3 => repeat (first | exact (Kd.R_reads' HO_4.out).2.2 | with_reducible apply cA_|with_reducible apply cN_|with_reducible apply cD_)); (case side4 => exact (Kd.R_reads' HO_4.out).2.1); rintro e w' ⟨rfl, ⟨nd, rfl⟩⟩))
         go_meet
         case rel => exact ⟨_, ((t282 != t260)), (by first | rfl | (simp; done) | (simp [*]; done)), H', ⟨by have := HJ10.out; first | omega | exact Nat.le_refl _⟩, ⟨by (with_reducible repeat first|apply rA_|apply rN_|apply rD_); exact Kd.R_mono HO_4.out (fun _ hk => hk.1)⟩, ⟨by (with_reducible repeat first|apply rA_|apply rN_|apply rD_); exact Kd.R_mono HO_7.out (fun _ hk => hk.1)⟩, ⟨by (with_reducible repeat first|apply qN_|apply qD_|apply qA_); exact BK238.out⟩, ⟨by repeat (first | (with_reducible first|exact HB.out|apply vA_|apply vN_|apply vD_ | refine vS_ ?_ GE238.out | refine vS_ ?_ GE278.out) | exact HB.out)⟩⟩
        ·replace c59 := Bool.eq_false_iff.mpr c59
         subst c59
         have H1 : (laws_FnExactThreadsOf.j1 kj10 t257 t260 t279 true a0_0 l0_1 l0_2 l0_3 l0_4 l0_5 a0_6) = some r := by rw [if_neg (show ¬ (false = true) by decide)] at H; exact H
         clear H
         have H := H1
         clear H1
         have H' := Aside0.mk H
         clear H
         obtain ⟨Ao62, co62, eo62⟩ := Kd.R_slice HO_7.out
         subst eo62
         obtain ⟨Ao63, co63, eo63⟩ := Kd.R_slice HO_4.out
         subst eo63
         go_wp2_with (first | (go_at_call 21; (with_reducible refine (laws_eqIntS.calls kj10 _ _ t279 _ _ t257 false _ ?side1 ?side2 ?side3 ?side4 A58.out).mono ?_); (case side1 => repeat (first | exact (Kd.R_reads' HO_7.out).2.2 | with_reducible apply cA_|with_reducible apply cN_|with_reducible apply cD_)); (case side2 => exact (Kd.R_reads' HO_7.out).2.1); (case side3 => repeat (first | exact (Kd.R_reads' HO_4.out).2.2 | with_reducible apply cA_|with_reducible apply cN_|with_reducible apply cD_)); (case side4 => exact (Kd.R_reads' HO_4.out).2.1); rintro e w' ⟨rfl, ⟨nd, rfl⟩⟩))
         go_meet
         case rel => exact ⟨_, (true), (by first | rfl | (simp; done) | (simp [*]; done)), H', ⟨by have := HJ10.out; first | omega | exact Nat.le_refl _⟩, ⟨by (with_reducible repeat first|apply rA_|apply rN_|apply rD_); exact Kd.R_mono HO_4.out (fun _ hk => hk.1)⟩, ⟨by (with_reducible repeat first|apply rA_|apply rN_|apply rD_); exact Kd.R_mono HO_7.out (fun _ hk => hk.1)⟩, ⟨by (with_reducible repeat first|apply qN_|apply qD_|apply qA_); exact BK238.out⟩, ⟨by repeat (first | (with_reducible first|exact HB.out|apply vA_|apply vN_|apply vD_ | refine vS_ ?_ GE238.out | refine vS_ ?_ GE278.out) | exact HB.out)⟩⟩
      case rest =>
       clear HC45
       try clear c2
       try clear p2
       try clear c3
       try clear c3b0
       try clear c4
       try clear c5
       try clear c9
       try clear c21
       try clear c26
       try clear c35
       try clear c40
       try clear c43
       try clear c45
       try clear c46
       try clear c47
       try clear c48
       try clear c49
       try clear c50
       try clear c54
       try clear c57
       try clear c57b0
       try clear c59
       try clear hcz13_0
       try clear hcz13_1
       try clear hcz13_2
       try clear hcz13_3
       try clear hcz13_4
       try clear hcz13_5
       try clear hcz13_6
       try clear hcz15_0
       try clear hcz15_1
       try clear hcz15_2
       try clear hcz15_3
       try clear hcz15_4
       try clear hcz15_5
       try clear hcz15_6
       try clear hcz23_0
       try clear hcz23_1
       try clear hcz23_2
       try clear hcz23_3
       try clear hcz23_4
       try clear hcz23_5
       try clear hcz23_6
       try clear hcz27_0
       try clear hcz27_1
       try clear hcz27_2
       try clear hcz27_3
       try clear hcz27_4
       try clear hcz27_5
       try clear hcz27_6
       try clear hcz55_0
       try clear hcz55_1
       try clear hcz55_2
       try clear hcz55_3
       try clear hcz55_4
       try clear hcz55_5
       try clear hcz55_6
       try clear hcz5_0
       try clear hcz5_1
       try clear hcz5_2
       try clear hcz5_3
       try clear hcz5_4
       try clear hcz5_5
       try clear hcz5_6
       try clear hfz13_0
       try clear hfz13_1
       try clear hfz13_2
       try clear hfz13_3
       try clear hfz13_4
       try clear hfz13_5
       try clear hfz13_6
       try clear hfz15_0
       try clear hfz15_1
       try clear hfz15_2
       try clear hfz15_3
       try clear hfz15_4
       try clear hfz15_5
       try clear hfz15_6
       try clear hfz23_0
       try clear hfz23_1
       try clear hfz23_2
       try clear hfz23_3
       try clear hfz23_4
       try clear hfz23_5
       try clear hfz23_6
       try clear hfz27_0
       try clear hfz27_1
       try clear hfz27_2
       try clear hfz27_3
       try clear hfz27_4
       try clear hfz27_5
       try clear hfz27_6
       try clear hfz55_0
       try clear hfz55_1
       try clear hfz55_2
       try clear hfz55_3
       try clear hfz55_4
       try clear hfz55_5
       try clear hfz55_6
       try clear hfz5_0
       try clear hfz5_1
       try clear hfz5_2
       try clear hfz5_3
       try clear hfz5_4
       try clear hfz5_5
       try clear hfz5_6
       try clear p2
       obtain ⟨kq, x61_44, rfl, HA, HJ44, HO_4, HO_7, BK238, HB⟩ := hcut
       cases kq with
       | zero => exact absurd HA.out (by simp [laws_FnExactThreadsOf.j1])
       | succ kj44 =>
        have H := HA.out
        clear HA
        simp only [laws_FnExactThreadsOf.j1] at H
        by_cases c64 : x61_44 = true
        ·subst c64
         have H1 : (some false) = some r := by rw [if_pos rfl] at H; exact H
         clear H
         have H := H1
         clear H1
         obtain rfl := Option.some.inj H
         go_wp2
         go_ret
         exact ⟨by first | rfl | (simp [errW_none, errW_some] <;> rfl) | (simp [*, errW_none, errW_some] <;> rfl), by repeat (first | (with_reducible first|exact HB.out|apply vA_|apply vN_|apply vD_ | refine vS_ ?_ GE238.out) | exact HB.out)⟩
        ·replace c64 := Bool.eq_false_iff.mpr c64
         subst c64
         have H1 : ((laws_markIntS.f kj44 t279 1).bind fun bt304 => ((laws_heldIntS.f kj44 bt304.2 1).bind fun t306 => (if t306 < 0 then (some false) else (if t306 = bt304.1 then ((laws_toRun.f kj44 a0_0 l0_1 l0_2 l0_3 l0_4 l0_5 a0_6).bind fun bt307 => ((impl_ThreadsOf.f kj44 bt307.1 bt307.2.1 bt307.2.2.1 bt307.2.2.2.1 bt307.2.2.2.2.1 bt307.2.2.2.2.2.1 bt307.2.2.2.2.2.2).bind fun bt324 => ((laws_eqIntS.f kj44 bt324.1 t257).bind fun t328 => (if t328 = true then (laws_FnExactThreadsOf.j2 kj44 bt304.2 bt304.1 (bt324.2 != t260)) else (laws_FnExactThreadsOf.j2 kj44 bt304.2 bt304.1 true))))) else (some false))))) = some r := by rw [if_neg (show ¬ (false = true) by decide)] at H; exact H
         clear H
         have H := H1
         clear H1
         replace H := Option.bind_eq_some_iff.mp H
         obtain ⟨⟨t304, t305⟩, A650, H⟩ := H
         replace H : ((laws_heldIntS.f kj44 t305 1).bind fun t306 => (if t306 < 0 then (some false) else (if t306 = t304 then ((laws_toRun.f kj44 a0_0 l0_1 l0_2 l0_3 l0_4 l0_5 a0_6).bind fun bt307 => ((impl_ThreadsOf.f kj44 bt307.1 bt307.2.1 bt307.2.2.1 bt307.2.2.2.1 bt307.2.2.2.2.1 bt307.2.2.2.2.2.1 bt307.2.2.2.2.2.2).bind fun bt324 => ((laws_eqIntS.f kj44 bt324.1 t257).bind fun t328 => (if t328 = true then (laws_FnExactThreadsOf.j2 kj44 t305 t304 (bt324.2 != t260)) else (laws_FnExactThreadsOf.j2 kj44 t305 t304 true))))) else (some false)))) = some r := H
         have A65 := Aside0.mk A650
         clear A650
         replace H := Option.bind_eq_some_iff.mp H
         obtain ⟨t306, A660, H⟩ := H
         replace H : (if t306 < 0 then (some false) else (if t306 = t304 then ((laws_toRun.f kj44 a0_0 l0_1 l0_2 l0_3 l0_4 l0_5 a0_6).bind fun bt307 => ((impl_ThreadsOf.f kj44 bt307.1 bt307.2.1 bt307.2.2.1 bt307.2.2.2.1 bt307.2.2.2.2.1 bt307.2.2.2.2.2.1 bt307.2.2.2.2.2.2).bind fun bt324 => ((laws_eqIntS.f kj44 bt324.1 t257).bind fun t328 => (if t328 = true then (laws_FnExactThreadsOf.j2 kj44 t305 t304 (bt324.2 != t260)) else (laws_FnExactThreadsOf.j2 kj44 t305 t304 true))))) else (some false))) = some r := H
         have A66 := Aside0.mk A660
         clear A660
         by_cases c67 : t306 < 0
         ·rw [if_pos c67] at H
          have c67b0 : decide (t306 < 0) = true := decide_eq_true c67
          clear c67
          obtain rfl := Option.some.inj H
          obtain ⟨Ao68, co68, eo68⟩ := Kd.R_slice HO_7.out
          subst eo68
          go_wp2_with (first | ((with_reducible refine gate_callee (f := 24) rfl ?_); refine goesL_ (some 64) rfl rfl Try.func24 (by kernel_rfl) rfl #[.slice Ao68 t279.length co68, .int .i64 1] rfl (by (try simp only [List.map_toArray, List.map_cons, List.map_nil]); first | done | rfl | (simp only [List.length_drop, List.length_take]; rfl)) ?_; (with_reducible refine (laws_markIntS.calls kj44 (fun k_ => some k_ = (.slice Ao68 t279.length co68 : Value).ownBlock) (.slice Ao68 t279.length co68) t279 1 t304 t305 w _ ?side1 ?side2 A65.out).mono ?_); (case side1 => repeat (first | (with_reducible first|exact HB.out|apply vA_|apply vN_|apply vD_ | refine vS_ ?_ GE238.out) | exact HB.out)); (case side2 => exact Kd.R_tight rfl HO_7.out); rintro e w69 ⟨rfl, hy0, hb, hkp⟩; refine ⟨_, rfl, ?_⟩; have n0_ := Aside0.mk (Kd.R_mono (ok' := fun k_ => some k_ ≠ (.slice Ao68 t279.length co68 : Value).ownBlock) (Kd.R_keptB (HO_4.out) hkp (fun k_ hk_ hs_ => (hk_) hs_)) (fun k_ hk_ => hk_.1)); have n1_ := Aside0.mk (Kd.R_reok rfl hy0 (fun k_ e_ => HO_7.out.1 k_ e_)); have n2_ := Aside0.mk (blk_kept (by (with_reducible repeat first|apply qN_|apply qD_|apply qA_); exact BK238.out) hkp (fun hs_ => (fun e_ => (Kd.R_ne HO_7.out BK238.out (by decide)) e_) hs_)); have n3_ := Aside0.mk (hb); clear HO_4; clear HO_7; clear BK238; clear HB; have HO_4 := n0_; have HO_7 := n1_; have BK238 := n2_; have HB := n3_; clear n0_ n1_ n2_ n3_; (try clear hb); (try clear hkp); (try clear hy0)) | ((with_reducible refine gate_callee (f := 25) rfl ?_); refine goesL_ (some 67) rfl rfl Try.func25 (by kernel_rfl) rfl #[.slice Ao68 t305.length co68, .int .i64 1] rfl (by (try simp only [List.map_toArray, List.map_cons, List.map_nil]); first | done | (rw [show t305.length = t279.length from (Kd.R_reads' HO_7.out).1.symm] <;> rfl) | rfl | (simp only [List.length_drop, List.length_take]; rfl)) ?_; (with_reducible refine (laws_heldIntS.calls kj44 _ _ t305 1 t306 _ ?side1 ?side2 A66.out).mono ?_); (case side1 => repeat (first | exact (Kd.R_reads' HO_7.out).2.2 | with_reducible apply cA_|with_reducible apply cN_|with_reducible apply cD_)); (case side2 => rw [show t305.length = t279.length from (Kd.R_reads' HO_7.out).1.symm]; exact (Kd.R_reads' HO_7.out).2.1); rintro e w' ⟨rfl, ⟨nd, rfl⟩⟩; refine ⟨_, rfl, ?_⟩))
          go_ret
          exact ⟨by first | rfl | (simp [errW_none, errW_some] <;> rfl) | (simp [*, errW_none, errW_some] <;> rfl), by repeat (first | (with_reducible first|exact HB.out|apply vA_|apply vN_|apply vD_ | refine vS_ ?_ GE238.out) | exact HB.out)⟩
         ·rw [if_neg c67] at H
          have c67b0 : decide (t306 < 0) = false := decide_eq_false c67
          clear c67
          by_cases c70 : t306 = t304
          ·rw [if_pos c70] at H
           have c70b0 : (t306 == t304) = true := beq_iff_eq.mpr c70
           have c70b1 : (t306 != t304) = false := bne_eq_false_iff_eq.mpr c70
           clear c70
           replace H := Option.bind_eq_some_iff.mp H
           obtain ⟨⟨t307, t308, t311, t314, t317, t320, t323⟩, A710, H⟩ := H
           replace H : ((impl_ThreadsOf.f kj44 t307 t308 t311 t314 t317 t320 t323).bind fun bt324 => ((laws_eqIntS.f kj44 bt324.1 t257).bind fun t328 => (if t328 = true then (laws_FnExactThreadsOf.j2 kj44 t305 t304 (bt324.2 != t260)) else (laws_FnExactThreadsOf.j2 kj44 t305 t304 true)))) = some r := H
           have A71 := Aside0.mk A710
           clear A710
           replace H := Option.bind_eq_some_iff.mp H
           obtain ⟨⟨t324, t327⟩, A720, H⟩ := H
           replace H : ((laws_eqIntS.f kj44 t324 t257).bind fun t328 => (if t328 = true then (laws_FnExactThreadsOf.j2 kj44 t305 t304 (t327 != t260)) else (laws_FnExactThreadsOf.j2 kj44 t305 t304 true))) = some r := H
           have A72 := Aside0.mk A720
           clear A720
           have HC73 := Aside0.mk H
           clear H
           obtain ⟨Ao74, co74, eo74⟩ := Kd.R_slice HO_7.out
           subst eo74
           go_upto_region 25 with (first | ((with_reducible refine gate_callee (f := 24) rfl ?_); refine goesL_ (some 64) rfl rfl Try.func24 (by kernel_rfl) rfl #[.slice Ao74 t279.length co74, .int .i64 1] rfl (by (try simp only [List.map_toArray, List.map_cons, List.map_nil]); first | done | rfl | (simp only [List.length_drop, List.length_take]; rfl)) ?_; (with_reducible refine (laws_markIntS.calls kj44 (fun k_ => some k_ = (.slice Ao74 t279.length co74 : Value).ownBlock) (.slice Ao74 t279.length co74) t279 1 t304 t305 w _ ?side1 ?side2 A65.out).mono ?_); (case side1 => repeat (first | (with_reducible first|exact HB.out|apply vA_|apply vN_|apply vD_ | refine vS_ ?_ GE238.out) | exact HB.out)); (case side2 => exact Kd.R_tight rfl HO_7.out); rintro e w75 ⟨rfl, hy0, hb, hkp⟩; refine ⟨_, rfl, ?_⟩; have n0_ := Aside0.mk (Kd.R_mono (ok' := fun k_ => some k_ ≠ (.slice Ao74 t279.length co74 : Value).ownBlock) (Kd.R_keptB (HO_4.out) hkp (fun k_ hk_ hs_ => (hk_) hs_)) (fun k_ hk_ => hk_.1)); have n1_ := Aside0.mk (Kd.R_reok rfl hy0 (fun k_ e_ => HO_7.out.1 k_ e_)); have n2_ := Aside0.mk (blk_kept (by (with_reducible repeat first|apply qN_|apply qD_|apply qA_); exact BK238.out) hkp (fun hs_ => (fun e_ => (Kd.R_ne HO_7.out BK238.out (by decide)) e_) hs_)); have n3_ := Aside0.mk (hb); clear HO_4; clear HO_7; clear BK238; clear HB; have HO_4 := n0_; have HO_7 := n1_; have BK238 := n2_; have HB := n3_; clear n0_ n1_ n2_ n3_; (try clear hb); (try clear hkp); (try clear hy0)) | ((with_reducible refine gate_callee (f := 25) rfl ?_); refine goesL_ (some 67) rfl rfl Try.func25 (by kernel_rfl) rfl #[.slice Ao74 t305.length co74, .int .i64 1] rfl (by (try simp only [List.map_toArray, List.map_cons, List.map_nil]); first | done | (rw [show t305.length = t279.length from (Kd.R_reads' HO_7.out).1.symm] <;> rfl) | rfl | (simp only [List.length_drop, List.length_take]; rfl)) ?_; (with_reducible refine (laws_heldIntS.calls kj44 _ _ t305 1 t306 _ ?side1 ?side2 A66.out).mono ?_); (case side1 => repeat (first | exact (Kd.R_reads' HO_7.out).2.2 | with_reducible apply cA_|with_reducible apply cN_|with_reducible apply cD_)); (case side2 => rw [show t305.length = t279.length from (Kd.R_reads' HO_7.out).1.symm]; exact (Kd.R_reads' HO_7.out).2.1); rintro e w' ⟨rfl, ⟨nd, rfl⟩⟩; refine ⟨_, rfl, ?_⟩; have hcz76_0 : w75.cell? ⟨gb238, 0, none⟩ = some (.int .i64 a0_0) := (blk_cell BK238.out 0).trans rfl; have hcz76_1 : w75.cell? ⟨gb238, 1, none⟩ = some (.slice A0_1 l0_1.length c0_1) := (blk_cell BK238.out 1).trans rfl; have hcz76_2 : w75.cell? ⟨gb238, 2, none⟩ = some (.slice A0_2 l0_2.length c0_2) := (blk_cell BK238.out 2).trans rfl; have hcz76_3 : w75.cell? ⟨gb238, 3, none⟩ = some (.slice A0_3 l0_3.length c0_3) := (blk_cell BK238.out 3).trans rfl; have hcz76_4 : w75.cell? ⟨gb238, 4, none⟩ = some (.slice A0_4 l0_4.length c0_4) := (blk_cell BK238.out 4).trans rfl; have hcz76_5 : w75.cell? ⟨gb238, 5, none⟩ = some (.slice A0_5 l0_5.length c0_5) := (blk_cell BK238.out 5).trans rfl; have hcz76_6 : w75.cell? ⟨gb238, 6, none⟩ = some (.int .i64 a0_6) := (blk_cell BK238.out 6).trans rfl; have hfz76_0 := blk_frozen BK238.out 0; have hfz76_1 := blk_frozen BK238.out 1; have hfz76_2 := blk_frozen BK238.out 2; have hfz76_3 := blk_frozen BK238.out 3; have hfz76_4 := blk_frozen BK238.out 4; have hfz76_5 := blk_frozen BK238.out 5; have hfz76_6 := blk_frozen BK238.out 6) | ((with_reducible refine gate_callee (f := 47) rfl ?_); refine goesL_ (some 75) rfl rfl Try.func47 (by kernel_rfl) rfl #[.agg #[.int .i64 a0_0, .slice A0_1 l0_1.length c0_1, .slice A0_2 l0_2.length c0_2, .slice A0_3 l0_3.length c0_3, .slice A0_4 l0_4.length c0_4, .slice A0_5 l0_5.length c0_5, .int .i64 a0_6]] rfl (by (try simp only [List.map_toArray, List.map_cons, List.map_nil]); first | done | rfl | (simp only [List.length_drop, List.length_take]; rfl)) ?_; (with_reducible refine (laws_toRun.calls kj44 a0_0 _ _ l0_1 _ _ l0_2 _ _ l0_3 _ _ l0_4 _ _ l0_5 a0_6 t307 t308 t311 t314 t317 t320 t323 _ ?side1 ?side2 ?side3 ?side4 ?side5 ?side6 ?side7 ?side8 ?side9 ?side10 A71.out).mono ?_); (case side1 => repeat (first | exact (Kd.C_below HR0_1.out (by repeat (first | (with_reducible first|exact HB.out|apply vA_|apply vN_|apply vD_ | refine vS_ ?_ GE238.out) | exact HB.out))) | with_reducible apply cA_|with_reducible apply cN_|with_reducible apply cD_)); (case side2 => exact HC0_1.out); (case side3 => repeat (first | exact (Kd.C_below HR0_2.out (by repeat (first | (with_reducible first|exact HB.out|apply vA_|apply vN_|apply vD_ | refine vS_ ?_ GE238.out) | exact HB.out))) | with_reducible apply cA_|with_reducible apply cN_|with_reducible apply cD_)); (case side4 => exact HC0_2.out); (case side5 => repeat (first | exact (Kd.C_below HR0_3.out (by repeat (first | (with_reducible first|exact HB.out|apply vA_|apply vN_|apply vD_ | refine vS_ ?_ GE238.out) | exact HB.out))) | with_reducible apply cA_|with_reducible apply cN_|with_reducible apply cD_)); (case side6 => exact HC0_3.out); (case side7 => repeat (first | exact (Kd.C_below HR0_4.out (by repeat (first | (with_reducible first|exact HB.out|apply vA_|apply vN_|apply vD_ | refine vS_ ?_ GE238.out) | exact HB.out))) | with_reducible apply cA_|with_reducible apply cN_|with_reducible apply cD_)); (case side8 => exact HC0_4.out); (case side9 => repeat (first | exact (Kd.C_below HR0_5.out (by repeat (first | (with_reducible first|exact HB.out|apply vA_|apply vN_|apply vD_ | refine vS_ ?_ GE238.out) | exact HB.out))) | with_reducible apply cA_|with_reducible apply cN_|with_reducible apply cD_)); (case side10 => exact HC0_5.out); rintro e w77 ⟨v309, v312, v315, v318, v321, rfl, ho0, ho1, ho2, ho3, ho4, hb⟩; refine ⟨_, rfl, ?_⟩; have n0_ := Aside0.mk (Kd.R_mono (Kd.R_told (Kd.R_told (Kd.R_old (by (with_reducible repeat first|apply rA_|apply rN_|apply rD_); exact HO_4.out) hb) (by first | exact Kd.R_base ho1 | exact Kd.S_base ho1 | exact Kd.R_base ho1)) (by first | exact Kd.R_base ho4 | exact Kd.S_base ho4 | exact Kd.R_base ho4)) (fun _ h_ => h_.1)); have n1_ := Aside0.mk (Kd.R_mono (Kd.R_told (Kd.R_told (Kd.R_old (by (with_reducible repeat first|apply rA_|apply rN_|apply rD_); exact HO_7.out) hb) (by first | exact Kd.R_base ho1 | exact Kd.S_base ho1 | exact Kd.R_base ho1)) (by first | exact Kd.R_base ho4 | exact Kd.S_base ho4 | exact Kd.R_base ho4)) (fun _ h_ => h_.1)); have n2_ := Aside0.mk (Kd.R_lower ho0 (below_size (by repeat (first | (with_reducible first|exact HB.out|apply vA_|apply vN_|apply vD_ | refine vS_ ?_ GE238.out) | exact HB.out)))); have n3_ := Aside0.mk (Kd.R_lower (Kd.R_new' (Kd.R_new' ho1 (Kd.R_lt (by (with_reducible repeat first|apply rA_|apply rN_|apply rD_); exact HO_4.out))) (Kd.R_lt (by (with_reducible repeat first|apply rA_|apply rN_|apply rD_); exact HO_7.out))) (below_size (by repeat (first | (with_reducible first|exact HB.out|apply vA_|apply vN_|apply vD_ | refine vS_ ?_ GE238.out) | exact HB.out)))); have n4_ := Aside0.mk (Kd.S_lower ho2 (below_size (by repeat (first | (with_reducible first|exact HB.out|apply vA_|apply vN_|apply vD_ | refine vS_ ?_ GE238.out) | exact HB.out)))); have n5_ := Aside0.mk (Kd.R_lower ho3 (below_size (by repeat (first | (with_reducible first|exact HB.out|apply vA_|apply vN_|apply vD_ | refine vS_ ?_ GE238.out) | exact HB.out)))); have n6_ := Aside0.mk (Kd.R_lower (Kd.R_new' (Kd.R_new' ho4 (Kd.R_lt (by (with_reducible repeat first|apply rA_|apply rN_|apply rD_); exact HO_4.out))) (Kd.R_lt (by (with_reducible repeat first|apply rA_|apply rN_|apply rD_); exact HO_7.out))) (below_size (by repeat (first | (with_reducible first|exact HB.out|apply vA_|apply vN_|apply vD_ | refine vS_ ?_ GE238.out) | exact HB.out)))); have n7_ := Aside0.mk (blk_below (by (with_reducible repeat first|apply qN_|apply qD_|apply qA_); exact BK238.out) hb); have n8_ := Aside0.mk (below_step (by repeat (first | (with_reducible first|exact HB.out|apply vA_|apply vN_|apply vD_ | refine vS_ ?_ GE238.out) | exact HB.out)) hb); clear HO_4; clear HO_7; clear BK238; clear HB; have HO_4 := n0_; have HO_7 := n1_; have HO310 := n2_; have HO313 := n3_; have HO316 := n4_; have HO319 := n5_; have HO322 := n6_; have BK238 := n7_; have HB := n8_; clear n0_ n1_ n2_ n3_ n4_ n5_ n6_ n7_ n8_; (try clear hb); (try clear hb2); (try clear hk); (try clear hi); (try clear ho0); (try clear ho1); (try clear ho2); (try clear ho3); (try clear ho4); obtain ⟨Ao78, co78, eo78⟩ := Kd.R_slice HO310.out; subst eo78; obtain ⟨Ao79, co79, eo79⟩ := Kd.R_slice HO313.out; subst eo79; obtain ⟨Ao80, co80, eo80⟩ := Kd.S_slice HO316.out; subst eo80; obtain ⟨Ao81, co81, eo81⟩ := Kd.R_slice HO319.out; subst eo81; obtain ⟨Ao82, co82, eo82⟩ := Kd.R_slice HO322.out; subst eo82) | ((with_reducible refine gate_callee (f := 48) rfl ?_); refine goesL_ (some 76) rfl rfl Try.func48 (by kernel_rfl) rfl #[.agg #[.int .i64 t307, .slice Ao78 t308.length co78, .slice Ao79 t311.length co79, .slice Ao80 t314.length co80, .slice Ao81 t317.length co81, .slice Ao82 t320.length co82, .int .i64 t323]] rfl (by (try simp only [List.map_toArray, List.map_cons, List.map_nil]); first | done | rfl | (simp only [List.length_drop, List.length_take]; rfl)) ?_; (with_reducible refine (impl_ThreadsOf.calls kj44 t307 _ _ t308 _ _ t311 _ _ t314 _ _ t317 _ _ t320 t323 t324 t327 _ ?side1 ?side2 ?side3 ?side4 ?side5 ?side6 ?side7 ?side8 ?side9 ?side10 A72.out).mono ?_); (case side1 => repeat (first | exact (Kd.R_reads' HO310.out).2.2 | with_reducible apply cA_|with_reducible apply cN_|with_reducible apply cD_)); (case side2 => exact (Kd.R_reads' HO310.out).2.1); (case side3 => repeat (first | exact (Kd.R_reads' HO313.out).2.2 | with_reducible apply cA_|with_reducible apply cN_|with_reducible apply cD_)); (case side4 => exact (Kd.R_reads' HO313.out).2.1); (case side5 => repeat (first | exact (Kd.S_reads' HO316.out).2.2 | with_reducible apply cA_|with_reducible apply cN_|with_reducible apply cD_)); (case side6 => exact (Kd.S_reads' HO316.out).2.1); (case side7 => repeat (first | exact (Kd.R_reads' HO319.out).2.2 | with_reducible apply cA_|with_reducible apply cN_|with_reducible apply cD_)); (case side8 => exact (Kd.R_reads' HO319.out).2.1); (case side9 => repeat (first | exact (Kd.R_reads' HO322.out).2.2 | with_reducible apply cA_|with_reducible apply cN_|with_reducible apply cD_)); (case side10 => exact (Kd.R_reads' HO322.out).2.1); rintro e w83 ⟨v325, rfl, ho0, hb⟩; refine ⟨_, rfl, ?_⟩; have n0_ := Aside0.mk (Kd.R_elder' (by (with_reducible repeat first|apply rA_|apply rN_|apply rD_); exact HO_4.out) (by first | exact Kd.R_base ho0 | exact Kd.S_base ho0 | exact Kd.R_base ho0) hb); have n1_ := Aside0.mk (Kd.R_elder' (by (with_reducible repeat first|apply rA_|apply rN_|apply rD_); exact HO_7.out) (by first | exact Kd.R_base ho0 | exact Kd.S_base ho0 | exact Kd.R_base ho0) hb); have n2_ := Aside0.mk (Kd.R_below (by (with_reducible repeat first|apply rA_|apply rN_|apply rD_); exact HO310.out) hb); have n3_ := Aside0.mk (Kd.R_elder' (by (with_reducible repeat first|apply rA_|apply rN_|apply rD_); exact HO313.out) (by first | exact Kd.R_base ho0 | exact Kd.S_base ho0 | exact Kd.R_base ho0) hb); have n4_ := Aside0.mk (Kd.S_below (by (with_reducible repeat first|apply sA_|apply sN_|apply sD_); exact HO316.out) hb); have n5_ := Aside0.mk (Kd.R_below (by (with_reducible repeat first|apply rA_|apply rN_|apply rD_); exact HO319.out) hb); have n6_ := Aside0.mk (Kd.R_elder' (by (with_reducible repeat first|apply rA_|apply rN_|apply rD_); exact HO322.out) (by first | exact Kd.R_base ho0 | exact Kd.S_base ho0 | exact Kd.R_base ho0) hb); have n7_ := Aside0.mk (Kd.R_lower (Kd.R_new' (Kd.R_new' (Kd.R_new' (Kd.R_new' ho0 (Kd.R_lt (by (with_reducible repeat first|apply rA_|apply rN_|apply rD_); exact HO_4.out))) (Kd.R_lt (by (with_reducible repeat first|apply rA_|apply rN_|apply rD_); exact HO_7.out))) (Kd.R_lt (by (with_reducible repeat first|apply rA_|apply rN_|apply rD_); exact HO313.out))) (Kd.R_lt (by (with_reducible repeat first|apply rA_|apply rN_|apply rD_); exact HO322.out))) (below_size (by repeat (first | (with_reducible first|exact HB.out|apply vA_|apply vN_|apply vD_ | refine vS_ ?_ GE238.out) | exact HB.out)))); have n8_ := Aside0.mk (blk_below (by (with_reducible repeat first|apply qN_|apply qD_|apply qA_); exact BK238.out) hb); have n9_ := Aside0.mk (below_step (by repeat (first | (with_reducible first|exact HB.out|apply vA_|apply vN_|apply vD_ | refine vS_ ?_ GE238.out) | exact HB.out)) hb); clear HO_4; clear HO_7; clear HO310; clear HO313; clear HO316; clear HO319; clear HO322; clear BK238; clear HB; have HO_4 := n0_; have HO_7 := n1_; have HO310 := n2_; have HO313 := n3_; have HO316 := n4_; have HO319 := n5_; have HO322 := n6_; have HO326 := n7_; have BK238 := n8_; have HB := n9_; clear n0_ n1_ n2_ n3_ n4_ n5_ n6_ n7_ n8_ n9_; (try clear hb); (try clear hb2); (try clear hk); (try clear hi); (try clear ho0)))
           (try simp only [Act.put, List.setIfInBounds_toArray, List.set_cons_zero, List.set_cons_succ])
           go_cut [87] (fun v87 wc => ∃ (kq : Nat) (x87_72 : Bool), v87 = .bool x87_72 ∧ Aside0 (laws_FnExactThreadsOf.j2 kq t305 t304 x87_72 = some r) ∧ Aside0 (kq ≤ kj44) ∧ Aside0 (Kd.R (Kd.int .i64) 3 wc w.heap.size (fun _ => True) (.slice Ao74 t279.length co74) t305) ∧ Aside0 (wc.heap[gb238]? = some (.cells #[.int .i64 a0_0, (.slice A0_1 l0_1.length c0_1), (.slice A0_2 l0_2.length c0_2), (.slice A0_3 l0_3.length c0_3), (.slice A0_4 l0_4.length c0_4), (.slice A0_5 l0_5.length c0_5), .int .i64 a0_6] 73 (0, 0))) ∧ Aside0 (Below w.heap.size w wc))
           case first =>
            have H := HC73.out
            clear HC73
            replace H := Option.bind_eq_some_iff.mp H
            obtain ⟨t328, A840, H⟩ := H
            replace H : (if t328 = true then (laws_FnExactThreadsOf.j2 kj44 t305 t304 (t327 != t260)) else (laws_FnExactThreadsOf.j2 kj44 t305 t304 true)) = some r := H
            have A84 := Aside0.mk A840
            clear A840
            by_cases c85 : t328 = true
            ·subst c85
             have H1 : (laws_FnExactThreadsOf.j2 kj44 t305 t304 (t327 != t260)) = some r := by rw [if_pos rfl] at H; exact H
             clear H
             have H := H1
             clear H1
             have H' := Aside0.mk H
             clear H
             obtain ⟨Ao86, co86, eo86⟩ := Kd.R_slice HO326.out
             subst eo86
             obtain ⟨Ao87, co87, eo87⟩ := Kd.R_slice HO_4.out
             subst eo87
             go_wp2_with (first | ((with_reducible refine gate_callee (f := 21) rfl ?_); refine goesL_ (some 81) rfl rfl Try.func21 (by kernel_rfl) rfl #[.slice Ao86 t324.length co86, .slice Ao87 t257.length co87] rfl (by (try simp only [List.map_toArray, List.map_cons, List.map_nil]); first | done | rfl | (simp only [List.length_drop, List.length_take]; rfl)) ?_; (with_reducible refine (laws_eqIntS.calls kj44 _ _ t324 _ _ t257 true _ ?side1 ?side2 ?side3 ?side4 A84.out).mono ?_); (case side1 => repeat (first | exact (Kd.R_reads' HO326.out).2.2 | with_reducible apply cA_|with_reducible apply cN_|with_reducible apply cD_)); (case side2 => exact (Kd.R_reads' HO326.out).2.1); (case side3 => repeat (first | exact (Kd.R_reads' HO_4.out).2.2 | with_reducible apply cA_|with_reducible apply cN_|with_reducible apply cD_)); (case side4 => exact (Kd.R_reads' HO_4.out).2.1); rintro e w' ⟨rfl, ⟨nd, rfl⟩⟩; refine ⟨_, rfl, ?_⟩))
             go_meet
             case rel => exact ⟨_, ((t327 != t260)), (by first | rfl | (simp; done) | (simp [*]; done)), H', ⟨by have := HJ10.out; have := HJ44.out; first | omega | exact Nat.le_refl _⟩, ⟨by (with_reducible repeat first|apply rA_|apply rN_|apply rD_); exact Kd.R_mono HO_7.out (fun _ hk => trivial)⟩, ⟨by (with_reducible repeat first|apply qN_|apply qD_|apply qA_); exact BK238.out⟩, ⟨by repeat (first | (with_reducible first|exact HB.out|apply vA_|apply vN_|apply vD_ | refine vS_ ?_ GE238.out) | exact HB.out)⟩⟩
            ·replace c85 := Bool.eq_false_iff.mpr c85
             subst c85
             have H1 : (laws_FnExactThreadsOf.j2 kj44 t305 t304 true) = some r := by rw [if_neg (show ¬ (false = true) by decide)] at H; exact H
             clear H
             have H := H1
             clear H1
             have H' := Aside0.mk H
             clear H
             obtain ⟨Ao88, co88, eo88⟩ := Kd.R_slice HO326.out
             subst eo88
             obtain ⟨Ao89, co89, eo89⟩ := Kd.R_slice HO_4.out
             subst eo89
             go_wp2_with (first | ((with_reducible refine gate_callee (f := 21) rfl ?_); refine goesL_ (some 81) rfl rfl Try.func21 (by kernel_rfl) rfl #[.slice Ao88 t324.length co88, .slice Ao89 t257.length co89] rfl (by (try simp only [List.map_toArray, List.map_cons, List.map_nil]); first | done | rfl | (simp only [List.length_drop, List.length_take]; rfl)) ?_; (with_reducible refine (laws_eqIntS.calls kj44 _ _ t324 _ _ t257 false _ ?side1 ?side2 ?side3 ?side4 A84.out).mono ?_); (case side1 => repeat (first | exact (Kd.R_reads' HO326.out).2.2 | with_reducible apply cA_|with_reducible apply cN_|with_reducible apply cD_)); (case side2 => exact (Kd.R_reads' HO326.out).2.1); (case side3 => repeat (first | exact (Kd.R_reads' HO_4.out).2.2 | with_reducible apply cA_|with_reducible apply cN_|with_reducible apply cD_)); (case side4 => exact (Kd.R_reads' HO_4.out).2.1); rintro e w' ⟨rfl, ⟨nd, rfl⟩⟩; refine ⟨_, rfl, ?_⟩))
             go_meet
             case rel => exact ⟨_, (true), (by first | rfl | (simp; done) | (simp [*]; done)), H', ⟨by have := HJ10.out; have := HJ44.out; first | omega | exact Nat.le_refl _⟩, ⟨by (with_reducible repeat first|apply rA_|apply rN_|apply rD_); exact Kd.R_mono HO_7.out (fun _ hk => trivial)⟩, ⟨by (with_reducible repeat first|apply qN_|apply qD_|apply qA_); exact BK238.out⟩, ⟨by repeat (first | (with_reducible first|exact HB.out|apply vA_|apply vN_|apply vD_ | refine vS_ ?_ GE238.out) | exact HB.out)⟩⟩
           case rest =>
            clear HC73
            try clear c2
            try clear p2
            try clear c3
            try clear c3b0
            try clear c4
            try clear c5
            try clear c6
            try clear c7
            try clear c8
            try clear c9
            try clear c21
            try clear c24
            try clear c25
            try clear c26
            try clear c35
            try clear c40
            try clear c43
            try clear c45
            try clear c46
            try clear c47
            try clear c48
            try clear c49
            try clear c50
            try clear c54
            try clear c57
            try clear c57b0
            try clear c59
            try clear c64
            try clear c67
            try clear c67b0
            try clear c70
            try clear c70b0
            try clear c70b1
            try clear c85
            try clear hcz13_0
            try clear hcz13_1
            try clear hcz13_2
            try clear hcz13_3
            try clear hcz13_4
            try clear hcz13_5
            try clear hcz13_6
            try clear hcz15_0
            try clear hcz15_1
            try clear hcz15_2
            try clear hcz15_3
            try clear hcz15_4
            try clear hcz15_5
            try clear hcz15_6
            try clear hcz23_0
            try clear hcz23_1
            try clear hcz23_2
            try clear hcz23_3
            try clear hcz23_4
            try clear hcz23_5
            try clear hcz23_6
            try clear hcz27_0
            try clear hcz27_1
            try clear hcz27_2
            try clear hcz27_3
            try clear hcz27_4
            try clear hcz27_5
            try clear hcz27_6
            try clear hcz55_0
            try clear hcz55_1
            try clear hcz55_2
            try clear hcz55_3
            try clear hcz55_4
            try clear hcz55_5
            try clear hcz55_6
            try clear hcz5_0
            try clear hcz5_1
            try clear hcz5_2
            try clear hcz5_3
            try clear hcz5_4
            try clear hcz5_5
            try clear hcz5_6
            try clear hcz76_0
            try clear hcz76_1
            try clear hcz76_2
            try clear hcz76_3
            try clear hcz76_4
            try clear hcz76_5
            try clear hcz76_6
            try clear hfz13_0
            try clear hfz13_1
            try clear hfz13_2
            try clear hfz13_3
            try clear hfz13_4
            try clear hfz13_5
            try clear hfz13_6
            try clear hfz15_0
            try clear hfz15_1
            try clear hfz15_2
            try clear hfz15_3
            try clear hfz15_4
            try clear hfz15_5
            try clear hfz15_6
            try clear hfz23_0
            try clear hfz23_1
            try clear hfz23_2
            try clear hfz23_3
            try clear hfz23_4
            try clear hfz23_5
            try clear hfz23_6
            try clear hfz27_0
            try clear hfz27_1
            try clear hfz27_2
            try clear hfz27_3
            try clear hfz27_4
            try clear hfz27_5
            try clear hfz27_6
            try clear hfz55_0
            try clear hfz55_1
            try clear hfz55_2
            try clear hfz55_3
            try clear hfz55_4
            try clear hfz55_5
            try clear hfz55_6
            try clear hfz5_0
            try clear hfz5_1
            try clear hfz5_2
            try clear hfz5_3
            try clear hfz5_4
            try clear hfz5_5
            try clear hfz5_6
            try clear hfz76_0
            try clear hfz76_1
            try clear hfz76_2
            try clear hfz76_3
            try clear hfz76_4
            try clear hfz76_5
            try clear hfz76_6
            try clear p2
            obtain ⟨kq, x87_72, rfl, HA, HJ72, HO_7, BK238, HB⟩ := hcut
            have hl7_72 := (Kd.R_reads' HO_7.out).1
            rw [hl7_72] at HO_7
            (try simp only [hl7_72])
            (try simp only [hl7_72] at BK238)
            cases kq with
            | zero => exact absurd HA.out (by simp [laws_FnExactThreadsOf.j2])
            | succ kj72 =>
             have H := HA.out
             clear HA
             simp only [laws_FnExactThreadsOf.j2] at H
             by_cases c90 : x87_72 = true
             ·subst c90
              have H1 : (some false) = some r := by rw [if_pos rfl] at H; exact H
              clear H
              have H := H1
              clear H1
              obtain rfl := Option.some.inj H
              go_wp2
              go_ret
              exact ⟨by first | rfl | (simp [errW_none, errW_some] <;> rfl) | (simp [*, errW_none, errW_some] <;> rfl), by repeat (first | (with_reducible first|exact HB.out|apply vA_|apply vN_|apply vD_ | refine vS_ ?_ GE238.out) | exact HB.out)⟩
             ·replace c90 := Bool.eq_false_iff.mpr c90
              subst c90
              have H1 : ((laws_heldIntS.f kj72 t305 1).bind fun t329 => (if t329 < 0 then (some false) else (if t329 = t304 then (some true) else (some false)))) = some r := by rw [if_neg (show ¬ (false = true) by decide)] at H; exact H
              clear H
              have H := H1
              clear H1
              replace H := Option.bind_eq_some_iff.mp H
              obtain ⟨t329, A910, H⟩ := H
              replace H : (if t329 < 0 then (some false) else (if t329 = t304 then (some true) else (some false))) = some r := H
              have A91 := Aside0.mk A910
              clear A910
              by_cases c92 : t329 < 0
              ·rw [if_pos c92] at H
               have c92b0 : decide (t329 < 0) = true := decide_eq_true c92
               clear c92
               obtain rfl := Option.some.inj H
               go_wp2_with (first | ((with_reducible refine gate_callee (f := 25) rfl ?_); refine goesL_ (some 90) rfl rfl Try.func25 (by kernel_rfl) rfl #[.slice Ao74 t305.length co74, .int .i64 1] rfl (by (try simp only [List.map_toArray, List.map_cons, List.map_nil]); first | done | rfl | (simp only [List.length_drop, List.length_take]; rfl)) ?_; (with_reducible refine (laws_heldIntS.calls kj72 _ _ t305 1 t329 _ ?side1 ?side2 A91.out).mono ?_); (case side1 => repeat (first | exact (Kd.R_reads' HO_7.out).2.2 | with_reducible apply cA_|with_reducible apply cN_|with_reducible apply cD_)); (case side2 => exact (Kd.R_reads' HO_7.out).2.1); rintro e w' ⟨rfl, ⟨nd, rfl⟩⟩; refine ⟨_, rfl, ?_⟩))
               go_ret
               exact ⟨by first | rfl | (simp [errW_none, errW_some] <;> rfl) | (simp [*, errW_none, errW_some] <;> rfl), by repeat (first | (with_reducible first|exact HB.out|apply vA_|apply vN_|apply vD_ | refine vS_ ?_ GE238.out) | exact HB.out)⟩
              ·rw [if_neg c92] at H
               have c92b0 : decide (t329 < 0) = false := decide_eq_false c92
               clear c92
               by_cases c93 : t329 = t304
               ·rw [if_pos c93] at H
                have c93b0 : (t329 == t304) = true := beq_iff_eq.mpr c93
                have c93b1 : (t329 != t304) = false := bne_eq_false_iff_eq.mpr c93
                clear c93
                obtain rfl := Option.some.inj H
                go_wp2_with (first | ((with_reducible refine gate_callee (f := 25) rfl ?_); refine goesL_ (some 90) rfl rfl Try.func25 (by kernel_rfl) rfl #[.slice Ao74 t305.length co74, .int .i64 1] rfl (by (try simp only [List.map_toArray, List.map_cons, List.map_nil]); first | done | rfl | (simp only [List.length_drop, List.length_take]; rfl)) ?_; (with_reducible refine (laws_heldIntS.calls kj72 _ _ t305 1 t329 _ ?side1 ?side2 A91.out).mono ?_); (case side1 => repeat (first | exact (Kd.R_reads' HO_7.out).2.2 | with_reducible apply cA_|with_reducible apply cN_|with_reducible apply cD_)); (case side2 => exact (Kd.R_reads' HO_7.out).2.1); rintro e w' ⟨rfl, ⟨nd, rfl⟩⟩; refine ⟨_, rfl, ?_⟩))
                go_ret
                exact ⟨by first | rfl | (simp [errW_none, errW_some] <;> rfl) | (simp [*, errW_none, errW_some] <;> rfl), by repeat (first | (with_reducible first|exact HB.out|apply vA_|apply vN_|apply vD_ | refine vS_ ?_ GE238.out) | exact HB.out)⟩
               ·rw [if_neg c93] at H
                have c93b0 : (t329 == t304) = false := beq_eq_false_iff_ne.mpr c93
                have c93b1 : (t329 != t304) = true := bne_iff_ne.mpr c93
                obtain rfl := Option.some.inj H
                go_wp2_with (first | ((with_reducible refine gate_callee (f := 25) rfl ?_); refine goesL_ (some 90) rfl rfl Try.func25 (by kernel_rfl) rfl #[.slice Ao74 t305.length co74, .int .i64 1] rfl (by (try simp only [List.map_toArray, List.map_cons, List.map_nil]); first | done | rfl | (simp only [List.length_drop, List.length_take]; rfl)) ?_; (with_reducible refine (laws_heldIntS.calls kj72 _ _ t305 1 t329 _ ?side1 ?side2 A91.out).mono ?_); (case side1 => repeat (first | exact (Kd.R_reads' HO_7.out).2.2 | with_reducible apply cA_|with_reducible apply cN_|with_reducible apply cD_)); (case side2 => exact (Kd.R_reads' HO_7.out).2.1); rintro e w' ⟨rfl, ⟨nd, rfl⟩⟩; refine ⟨_, rfl, ?_⟩))
                go_ret
                exact ⟨by first | rfl | (simp [errW_none, errW_some] <;> rfl) | (simp [*, errW_none, errW_some] <;> rfl), by repeat (first | (with_reducible first|exact HB.out|apply vA_|apply vN_|apply vD_ | refine vS_ ?_ GE238.out) | exact HB.out)⟩
          ·rw [if_neg c70] at H
           have c70b0 : (t306 == t304) = false := beq_eq_false_iff_ne.mpr c70
           have c70b1 : (t306 != t304) = true := bne_iff_ne.mpr c70
           obtain rfl := Option.some.inj H
           obtain ⟨Ao94, co94, eo94⟩ := Kd.R_slice HO_7.out
           subst eo94
           go_wp2_with (first | ((with_reducible refine gate_callee (f := 24) rfl ?_); refine goesL_ (some 64) rfl rfl Try.func24 (by kernel_rfl) rfl #[.slice Ao94 t279.length co94, .int .i64 1] rfl (by (try simp only [List.map_toArray, List.map_cons, List.map_nil]); first | done | rfl | (simp only [List.length_drop, List.length_take]; rfl)) ?_; (with_reducible refine (laws_markIntS.calls kj44 (fun k_ => some k_ = (.slice Ao94 t279.length co94 : Value).ownBlock) (.slice Ao94 t279.length co94) t279 1 t304 t305 w _ ?side1 ?side2 A65.out).mono ?_); (case side1 => repeat (first | (with_reducible first|exact HB.out|apply vA_|apply vN_|apply vD_ | refine vS_ ?_ GE238.out) | exact HB.out)); (case side2 => exact Kd.R_tight rfl HO_7.out); rintro e w95 ⟨rfl, hy0, hb, hkp⟩; refine ⟨_, rfl, ?_⟩; have n0_ := Aside0.mk (Kd.R_mono (ok' := fun k_ => some k_ ≠ (.slice Ao94 t279.length co94 : Value).ownBlock) (Kd.R_keptB (HO_4.out) hkp (fun k_ hk_ hs_ => (hk_) hs_)) (fun k_ hk_ => hk_.1)); have n1_ := Aside0.mk (Kd.R_reok rfl hy0 (fun k_ e_ => HO_7.out.1 k_ e_)); have n2_ := Aside0.mk (blk_kept (by (with_reducible repeat first|apply qN_|apply qD_|apply qA_); exact BK238.out) hkp (fun hs_ => (fun e_ => (Kd.R_ne HO_7.out BK238.out (by decide)) e_) hs_)); have n3_ := Aside0.mk (hb); clear HO_4; clear HO_7; clear BK238; clear HB; have HO_4 := n0_; have HO_7 := n1_; have BK238 := n2_; have HB := n3_; clear n0_ n1_ n2_ n3_; (try clear hb); (try clear hkp); (try clear hy0)) | ((with_reducible refine gate_callee (f := 25) rfl ?_); refine goesL_ (some 67) rfl rfl Try.func25 (by kernel_rfl) rfl #[.slice Ao94 t305.length co94, .int .i64 1] rfl (by (try simp only [List.map_toArray, List.map_cons, List.map_nil]); first | done | (rw [show t305.length = t279.length from (Kd.R_reads' HO_7.out).1.symm] <;> rfl) | rfl | (simp only [List.length_drop, List.length_take]; rfl)) ?_; (with_reducible refine (laws_heldIntS.calls kj44 _ _ t305 1 t306 _ ?side1 ?side2 A66.out).mono ?_); (case side1 => repeat (first | exact (Kd.R_reads' HO_7.out).2.2 | with_reducible apply cA_|with_reducible apply cN_|with_reducible apply cD_)); (case side2 => rw [show t305.length = t279.length from (Kd.R_reads' HO_7.out).1.symm]; exact (Kd.R_reads' HO_7.out).2.1); rintro e w' ⟨rfl, ⟨nd, rfl⟩⟩; refine ⟨_, rfl, ?_⟩))
           go_ret
           exact ⟨by first | rfl | (simp [errW_none, errW_some] <;> rfl) | (simp [*, errW_none, errW_some] <;> rfl), by repeat (first | (with_reducible first|exact HB.out|apply vA_|apply vN_|apply vD_ | refine vS_ ?_ GE238.out) | exact HB.out)⟩
     ·replace c43 := Bool.eq_false_iff.mpr c43
      subst c43
      have H1 : (some false) = some r := by rw [if_neg (show ¬ (false = true) by decide)] at H; exact H
      clear H
      have H := H1
      clear H1
      obtain rfl := Option.some.inj H
      try go_wp2
      have n0_ := Aside0.mk (Kd.R_drew HO_4.out)
      have n1_ := Aside0.mk (Kd.R_drew HO_7.out)
      have n2_ := Aside0.mk (Kd.R_drew HO_279001.out)
      have n3_ := Aside0.mk (Kd.R_drew HO_279002.out)
      have n4_ := Aside0.mk (Kd.S_drew HO_279003.out)
      have n5_ := Aside0.mk (Kd.R_drew HO_279004.out)
      have n6_ := Aside0.mk (Kd.R_drew HO_279005.out)
      have n7_ := Aside0.mk (blk_drew BK238.out)
      have n8_ := Aside0.mk (blk_drew BK278.out)
      have n9_ := Aside0.mk (below_drew1 HB.out)
      clear HO_4
      clear HO_7
      clear HO_279001
      clear HO_279002
      clear HO_279003
      clear HO_279004
      clear HO_279005
      clear BK238
      clear BK278
      clear HB
      have HO_4 := n0_
      have HO_7 := n1_
      have HO_279001 := n2_
      have HO_279002 := n3_
      have HO_279003 := n4_
      have HO_279004 := n5_
      have HO_279005 := n6_
      have BK238 := n7_
      have BK278 := n8_
      have HB := n9_
      clear n0_ n1_ n2_ n3_ n4_ n5_ n6_ n7_ n8_ n9_
      refine start_ (n := 5) (S := fun w' => w'.cell? ⟨gb278, 0, none⟩ = some (.int .i64 t261) ∧ w'.cell? ⟨gb278, 1, none⟩ = some (.slice Ao28 t262.length co28) ∧ w'.cell? ⟨gb278, 2, none⟩ = some (.slice Ao29 t265.length co29) ∧ w'.cell? ⟨gb278, 3, none⟩ = some (.slice Ao30 t268.length co30) ∧ w'.cell? ⟨gb278, 4, none⟩ = some (.slice Ao31 t271.length co31) ∧ w'.cell? ⟨gb278, 5, none⟩ = some (.slice Ao32 t274.length co32) ∧ w'.cell? ⟨gb278, 6, none⟩ = some (.int .i64 t277) ∧ w'.cell? ⟨gb238, 0, none⟩ = some (.int .i64 a0_0) ∧ w'.cell? ⟨gb238, 1, none⟩ = some (.slice A0_1 l0_1.length c0_1) ∧ w'.cell? ⟨gb238, 2, none⟩ = some (.slice A0_2 l0_2.length c0_2) ∧ w'.cell? ⟨gb238, 3, none⟩ = some (.slice A0_3 l0_3.length c0_3) ∧ w'.cell? ⟨gb238, 4, none⟩ = some (.slice A0_4 l0_4.length c0_4) ∧ w'.cell? ⟨gb238, 5, none⟩ = some (.slice A0_5 l0_5.length c0_5) ∧ w'.cell? ⟨gb238, 6, none⟩ = some (.int .i64 a0_6)) (ds := []) #[false, false, false, false, false] (by kernel_rfl) rfl rfl ⟨(blk_cell BK278.out 0).trans rfl, (blk_cell BK278.out 1).trans rfl, (blk_cell BK278.out 2).trans rfl, (blk_cell BK278.out 3).trans rfl, (blk_cell BK278.out 4).trans rfl, (blk_cell BK278.out 5).trans rfl, (blk_cell BK278.out 6).trans rfl, (blk_cell BK238.out 0).trans rfl, (blk_cell BK238.out 1).trans rfl, (blk_cell BK238.out 2).trans rfl, (blk_cell BK238.out 3).trans rfl, (blk_cell BK238.out 4).trans rfl, (blk_cell BK238.out 5).trans rfl, (blk_cell BK238.out 6).trans rfl⟩ (fun hHeld => ?_)
      generalize wc.drew = w96 at HO_4 HO_7 HO_279001 HO_279002 HO_279003 HO_279004 HO_279005 BK238 BK278 HB hHeld ⊢
      refine take_ (i := 0) (N := some 41) (v := ?_) (a' := ?_) #[true, false, false, false, false] rfl rfl (by kernel_rfl) (fun _ _ _ h => h) (Or.inl ⟨by rfl, ?_⟩) hHeld ?_ ?_
      rotate_left
      ·rintro w' ⟨s0, s1, s2, s3, s4, s5, s6, s7, s8, s9, s10, s11, s12, s13⟩
       go_simp
       with_reducible rfl
      rotate_left
      ·simp only [Act.put, List.setIfInBounds_toArray, List.set_cons_zero, List.set_cons_succ, i64_w, i32_w]
       rfl
      refine take_ (i := 1) (N := some 42) (v := ?_) (a' := ?_) #[true, true, false, false, false] rfl rfl (by kernel_rfl) (fun _ _ _ h => h) (Or.inl ⟨by rfl, ?_⟩) hHeld ?_ ?_
      rotate_left
      ·rintro w' ⟨s0, s1, s2, s3, s4, s5, s6, s7, s8, s9, s10, s11, s12, s13⟩
       go_simp
       with_reducible rfl
      rotate_left
      ·simp only [Act.put, List.setIfInBounds_toArray, List.set_cons_zero, List.set_cons_succ, i64_w, i32_w]
       rfl
      refine one_ (i := 2) (N := some 43) #[true, true, true, false, false] rfl rfl (by kernel_rfl) (by decide) (fun K hK => ?_)
      first | refine goes_ Try.func47 (by kernel_rfl) rfl #[.agg #[.int .i64 a0_0, .slice A0_1 l0_1.length c0_1, .slice A0_2 l0_2.length c0_2, .slice A0_3 l0_3.length c0_3, .slice A0_4 l0_4.length c0_4, .slice A0_5 l0_5.length c0_5, .int .i64 a0_6]] (by rfl) rfl rfl (by (try simp only [List.map_toArray, List.map_cons, List.map_nil]); first | done | rfl | (simp only [List.length_drop, List.length_take]; rfl)) ?_ | refine goesV_ Try.func47 (by kernel_rfl) rfl #[.agg #[.int .i64 a0_0, .slice A0_1 l0_1.length c0_1, .slice A0_2 l0_2.length c0_2, .slice A0_3 l0_3.length c0_3, .slice A0_4 l0_4.length c0_4, .slice A0_5 l0_5.length c0_5, .int .i64 a0_6]] (by rfl) rfl rfl (by rfl) (by first | rfl | (simp only [List.map_toArray, List.map_cons, List.map_nil]; rfl)) ?_
      with_reducible refine (laws_toRun.calls kj10 a0_0 _ _ l0_1 _ _ l0_2 _ _ l0_3 _ _ l0_4 _ _ l0_5 a0_6 t284 t285 t288 t291 t294 t297 t300 _ ?side1 ?side2 ?side3 ?side4 ?side5 ?side6 ?side7 ?side8 ?side9 ?side10 A41.out).mono ?_
      (case side1 => repeat (first | exact (Kd.C_below HR0_1.out HB.out) | with_reducible apply cA_|with_reducible apply cN_|with_reducible apply cD_))
      (case side2 => exact HC0_1.out)
      (case side3 => repeat (first | exact (Kd.C_below HR0_2.out HB.out) | with_reducible apply cA_|with_reducible apply cN_|with_reducible apply cD_))
      (case side4 => exact HC0_2.out)
      (case side5 => repeat (first | exact (Kd.C_below HR0_3.out HB.out) | with_reducible apply cA_|with_reducible apply cN_|with_reducible apply cD_))
      (case side6 => exact HC0_3.out)
      (case side7 => repeat (first | exact (Kd.C_below HR0_4.out HB.out) | with_reducible apply cA_|with_reducible apply cN_|with_reducible apply cD_))
      (case side8 => exact HC0_4.out)
      (case side9 => repeat (first | exact (Kd.C_below HR0_5.out HB.out) | with_reducible apply cA_|with_reducible apply cN_|with_reducible apply cD_))
      (case side10 => exact HC0_5.out)
      rintro e w97 ⟨v286, v289, v292, v295, v298, rfl, ho0, ho1, ho2, ho3, ho4, hb⟩
      refine ⟨_, rfl, ?_⟩
      have n0_ := Aside0.mk (Kd.R_mono (Kd.R_told (Kd.R_told (Kd.R_old (by (with_reducible repeat first|apply rA_|apply rN_|apply rD_); exact HO_4.out) hb) (by first | exact Kd.R_base ho1 | exact Kd.S_base ho1 | exact Kd.R_base ho1)) (by first | exact Kd.R_base ho4 | exact Kd.S_base ho4 | exact Kd.R_base ho4)) (fun _ h_ => h_.1))
      have n1_ := Aside0.mk (Kd.R_mono (Kd.R_told (Kd.R_told (Kd.R_old (by (with_reducible repeat first|apply rA_|apply rN_|apply rD_); exact HO_7.out) hb) (by first | exact Kd.R_base ho1 | exact Kd.S_base ho1 | exact Kd.R_base ho1)) (by first | exact Kd.R_base ho4 | exact Kd.S_base ho4 | exact Kd.R_base ho4)) (fun _ h_ => h_.1))
      have n2_ := Aside0.mk (Kd.R_elder' (by (with_reducible repeat first|apply rA_|apply rN_|apply rD_); exact HO_279001.out) (by first | exact Kd.R_base ho0 | exact Kd.S_base ho0 | exact Kd.R_base ho0) hb)
      have n3_ := Aside0.mk (Kd.R_mono (Kd.R_told (Kd.R_told (Kd.R_old (by (with_reducible repeat first|apply rA_|apply rN_|apply rD_); exact HO_279002.out) hb) (by first | exact Kd.R_base ho1 | exact Kd.S_base ho1 | exact Kd.R_base ho1)) (by first | exact Kd.R_base ho4 | exact Kd.S_base ho4 | exact Kd.R_base ho4)) (fun _ h_ => h_.1))
      have n4_ := Aside0.mk (Kd.S_mono (Kd.S_told (Kd.S_told (Kd.S_old (by (with_reducible repeat first|apply sA_|apply sN_|apply sD_); exact HO_279003.out) hb) (by first | exact Kd.S_base ho2 | exact Kd.R_base ho2)) (by first | exact Kd.R_base ho3 | exact Kd.S_base ho3 | exact Kd.R_base ho3)) (fun _ h_ => h_.1))
      have n5_ := Aside0.mk (Kd.R_elder' (by (with_reducible repeat first|apply rA_|apply rN_|apply rD_); exact HO_279004.out) (by first | exact Kd.R_base ho3 | exact Kd.S_base ho3 | exact Kd.R_base ho3) hb)
      have n6_ := Aside0.mk (Kd.R_mono (Kd.R_told (Kd.R_told (Kd.R_old (by (with_reducible repeat first|apply rA_|apply rN_|apply rD_); exact HO_279005.out) hb) (by first | exact Kd.R_base ho1 | exact Kd.S_base ho1 | exact Kd.R_base ho1)) (by first | exact Kd.R_base ho4 | exact Kd.S_base ho4 | exact Kd.R_base ho4)) (fun _ h_ => h_.1))
      have n7_ := Aside0.mk (Kd.R_lower (Kd.R_new' ho0 (Kd.R_lt (by (with_reducible repeat first|apply rA_|apply rN_|apply rD_); exact HO_279001.out))) (below_size (by repeat (first | (with_reducible first|exact HB.out|apply vA_|apply vN_|apply vD_ | refine vS_ ?_ GE238.out | refine vS_ ?_ GE278.out) | exact HB.out))))
      have n8_ := Aside0.mk (Kd.R_lower (Kd.R_new' (Kd.R_new' (Kd.R_new' (Kd.R_new' ho1 (Kd.R_lt (by (with_reducible repeat first|apply rA_|apply rN_|apply rD_); exact HO_4.out))) (Kd.R_lt (by (with_reducible repeat first|apply rA_|apply rN_|apply rD_); exact HO_7.out))) (Kd.R_lt (by (with_reducible repeat first|apply rA_|apply rN_|apply rD_); exact HO_279002.out))) (Kd.R_lt (by (with_reducible repeat first|apply rA_|apply rN_|apply rD_); exact HO_279005.out))) (below_size (by repeat (first | (with_reducible first|exact HB.out|apply vA_|apply vN_|apply vD_ | refine vS_ ?_ GE238.out | refine vS_ ?_ GE278.out) | exact HB.out))))
      have n9_ := Aside0.mk (Kd.S_lower (Kd.S_new' (Kd.S_new' ho2 (Kd.S_lt (by (with_reducible repeat first|apply sA_|apply sN_|apply sD_); exact HO_279003.out))) (Kd.R_lt (by (with_reducible repeat first|apply rA_|apply rN_|apply rD_); exact HO_279004.out))) (below_size (by repeat (first | (with_reducible first|exact HB.out|apply vA_|apply vN_|apply vD_ | refine vS_ ?_ GE238.out | refine vS_ ?_ GE278.out) | exact HB.out))))
      have n10_ := Aside0.mk (Kd.R_lower (Kd.R_new' ho3 (Kd.R_lt (by (with_reducible repeat first|apply rA_|apply rN_|apply rD_); exact HO_279004.out))) (below_size (by repeat (first | (with_reducible first|exact HB.out|apply vA_|apply vN_|apply vD_ | refine vS_ ?_ GE238.out | refine vS_ ?_ GE278.out) | exact HB.out))))
      have n11_ := Aside0.mk (Kd.R_lower (Kd.R_new' (Kd.R_new' (Kd.R_new' (Kd.R_new' ho4 (Kd.R_lt (by (with_reducible repeat first|apply rA_|apply rN_|apply rD_); exact HO_4.out))) (Kd.R_lt (by (with_reducible repeat first|apply rA_|apply rN_|apply rD_); exact HO_7.out))) (Kd.R_lt (by (with_reducible repeat first|apply rA_|apply rN_|apply rD_); exact HO_279002.out))) (Kd.R_lt (by (with_reducible repeat first|apply rA_|apply rN_|apply rD_); exact HO_279005.out))) (below_size (by repeat (first | (with_reducible first|exact HB.out|apply vA_|apply vN_|apply vD_ | refine vS_ ?_ GE238.out | refine vS_ ?_ GE278.out) | exact HB.out))))
      have n12_ := Aside0.mk (blk_below (by (with_reducible repeat first|apply qN_|apply qD_|apply qA_); exact BK238.out) hb)
      have n13_ := Aside0.mk (blk_below (by (with_reducible repeat first|apply qN_|apply qD_|apply qA_); exact BK278.out) hb)
      have n14_ := Aside0.mk (below_step (by repeat (first | (with_reducible first|exact HB.out|apply vA_|apply vN_|apply vD_ | refine vS_ ?_ GE238.out | refine vS_ ?_ GE278.out) | exact HB.out)) hb)
      clear HO_4
      clear HO_7
      clear HO_279001
      clear HO_279002
      clear HO_279003
      clear HO_279004
      clear HO_279005
      clear BK238
      clear BK278
      clear HB
      have HO_4 := n0_
      have HO_7 := n1_
      have HO_279001 := n2_
      have HO_279002 := n3_
      have HO_279003 := n4_
      have HO_279004 := n5_
      have HO_279005 := n6_
      have HO287 := n7_
      have HO290 := n8_
      have HO293 := n9_
      have HO296 := n10_
      have HO299 := n11_
      have BK238 := n12_
      have BK278 := n13_
      have HB := n14_
      clear n0_ n1_ n2_ n3_ n4_ n5_ n6_ n7_ n8_ n9_ n10_ n11_ n12_ n13_ n14_
      (try clear hb)
      (try clear hb2)
      (try clear hk)
      (try clear hi)
      (try clear ho0)
      (try clear ho1)
      (try clear ho2)
      (try clear ho3)
      (try clear ho4)
      obtain ⟨Ao98, co98, eo98⟩ := Kd.R_slice HO287.out
      (first | subst eo98 | (injection eo98 with f1_ f2_ f3_; have f4_ := f1_.symm; have f5_ := f3_.symm; clear f1_ f2_ f3_; subst f4_; subst f5_))
      obtain ⟨Ao99, co99, eo99⟩ := Kd.R_slice HO290.out
      (first | subst eo99 | (injection eo99 with f1_ f2_ f3_; have f4_ := f1_.symm; have f5_ := f3_.symm; clear f1_ f2_ f3_; subst f4_; subst f5_))
      obtain ⟨Ao100, co100, eo100⟩ := Kd.S_slice HO293.out
      (first | subst eo100 | (injection eo100 with f1_ f2_ f3_; have f4_ := f1_.symm; have f5_ := f3_.symm; clear f1_ f2_ f3_; subst f4_; subst f5_))
      obtain ⟨Ao101, co101, eo101⟩ := Kd.R_slice HO296.out
      (first | subst eo101 | (injection eo101 with f1_ f2_ f3_; have f4_ := f1_.symm; have f5_ := f3_.symm; clear f1_ f2_ f3_; subst f4_; subst f5_))
      obtain ⟨Ao102, co102, eo102⟩ := Kd.R_slice HO299.out
      (first | subst eo102 | (injection eo102 with f1_ f2_ f3_; have f4_ := f1_.symm; have f5_ := f3_.symm; clear f1_ f2_ f3_; subst f4_; subst f5_))
      refine hK.out _ _ ⟨(blk_cell BK278.out 0).trans rfl, (blk_cell BK278.out 1).trans rfl, (blk_cell BK278.out 2).trans rfl, (blk_cell BK278.out 3).trans rfl, (blk_cell BK278.out 4).trans rfl, (blk_cell BK278.out 5).trans rfl, (blk_cell BK278.out 6).trans rfl, (blk_cell BK238.out 0).trans rfl, (blk_cell BK238.out 1).trans rfl, (blk_cell BK238.out 2).trans rfl, (blk_cell BK238.out 3).trans rfl, (blk_cell BK238.out 4).trans rfl, (blk_cell BK238.out 5).trans rfl, (blk_cell BK238.out 6).trans rfl⟩ (fun hHeld => ?_)
      clear hK K
      refine norm_ (a' := ?_) ?_ ?_
      rotate_left
      ·show Act.put _ (some 43) _ = _
       simp only [Act.put, List.setIfInBounds_toArray, List.set_cons_zero, List.set_cons_succ, i64_w, i32_w]
       rfl
      refine one_ (i := 3) (N := some 44) #[true, true, true, true, false] rfl rfl (by kernel_rfl) (by decide) (fun K hK => ?_)
      first | refine goes_ Try.func49 (by kernel_rfl) rfl #[.agg #[.int .i64 t261, .slice Ao28 t262.length co28, .slice Ao29 t265.length co29, .slice Ao30 t268.length co30, .slice Ao31 t271.length co31, .slice Ao32 t274.length co32, .int .i64 t277], .agg #[.int .i64 t284, .slice Ao98 t285.length co98, .slice Ao99 t288.length co99, .slice Ao100 t291.length co100, .slice Ao101 t294.length co101, .slice Ao102 t297.length co102, .int .i64 t300]] (by rfl) rfl rfl (by (try simp only [List.map_toArray, List.map_cons, List.map_nil]); first | done | rfl | (simp only [List.length_drop, List.length_take]; rfl)) ?_ | refine goesV_ Try.func49 (by kernel_rfl) rfl #[.agg #[.int .i64 t261, .slice Ao28 t262.length co28, .slice Ao29 t265.length co29, .slice Ao30 t268.length co30, .slice Ao31 t271.length co31, .slice Ao32 t274.length co32, .int .i64 t277], .agg #[.int .i64 t284, .slice Ao98 t285.length co98, .slice Ao99 t288.length co99, .slice Ao100 t291.length co100, .slice Ao101 t294.length co101, .slice Ao102 t297.length co102, .int .i64 t300]] (by rfl) rfl rfl (by rfl) (by first | rfl | (simp only [List.map_toArray, List.map_cons, List.map_nil]; rfl)) ?_
      with_reducible refine (laws_eqRun.calls kj10 t261 _ _ t262 _ _ t265 _ _ t268 _ _ t271 _ _ t274 t277 t284 _ _ t285 _ _ t288 _ _ t291 _ _ t294 _ _ t297 t300 false _ ?side1 ?side2 ?side3 ?side4 ?side5 ?side6 ?side7 ?side8 ?side9 ?side10 ?side11 ?side12 ?side13 ?side14 ?side15 ?side16 ?side17 ?side18 ?side19 ?side20 A42.out).mono ?_
      (case side1 => repeat (first | exact (Kd.R_reads' HO_279001.out).2.2 | with_reducible apply cA_|with_reducible apply cN_|with_reducible apply cD_))
      (case side2 => exact (Kd.R_reads' HO_279001.out).2.1)
      (case side3 => repeat (first | exact (Kd.R_reads' HO_279002.out).2.2 | with_reducible apply cA_|with_reducible apply cN_|with_reducible apply cD_))
      (case side4 => exact (Kd.R_reads' HO_279002.out).2.1)
      (case side5 => repeat (first | exact (Kd.S_reads' HO_279003.out).2.2 | with_reducible apply cA_|with_reducible apply cN_|with_reducible apply cD_))
      (case side6 => exact (Kd.S_reads' HO_279003.out).2.1)
      (case side7 => repeat (first | exact (Kd.R_reads' HO_279004.out).2.2 | with_reducible apply cA_|with_reducible apply cN_|with_reducible apply cD_))
      (case side8 => exact (Kd.R_reads' HO_279004.out).2.1)
      (case side9 => repeat (first | exact (Kd.R_reads' HO_279005.out).2.2 | with_reducible apply cA_|with_reducible apply cN_|with_reducible apply cD_))
      (case side10 => exact (Kd.R_reads' HO_279005.out).2.1)
      (case side11 => repeat (first | exact (Kd.R_reads' HO287.out).2.2 | with_reducible apply cA_|with_reducible apply cN_|with_reducible apply cD_))
      (case side12 => exact (Kd.R_reads' HO287.out).2.1)
      (case side13 => repeat (first | exact (Kd.R_reads' HO290.out).2.2 | with_reducible apply cA_|with_reducible apply cN_|with_reducible apply cD_))
      (case side14 => exact (Kd.R_reads' HO290.out).2.1)
      (case side15 => repeat (first | exact (Kd.S_reads' HO293.out).2.2 | with_reducible apply cA_|with_reducible apply cN_|with_reducible apply cD_))
      (case side16 => exact (Kd.S_reads' HO293.out).2.1)
      (case side17 => repeat (first | exact (Kd.R_reads' HO296.out).2.2 | with_reducible apply cA_|with_reducible apply cN_|with_reducible apply cD_))
      (case side18 => exact (Kd.R_reads' HO296.out).2.1)
      (case side19 => repeat (first | exact (Kd.R_reads' HO299.out).2.2 | with_reducible apply cA_|with_reducible apply cN_|with_reducible apply cD_))
      (case side20 => exact (Kd.R_reads' HO299.out).2.1)
      rintro e w103 ⟨rfl, hb⟩
      refine ⟨_, rfl, ?_⟩
      have n0_ := Aside0.mk (Kd.R_below (by (with_reducible repeat first|apply rA_|apply rN_|apply rD_); exact HO_4.out) hb)
      have n1_ := Aside0.mk (Kd.R_below (by (with_reducible repeat first|apply rA_|apply rN_|apply rD_); exact HO_7.out) hb)
      have n2_ := Aside0.mk (Kd.R_below (by (with_reducible repeat first|apply rA_|apply rN_|apply rD_); exact HO_279001.out) hb)
      have n3_ := Aside0.mk (Kd.R_below (by (with_reducible repeat first|apply rA_|apply rN_|apply rD_); exact HO_279002.out) hb)
      have n4_ := Aside0.mk (Kd.S_below (by (with_reducible repeat first|apply sA_|apply sN_|apply sD_); exact HO_279003.out) hb)
      have n5_ := Aside0.mk (Kd.R_below (by (with_reducible repeat first|apply rA_|apply rN_|apply rD_); exact HO_279004.out) hb)
      have n6_ := Aside0.mk (Kd.R_below (by (with_reducible repeat first|apply rA_|apply rN_|apply rD_); exact HO_279005.out) hb)
      have n7_ := Aside0.mk (Kd.R_below (by (with_reducible repeat first|apply rA_|apply rN_|apply rD_); exact HO287.out) hb)
      have n8_ := Aside0.mk (Kd.R_below (by (with_reducible repeat first|apply rA_|apply rN_|apply rD_); exact HO290.out) hb)
      have n9_ := Aside0.mk (Kd.S_below (by (with_reducible repeat first|apply sA_|apply sN_|apply sD_); exact HO293.out) hb)
      have n10_ := Aside0.mk (Kd.R_below (by (with_reducible repeat first|apply rA_|apply rN_|apply rD_); exact HO296.out) hb)
      have n11_ := Aside0.mk (Kd.R_below (by (with_reducible repeat first|apply rA_|apply rN_|apply rD_); exact HO299.out) hb)
      have n12_ := Aside0.mk (blk_below (by (with_reducible repeat first|apply qN_|apply qD_|apply qA_); exact BK238.out) hb)
      have n13_ := Aside0.mk (blk_below (by (with_reducible repeat first|apply qN_|apply qD_|apply qA_); exact BK278.out) hb)
      have n14_ := Aside0.mk (below_step (by repeat (first | (with_reducible first|exact HB.out|apply vA_|apply vN_|apply vD_ | refine vS_ ?_ GE238.out | refine vS_ ?_ GE278.out) | exact HB.out)) hb)
      clear HO_4
      clear HO_7
      clear HO_279001
      clear HO_279002
      clear HO_279003
      clear HO_279004
      clear HO_279005
      clear HO287
      clear HO290
      clear HO293
      clear HO296
      clear HO299
      clear BK238
      clear BK278
      clear HB
      have HO_4 := n0_
      have HO_7 := n1_
      have HO_279001 := n2_
      have HO_279002 := n3_
      have HO_279003 := n4_
      have HO_279004 := n5_
      have HO_279005 := n6_
      have HO287 := n7_
      have HO290 := n8_
      have HO293 := n9_
      have HO296 := n10_
      have HO299 := n11_
      have BK238 := n12_
      have BK278 := n13_
      have HB := n14_
      clear n0_ n1_ n2_ n3_ n4_ n5_ n6_ n7_ n8_ n9_ n10_ n11_ n12_ n13_ n14_
      (try clear hb)
      (try clear hb2)
      (try clear hk)
      (try clear hi)
      refine hK.out _ _ ⟨(blk_cell BK278.out 0).trans rfl, (blk_cell BK278.out 1).trans rfl, (blk_cell BK278.out 2).trans rfl, (blk_cell BK278.out 3).trans rfl, (blk_cell BK278.out 4).trans rfl, (blk_cell BK278.out 5).trans rfl, (blk_cell BK278.out 6).trans rfl, (blk_cell BK238.out 0).trans rfl, (blk_cell BK238.out 1).trans rfl, (blk_cell BK238.out 2).trans rfl, (blk_cell BK238.out 3).trans rfl, (blk_cell BK238.out 4).trans rfl, (blk_cell BK238.out 5).trans rfl, (blk_cell BK238.out 6).trans rfl⟩ (fun hHeld => ?_)
      clear hK K
      refine norm_ (a' := ?_) ?_ ?_
      rotate_left
      ·show Act.put _ (some 44) _ = _
       simp only [Act.put, List.setIfInBounds_toArray, List.set_cons_zero, List.set_cons_succ, i64_w, i32_w]
       rfl
      refine pure_ (i := 4) (N := some 45) (v := ?_) (a' := ?_) #[true, true, true, true, true] rfl rfl (by kernel_rfl) (fun _ _ _ h => h) (Or.inl ⟨by rfl, ?_⟩) ?_ ?_
      rotate_left
      ·intro w'
       go_simp
       with_reducible rfl
      rotate_left
      ·simp only [Act.put, List.setIfInBounds_toArray, List.set_cons_zero, List.set_cons_succ, i64_w, i32_w]
       rfl
      refine done_ (by kernel_rfl) ?_
      try go_wp2
      go_ret
      exact ⟨by first | rfl | (simp [errW_none, errW_some] <;> rfl) | (simp [*, errW_none, errW_some] <;> rfl), by repeat (first | (with_reducible first|exact HB.out|apply vA_|apply vN_|apply vD_ | refine vS_ ?_ GE238.out | refine vS_ ?_ GE278.out) | exact HB.out)⟩

end Go.Proofs.Ytpfbiopcfbokbaa.GThreadsOf

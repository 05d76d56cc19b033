/- FnOneOrder: for whatever histories and orders are drawn, an order that is told fits, there is one just where some are counted, and in one that fits no call stands behind one that it is ahead of. -/
import Derived.Test.YthdpiceiemkjlaaGFnOneOrderx18
import Derived.Test.YthdpiceiemkjlaaMBase
import Derived.KernelRfl
import Derived.Test.YthdpiceiemkjlaaPureOneLaws
import Derived.Test.YthdpiceiemkjlaaPureDrawsPlay
import Derived.Test.YthdpiceiemkjlaaGFnOneOrderx17
import Derived.Test.YthdpiceiemkjlaaGFnOneOrderx14
import Derived.Test.YthdpiceiemkjlaaQFnOneOrder
import Derived.OpenShut
set_option linter.unusedVariables false
set_option linter.unusedSimpArgs false
namespace Go.Proofs.Ythdpiceiemkjlaa.Pure
open Go.RowKit Go.Proofs.Ythdpiceiemkjlaa.GFnOneOrder Go.Proofs.YthdpiceiemkjlaaW.PrintWords Go.Proofs.YthdpiceiemkjlaaW.PrintLast Go.Proofs.YthdpiceiemkjlaaW.PrintMore Go.Proofs.Ythdpiceiemkjlaa.MBase
open Go.Proofs.Ythdpiceiemkjlaa Go.Proofs.Ythdpiceiemkjlaa.MNum Go.Proofs.Ythdpiceiemkjlaa.MIeee Go.Proofs.Ythdpiceiemkjlaa.MReal
theorem specGood_ev (xs : List S77) (hx : xs.length ≤ 1048576) : Ev (fun k => spec_GoodHistory.f k xs) (goodH xs) := Ev.bind (g := fun k => spec_l16Good.f k xs) (spec_good xs hx) (Ev.now _)
theorem first_facts (kd : Int) (h : List S77) (hl : h.length ≤ 9) (hf : flC h) : ∃ (o : List Int) (b one gd : Bool) (n : Int), o.length ≤ 9 ∧ Ev (fun k => impl_OrderFor.f k kd h) (o, b) ∧ Ev (fun k => spec_OrderFor.f k kd h) (o, b) ∧ Ev (fun k => impl_CountOrders.f k kd h) (n, one) ∧ Ev (fun k => spec_CountOrders.f k kd h) (n, one) ∧ Ev (fun k => impl_GoodHistory.f k h) gd ∧ Ev (fun k => spec_GoodHistory.f k h) gd ∧ Ev (fun k => laws_sameInts.f k o o) true ∧
  ((b = true ∧ one = true ∧ decide (n > 0) = true ∧ Ev (fun k => impl_FitsOrder.f k kd h o) (true, true)) ∨ (b = false ∧ (one = true → decide (n > 0) = false))) := by
 obtain ⟨c1, c2⟩ := count_both kd h (by omega) hf
 obtain ⟨o1, o2⟩ := order_both kd h (by omega) hf
 have hol := ordG_len kd h hf
 refine ⟨_, _, _, _, _, hol, o2, o1, c2, c1, impl_good h (by omega), specGood_ev h (by omega), sameInts_refl _ (by omega), ?_⟩
 cases hO : ordG kd h with
 | nil => exact .inr ⟨rfl, fun _ => by simp⟩
 | cons x xs =>
  have e : okG kd h = true := by
   cases q : okG kd h with
   | true => rfl
   | false => rw [ordG_f q] at hO; cases hO
  obtain ⟨v, ok, h1, h2, _, h4⟩ := fits_both kd h x (by omega) (by rw [hO] at hol; simp only [List.head?_cons, Option.getD_some] at hol; omega) hf
  have hv : v = true := h1.2 (by rw [hO]; exact List.mem_cons_self)
  have hk := (h2 hv).1
  rw [hv, hk] at h4
  refine .inl ⟨rfl, e, by simp, ?_⟩
  simpa using h4
theorem second_facts (kd : Int) (h : List S77) (xs : List Int) (hl : h.length ≤ 9) (hf : flC h) (hx : xs.length ≤ 9) : ∃ (v ok okP : Bool) (m : Int) (T : List Nat), flL T ∧ T.length ≤ 1048576 ∧ Ev (fun k => impl_FitsOrder.f k kd h xs) (v, ok) ∧ Ev (fun k => spec_FitsOrder.f k kd h xs) (v, ok) ∧ Ev (fun k => impl_PlayObject.f k kd h xs) (T, okP) ∧ Ev (fun k => spec_PlayObject.f k kd h xs) (T, okP) ∧
  (v = true → ok = true ∧ decide (m = 0) = false ∧ Ev (fun k => impl_CountOrders.f k kd h) (m, true) ∧ ∀ i j : Nat, i < j → j < xs.length → Ev (fun k => impl_CallAhead.f k h (xs.getD j 0) (xs.getD i 0)) (false, true)) := by
 obtain ⟨v, ok, h1, h2, f1, f2⟩ := fits_both kd h xs (by omega) (by omega) hf
 obtain ⟨T, okP, t1, t2, p1, p2⟩ := play_both kd h xs (by omega) (by omega) hf
 refine ⟨v, ok, okP, ((ordG kd h).length : Int), T, t1, t2, f2, f1, p2, p1, fun hv => ?_⟩
 obtain ⟨hk, hO, hA⟩ := h2 hv
 have hm := h1.1 hv
 have e : okG kd h = true := by
  cases q : okG kd h with
  | true => rfl
  | false => rw [ordG_f q] at hm; cases hm
 have hc := (count_both kd h (by omega) hf).2
 rw [e] at hc
 have hg := ((Bool.and_eq_true _ _).mp e).2
 refine ⟨hk, ?_, hc, fun i j hij hj => ahead_no (by omega) hg hO hA i j hij hj⟩
 have : 0 < (ordG kd h).length := List.length_pos_of_mem hm
 exact decide_eq_false (by omega)
theorem ordI {kd : Int} {A : Option Addr} {c : Nat} {h : List S77} {o : List Int} {b : Bool} {w : World} (H : Ev (fun k => impl_OrderFor.f k kd h) (o, b)) (hr : Kd.C k77 w A h.length h) (hc : h.length ≤ c) : Calls Try.prog 24 #[.int .i64 kd, .slice A h.length c] w fun e w' => ∃ v : Value, e = .returned (.tuple #[v, .bool b]) ∧ Kd.R (Kd.int .i64) 3 w' w.heap.size (fun _ => True) v o ∧ Below w.heap.size w w' := by
 obtain ⟨k, hk⟩ := H.rounds
 exact impl_OrderFor.calls k kd A c h o b w hr hc hk
theorem ordS {kd : Int} {A : Option Addr} {c : Nat} {h : List S77} {o : List Int} {b : Bool} {w : World} (H : Ev (fun k => spec_OrderFor.f k kd h) (o, b)) (hr : Kd.C k77 w A h.length h) (hc : h.length ≤ c) : Calls Try.prog 23 #[.int .i64 kd, .slice A h.length c] w fun e w' => ∃ v : Value, e = .returned (.tuple #[v, .bool b]) ∧ Kd.R (Kd.int .i64) 3 w' w.heap.size (fun _ => True) v o ∧ Below w.heap.size w w' := by
 obtain ⟨k, hk⟩ := H.rounds
 exact spec_OrderFor.calls k kd A c h o b w hr hc hk
theorem cntI {kd : Int} {A : Option Addr} {c : Nat} {h : List S77} {n : Int} {b : Bool} {w : World} (H : Ev (fun k => impl_CountOrders.f k kd h) (n, b)) (hr : Kd.C k77 w A h.length h) (hc : h.length ≤ c) : Calls Try.prog 27 #[.int .i64 kd, .slice A h.length c] w fun e w' => e = .returned (.tuple #[.int .i64 n, .bool b]) ∧ Below w.heap.size w w' := by
 obtain ⟨k, hk⟩ := H.rounds
 exact impl_CountOrders.calls k kd A c h n b w hr hc hk
theorem cntS {kd : Int} {A : Option Addr} {c : Nat} {h : List S77} {n : Int} {b : Bool} {w : World} (H : Ev (fun k => spec_CountOrders.f k kd h) (n, b)) (hr : Kd.C k77 w A h.length h) (hc : h.length ≤ c) : Calls Try.prog 26 #[.int .i64 kd, .slice A h.length c] w fun e w' => e = .returned (.tuple #[.int .i64 n, .bool b]) ∧ Below w.heap.size w w' := by
 obtain ⟨k, hk⟩ := H.rounds
 exact spec_CountOrders.calls k kd A c h n b w hr hc hk
theorem goodI {A : Option Addr} {c : Nat} {h : List S77} {b : Bool} {w : World} (H : Ev (fun k => impl_GoodHistory.f k h) b) (hr : Kd.C k77 w A h.length h) (hc : h.length ≤ c) : Calls Try.prog 31 #[.slice A h.length c] w fun e w' => e = .returned (.bool b) ∧ Below w.heap.size w w' := by
 obtain ⟨k, hk⟩ := H.rounds
 exact impl_GoodHistory.calls k A c h b w hr hc hk
theorem goodS {A : Option Addr} {c : Nat} {h : List S77} {b : Bool} {w : World} (H : Ev (fun k => spec_GoodHistory.f k h) b) (hr : Kd.C k77 w A h.length h) (hc : h.length ≤ c) : Calls Try.prog 32 #[.slice A h.length c] w fun e w' => e = .returned (.bool b) ∧ Below w.heap.size w w' := by
 obtain ⟨k, hk⟩ := H.rounds
 exact spec_GoodHistory.calls k A c h b w hr hc hk
theorem sameI {A A1 : Option Addr} {c c1 : Nat} {o : List Int} {w : World} (H : Ev (fun k => laws_sameInts.f k o o) true) (hr : Kd.C (Kd.int .i64) w A o.length o) (hc : o.length ≤ c) (hr1 : Kd.C (Kd.int .i64) w A1 o.length o) (hc1 : o.length ≤ c1) : Calls Try.prog 30 #[.slice A o.length c, .slice A1 o.length c1] w fun e w' => e = .returned (.bool true) ∧ Below w.heap.size w w' := by
 obtain ⟨k, hk⟩ := H.rounds
 refine (laws_sameInts.calls k A c o A1 c1 o true w hr hc hr1 hc1 hk).mono ?_
 rintro e w' ⟨he, nd, rfl⟩
 exact ⟨he, pw_below_drewN (Below.refl _ _) nd⟩
theorem sameN {A A1 : Option Addr} {c c1 : Nat} {xs ys ts : List Nat} {w : World} (hl : ts.length ≤ 1048576) (ht : flL ts) (hx : eqvL xs ts) (hy : eqvL ys ts) (hr : Kd.C Kd.float w A xs.length xs) (hc : xs.length ≤ c) (hr1 : Kd.C Kd.float w A1 ys.length ys) (hc1 : ys.length ≤ c1) : Calls Try.prog 34 #[.slice A xs.length c, .slice A1 ys.length c1] w fun e w' => e = .returned (.bool true) ∧ Below w.heap.size w w' := by
 obtain ⟨k, hk⟩ := (sameNums_ev hl ht hx hy).rounds
 refine (laws_sameNums.calls k A c xs A1 c1 ys true w hr hc hr1 hc1 hk).mono ?_
 rintro e w' ⟨he, nd, rfl⟩
 exact ⟨he, pw_below_drewN (Below.refl _ _) nd⟩
theorem fitI {kd : Int} {A A2 : Option Addr} {c c2 : Nat} {h : List S77} {xs : List Int} {v b : Bool} {w : World} (H : Ev (fun k => impl_FitsOrder.f k kd h xs) (v, b)) (hr : Kd.C k77 w A h.length h) (hc : h.length ≤ c) (hr2 : Kd.C (Kd.int .i64) w A2 xs.length xs) (hc2 : xs.length ≤ c2) : Calls Try.prog 22 #[.int .i64 kd, .slice A h.length c, .slice A2 xs.length c2] w fun e w' => e = .returned (.tuple #[.bool v, .bool b]) ∧ Below w.heap.size w w' := by
 obtain ⟨k, hk⟩ := H.rounds
 exact impl_FitsOrder.calls k kd A c h A2 c2 xs v b w hr hc hr2 hc2 hk
theorem fitS {kd : Int} {A A2 : Option Addr} {c c2 : Nat} {h : List S77} {xs : List Int} {v b : Bool} {w : World} (H : Ev (fun k => spec_FitsOrder.f k kd h xs) (v, b)) (hr : Kd.C k77 w A h.length h) (hc : h.length ≤ c) (hr2 : Kd.C (Kd.int .i64) w A2 xs.length xs) (hc2 : xs.length ≤ c2) : Calls Try.prog 21 #[.int .i64 kd, .slice A h.length c, .slice A2 xs.length c2] w fun e w' => e = .returned (.tuple #[.bool v, .bool b]) ∧ Below w.heap.size w w' := by
 obtain ⟨k, hk⟩ := H.rounds
 exact spec_FitsOrder.calls k kd A c h A2 c2 xs v b w hr hc hr2 hc2 hk
theorem playI {kd : Int} {A A2 : Option Addr} {c c2 : Nat} {h : List S77} {xs : List Int} {T : List Nat} {b : Bool} {w : World} (H : Ev (fun k => impl_PlayObject.f k kd h xs) (T, b)) (hr : Kd.C k77 w A h.length h) (hc : h.length ≤ c) (hr2 : Kd.C (Kd.int .i64) w A2 xs.length xs) (hc2 : xs.length ≤ c2) : Calls Try.prog 13 #[.int .i64 kd, .slice A h.length c, .slice A2 xs.length c2] w fun e w' => ∃ (v : Value) (R : List Nat), e = .returned (.tuple #[v, .bool b]) ∧ eqvL R T ∧ Kd.R Kd.float 55 w' w.heap.size (fun _ => True) v R ∧ Below w.heap.size w w' := by
 obtain ⟨k, hk⟩ := H.rounds
 refine (impl_PlayObject.calls k kd A c h A2 c2 xs T b w hr hc hr2 hc2 hk).mono ?_
 rintro e w' ⟨v, he, hR, hb⟩
 exact ⟨v, T, he, eqvL.refl T, hR, hb⟩
theorem playS {kd : Int} {A A2 : Option Addr} {c c2 : Nat} {h : List S77} {xs : List Int} {T : List Nat} {b : Bool} {w : World} (H : Ev (fun k => spec_PlayObject.f k kd h xs) (T, b)) (hr : Kd.C k77 w A h.length h) (hc : h.length ≤ c) (hr2 : Kd.C (Kd.int .i64) w A2 xs.length xs) (hc2 : xs.length ≤ c2) : Calls Try.prog 10 #[.int .i64 kd, .slice A h.length c, .slice A2 xs.length c2] w fun e w' => ∃ (v : Value) (R : List Nat), e = .returned (.tuple #[v, .bool b]) ∧ eqvL R T ∧ Kd.R Kd.float 55 w' w.heap.size (fun _ => True) v R ∧ Below w.heap.size w w' := by
 obtain ⟨k, hk⟩ := H.rounds
 exact spec_PlayObject.calls k kd A c h A2 c2 xs T b w hr hc hr2 hc2 hk
theorem aheadI {A : Option Addr} {c : Nat} {h : List S77} {i j : Int} {r b : Bool} {w : World} (H : Ev (fun k => impl_CallAhead.f k h i j) (r, b)) (hr : Kd.C k77 w A h.length h) (hc : h.length ≤ c) : Calls Try.prog 35 #[.slice A h.length c, .int .i64 i, .int .i64 j] w fun e w' => e = .returned (.tuple #[.bool r, .bool b]) ∧ Below w.heap.size w w' := by
 obtain ⟨k, hk⟩ := H.rounds
 exact impl_CallAhead.calls k A c h i j r b w hr hc hk
theorem aheadS {A : Option Addr} {c : Nat} {h : List S77} {i j : Int} {r b : Bool} {w : World} (H : Ev (fun k => spec_CallAhead.f k h i j) (r, b)) (hr : Kd.C k77 w A h.length h) (hc : h.length ≤ c) : Calls Try.prog 37 #[.slice A h.length c, .int .i64 i, .int .i64 j] w fun e w' => e = .returned (.tuple #[.bool r, .bool b]) ∧ Below w.heap.size w w' := by
 obtain ⟨k, hk⟩ := H.rounds
 exact spec_CallAhead.calls k A c h i j r b w hr hc hk
open Go.RowKit Go.Proofs.Ythdpiceiemkjlaa.GFnOneOrder Go.Proofs.YthdpiceiemkjlaaW.PrintWords Go.Proofs.YthdpiceiemkjlaaW.PrintLast Go.Proofs.YthdpiceiemkjlaaW.PrintMore Go.Proofs.Ythdpiceiemkjlaa.MBase
open Go.Proofs.Ythdpiceiemkjlaa Go.Proofs.Ythdpiceiemkjlaa.MNum Go.Proofs.Ythdpiceiemkjlaa.MIeee Go.Proofs.Ythdpiceiemkjlaa.MReal
set_option maxHeartbeats 1000000 in
set_option maxRecDepth 100000 in
theorem drawFitsOrder_any {w : World} {A0 : Option Addr} {c0 : Nat} {s : List Int} (hs : okBy s) (hr0 : Kd.C (Kd.int .u8) w A0 s.length s) :
  Calls Try.prog 33 #[.slice A0 s.length c0] w fun e w' => ∃ (kd : Int) (v : Value) (h : List S77) (v2 : Value) (xs : List Int), e = .returned (.tuple #[.int .i64 kd, v, v2]) ∧ Kd.R k77 77 w' w.heap.size (fun _ => True) v h ∧ Kd.R (Kd.int .i64) 3 w' w.heap.size (fun _ => True) v2 xs ∧ h.length ≤ 9 ∧ flC h ∧ xs.length ≤ 9 ∧ Below w.heap.size w w' := by
 have HS := a_ hs
 have HR := a_ hr0
 clear hs hr0
 go_enter Try.func33, Try.ntmps33
 go_wp2_with (first | (go_at_call 79; (with_reducible refine (drawPlayObject_any HS.out HR.out).mono ?_); rintro e w1 ⟨kd, v, h, v2, xs, rfl, hr, hr2, hl, hf, hx, hb⟩; have HO := a_ hr; have HD := a_ hr2; have HL := a_ hl; have HF := a_ hf; have HX := a_ hx; have HB := a_ hb; clear hr hr2 hl hf hx hb))
 go_ret3
 first | exact ⟨kd, _, h, _, xs, rfl, HO.out, HD.out, HL.out, HF.out, HX.out, HB.out⟩ | exact ⟨kd, _, h, _, rfl, HO.out, xs, HD.out, HL.out, HF.out, HX.out, HB.out⟩
def T31 : Bool × List (List Nat × List Nat) := (true, [([], []), ([], []), ([], []), ([1, 2], [1, 2]), ([3], [3]), ([], []), ([], []), ([5, 6], [5, 6]), ([7], [7]), ([0, 4, 8], [0, 4, 8]), ([9], [9]), ([10], [10]), ([10], [10]), ([11, 9, 0, 1, 2, 3, 4, 5, 6, 7, 8, 9, 10, 11], [11]), ([12, 13, 0, 1, 2, 3, 4, 5, 6, 7, 8, 9, 10, 11, 12, 13], [12])])
def B31 : List Nat := [0, 0, 0, 6, 14, 0, 0, 96, 224, 511, 1023, 2047, 2047, 4095, 16383]
theorem T31_tab : rtab .any (opsOf Try.f7 31) = T31 := by kernel_rfl
theorem T31_bits : waitsOk T31.2 B31 = true := by kernel_rfl
def tailC : Nat → Code → Code
 | 0, c => c
 | n + 1, .seq _ b => tailC n b
 | _, c => c
set_option maxHeartbeats 16000000 in
set_option maxRecDepth 100000 in
theorem part4 (A1 : Option Addr) (c1 : Nat) (l1 : List Int) (w wc : World) (HR1 : Aside0 (Kd.C (Kd.int .u8) w A1 l1.length l1)) (HC1 : Aside0 (l1.length ≤ c1)) (H1 : Aside0 (okBy l1)) (HB : Aside0 (Below w.heap.size w wc)) (u0 u2 u3 u4 u5 u6 u7 u8 u9 u10 u11 u12 u13 u14 u15 u16 u17 u18 u19 u20 u21 u22 u23 u24 u25 u26 u27 u28 u29 u30 u31 u32 u33 u34 u35 u36 u37 u38 u39 u40 u41 u42 u43 u44 u45 u46 u47 u48 u49 u50 u51 u52 u53 u54 u55 u56 u57 u58 u59 u60 u61 u62 u63 u64 u65 u66 u67 u68 u69 u70 u71 u72 u73 u74 u75 u76 u77 u78 u79 u80 u81 u82 u83 u84 u85 u86 u87 u88 u89 u90 u91 u92 u93 u94 u95 u96 u97 u98 u99 u100 u101 u102 u103 u104 u105 u106 u107 u108 u109 u110 u111 u112 u113 u114 u115 u116 u117 u118 u119 u120 u121 u122 u123 u124 u125 u126 u127 u128 u129 u130 u131 u132 u133 u134 u135 u136 u137 u138 u139 u140 u141 u142 u143 u144 u145 u146 u147 u148 u149 u150 u151 u152 u153 u154 u155 u156 u157 u158 u159 u160 u161 u162 u163 u164 u165 u166 u167 u168 u169 u170 u171 u172 u173 u174 u175 u176 u177 u178 u179 u180 u181 u182 u183 u184 u185 u186 u187 u188 u189 u190 u191 u192 u193 u194 u195 u196 u197 u198 u199 u200 u201 u202 u203 u204 u205 u206 u207 u208 u209 u210 u211 u212 u213 u214 u215 u216 u217 u218 u219 u220 u221 u222 u223 u224 u225 u226 u227 u228 u229 u230 u231 u232 u233 u234 u235 u236 u237 u238 u239 u240 u241 u242 u243 u244 u245 u246 u247 u248 u249 u250 : Value) :
  Code.wp Try.prog (tailC 16 (Try.f7.body.getD .skip)) (bodyPost Try.prog Try.f7 fun e w' => e = .returned (.bool true) ∧ Below w.heap.size w w') ⟨#[u0, .slice A1 l1.length c1, u2, u3, u4, u5, u6, u7, u8, u9, u10, u11, u12, u13, u14, u15, u16, u17, u18, u19, u20, u21, u22, u23, u24, u25, u26, u27, u28, u29, u30, u31, u32, u33, u34, u35, u36, u37, u38, u39, u40, u41, u42, u43, u44, u45, u46, u47, u48, u49, u50, u51, u52, u53, u54, u55, u56, u57, u58, u59, u60, u61, u62, u63, u64, u65, u66, u67, u68, u69, u70, u71, u72, u73, u74, u75, u76, u77, u78, u79, u80, u81, u82, u83, u84, u85, u86, u87, u88, u89, u90, u91, u92, u93, u94, u95, u96, u97, u98, u99, u100, u101, u102, u103, u104, u105, u106, u107, u108, u109, u110, u111, u112, u113, u114, u115, u116, u117, u118, u119, u120, u121, u122, u123, u124, u125, u126, u127, u128, u129, u130, u131, u132, u133, u134, u135, u136, u137, u138, u139, u140, u141, u142, u143, u144, u145, u146, u147, u148, u149, u150, u151, u152, u153, u154, u155, u156, u157, u158, u159, u160, u161, u162, u163, u164, u165, u166, u167, u168, u169, u170, u171, u172, u173, u174, u175, u176, u177, u178, u179, u180, u181, u182, u183, u184, u185, u186, u187, u188, u189, u190, u191, u192, u193, u194, u195, u196, u197, u198, u199, u200, u201, u202, u203, u204, u205, u206, u207, u208, u209, u210, u211, u212, u213, u214, u215, u216, u217, u218, u219, u220, u221, u222, u223, u224, u225, u226, u227, u228, u229, u230, u231, u232, u233, u234, u235, u236, u237, u238, u239, u240, u241, u242, u243, u244, u245, u246, u247, u248, u249, u250], []⟩ wc := by
 conv => arg 2; whnf
 go_upto_region 36 with (first | (go_at_call 36; (with_reducible refine (drawCallAhead_any (c0 := c1) H1.out (by repeat (first | exact Kd.C_below HR1.out HB.out | exact HR1.out | (with_reducible refine Kd.C_alloc ?_ _) | (with_reducible refine Kd.C_drewN ?_ _) | (with_reducible refine Kd.C_drew ?_)))).mono ?_); rintro e w15 ⟨v34, h3, i, j, rfl, ho, hl, hf, _, hb⟩; have HL := a_ hl; clear hl hf; have HO := a_ (Kd.R_lower ho (Below.size cb_)); clear ho; have n0_ := a_ (below_step cb_ hb); clear HB; have HB := n0_; clear n0_; clear hb; obtain ⟨Ag, cg, eg⟩ := Kd.R_slice HO.out; subst eg))
 obtain ⟨r, ok3, _, e2, e1⟩ := ahead_both h3 (by have := HL.out; omega) i j
 have E1 := a_ e1
 have E2 := a_ e2
 clear e1 e2
 cases ok3 with
 | true =>
  go_wp2_with (first | (go_at_call 35; (with_reducible refine (aheadI E1.out (by repeat (first | exact (Kd.R_reads' HO.out).2.2 | (with_reducible refine Kd.C_alloc ?_ _) | (with_reducible refine Kd.C_drewN ?_ _) | (with_reducible refine Kd.C_drew ?_))) (Kd.R_reads' HO.out).2.1).mono ?_); rintro e w16 ⟨rfl, hb⟩; have n0_ := a_ (Kd.R_below (r_ HO.out) hb); have n1_ := a_ (below_step cb_ hb); clear HO HB; have HO := n0_; have HB := n1_; clear n0_ n1_; clear hb) | (go_at_call 37; (with_reducible refine (aheadS E2.out (by repeat (first | exact (Kd.R_reads' HO.out).2.2 | (with_reducible refine Kd.C_alloc ?_ _) | (with_reducible refine Kd.C_drewN ?_ _) | (with_reducible refine Kd.C_drew ?_))) (Kd.R_reads' HO.out).2.1).mono ?_); rintro e w17 ⟨rfl, hb⟩; have n0_ := a_ (Kd.R_below (r_ HO.out) hb); have n1_ := a_ (below_step cb_ hb); clear HO HB; have HO := n0_; have HB := n1_; clear n0_ n1_; clear hb))
  go_ret
  exact ⟨rfl, cb_⟩
 | false =>
  go_wp2_with (first | (go_at_call 35; (with_reducible refine (aheadI E1.out (by repeat (first | exact (Kd.R_reads' HO.out).2.2 | (with_reducible refine Kd.C_alloc ?_ _) | (with_reducible refine Kd.C_drewN ?_ _) | (with_reducible refine Kd.C_drew ?_))) (Kd.R_reads' HO.out).2.1).mono ?_); rintro e w16 ⟨rfl, hb⟩; have n0_ := a_ (Kd.R_below (r_ HO.out) hb); have n1_ := a_ (below_step cb_ hb); clear HO HB; have HO := n0_; have HB := n1_; clear n0_ n1_; clear hb) | (go_at_call 37; (with_reducible refine (aheadS E2.out (by repeat (first | exact (Kd.R_reads' HO.out).2.2 | (with_reducible refine Kd.C_alloc ?_ _) | (with_reducible refine Kd.C_drewN ?_ _) | (with_reducible refine Kd.C_drew ?_))) (Kd.R_reads' HO.out).2.1).mono ?_); rintro e w17 ⟨rfl, hb⟩; have n0_ := a_ (Kd.R_below (r_ HO.out) hb); have n1_ := a_ (below_step cb_ hb); clear HO HB; have HO := n0_; have HB := n1_; clear n0_ n1_; clear hb))
  go_ret
  exact ⟨rfl, cb_⟩
set_option maxHeartbeats 16000000 in
set_option maxRecDepth 100000 in
theorem part3 (A1 : Option Addr) (c1 : Nat) (l1 : List Int) (w wc : World) (HR1 : Aside0 (Kd.C (Kd.int .u8) w A1 l1.length l1)) (HC1 : Aside0 (l1.length ≤ c1)) (H1 : Aside0 (okBy l1)) (kd2 m : Int) (h2 : List S77) (xs : List Int) (v ok : Bool) (Ag Ad : Option Addr) (cg cd : Nat) (HO : Aside0 (Kd.R k77 77 wc w.heap.size (fun _ => True) (.slice Ag h2.length cg) h2)) (HD : Aside0 (Kd.R (Kd.int .i64) 3 wc w.heap.size (fun _ => True) (.slice Ad xs.length cd) xs)) (HB : Aside0 (Below w.heap.size w wc)) (HX : Aside0 (xs.length ≤ 9))
  (EC : Aside0 (v = true → ok = true ∧ decide (m = 0) = false ∧ Ev (fun k => impl_CountOrders.f k kd2 h2) (m, true) ∧ ∀ i j : Nat, i < j → j < xs.length → Ev (fun k => impl_CallAhead.f k h2 (xs.getD j 0) (xs.getD i 0)) (false, true))) (u0 u2 u3 u4 u5 u6 u7 u8 u9 u10 u11 u12 u13 u14 u15 u16 u22 u23 u24 u25 u26 u27 u28 u29 u30 u31 u32 u33 u34 u35 u36 u37 u38 u39 u40 u41 u42 u43 u44 u45 u46 u47 u48 u49 u50 u51 u52 u53 u54 u55 u56 u57 u58 u59 u60 u61 u62 u63 u64 u65 u66 u67 u68 u69 u70 u71 u72 u73 u74 u75 u76 u77 u78 u79 u80 u81 u82 u83 u84 u85 u86 u87 u88 u89 u90 u91 u92 u93 u94 u95 u96 u97 u98 u99 u100 u101 u102 u103 u104 u105 u106 u107 u108 u109 u110 u111 u112 u113 u114 u115 u116 u117 u118 u119 u120 u121 u122 u123 u124 u125 u126 u127 u128 u129 u130 u131 u132 u133 u134 u135 u136 u137 u138 u139 u140 u141 u142 u143 u144 u145 u146 u147 u148 u149 u150 u151 u152 u153 u154 u155 u156 u157 u158 u159 u160 u161 u162 u163 u164 u165 u166 u167 u168 u169 u170 u171 u172 u173 u174 u175 u176 u177 u178 u179 u180 u181 u182 u183 u184 u185 u186 u187 u188 u189 u190 u191 u192 u193 u194 u195 u196 u197 u198 u199 u200 u201 u202 u203 u204 u205 u206 u207 u208 u209 u210 u211 u212 u213 u214 u215 u216 u217 u218 u219 u220 u221 u222 u223 u224 u225 u226 u227 u228 u229 u230 u231 u232 u233 u234 u235 u236 u237 u238 u239 u240 u241 u242 u243 u244 u245 u246 u247 u248 u249 u250 : Value) :
  Code.wp Try.prog (tailC 15 (Try.f7.body.getD .skip)) (bodyPost Try.prog Try.f7 fun e w' => e = .returned (.bool true) ∧ Below w.heap.size w w') ⟨#[u0, .slice A1 l1.length c1, u2, u3, u4, u5, u6, u7, u8, u9, u10, u11, u12, u13, u14, u15, u16, .int .i64 kd2, .slice Ag h2.length cg, .slice Ad xs.length cd, .bool v, .bool ok, u22, u23, u24, u25, u26, u27, u28, u29, u30, u31, u32, u33, u34, u35, u36, u37, u38, u39, u40, u41, u42, u43, u44, u45, u46, u47, u48, u49, u50, u51, u52, u53, u54, u55, u56, u57, u58, u59, u60, u61, u62, u63, u64, u65, u66, u67, u68, u69, u70, u71, u72, u73, u74, u75, u76, u77, u78, u79, u80, u81, u82, u83, u84, u85, u86, u87, u88, u89, u90, u91, u92, u93, u94, u95, u96, u97, u98, u99, u100, u101, u102, u103, u104, u105, u106, u107, u108, u109, u110, u111, u112, u113, u114, u115, u116, u117, u118, u119, u120, u121, u122, u123, u124, u125, u126, u127, u128, u129, u130, u131, u132, u133, u134, u135, u136, u137, u138, u139, u140, u141, u142, u143, u144, u145, u146, u147, u148, u149, u150, u151, u152, u153, u154, u155, u156, u157, u158, u159, u160, u161, u162, u163, u164, u165, u166, u167, u168, u169, u170, u171, u172, u173, u174, u175, u176, u177, u178, u179, u180, u181, u182, u183, u184, u185, u186, u187, u188, u189, u190, u191, u192, u193, u194, u195, u196, u197, u198, u199, u200, u201, u202, u203, u204, u205, u206, u207, u208, u209, u210, u211, u212, u213, u214, u215, u216, u217, u218, u219, u220, u221, u222, u223, u224, u225, u226, u227, u228, u229, u230, u231, u232, u233, u234, u235, u236, u237, u238, u239, u240, u241, u242, u243, u244, u245, u246, u247, u248, u249, u250], []⟩ wc := by
 conv => arg 2; whnf
 cases v with
 | false =>
  cases ok with
  | true =>
   go_upto_if 178 with (fail)
   go_cut [] (fun wc => Aside0 (Below w.heap.size w wc))
   case first =>
    go_wp2
    go_meet
    case rel => exact ⟨cb_⟩
   case rest =>
    apply_assumption
    exact part4 _ _ _ _ _ HR1 HC1 H1 hcut _ _ _ _ _ _ _ _ _ _ _ _ _ _ _ _ _ _ _ _ _ _ _ _ _ _ _ _ _ _ _ _ _ _ _ _ _ _ _ _ _ _ _ _ _ _ _ _ _ _ _ _ _ _ _ _ _ _ _ _ _ _ _ _ _ _ _ _ _ _ _ _ _ _ _ _ _ _ _ _ _ _ _ _ _ _ _ _ _ _ _ _ _ _ _ _ _ _ _ _ _ _ _ _ _ _ _ _ _ _ _ _ _ _ _ _ _ _ _ _ _ _ _ _ _ _ _ _ _ _ _ _ _ _ _ _ _ _ _ _ _ _ _ _ _ _ _ _ _ _ _ _ _ _ _ _ _ _ _ _ _ _ _ _ _ _ _ _ _ _ _ _ _ _ _ _ _ _ _ _ _ _ _ _ _ _ _ _ _ _ _ _ _ _ _ _ _ _ _ _ _ _ _ _ _ _ _ _ _ _ _ _ _ _ _ _ _ _ _ _ _ _ _ _ _ _ _ _ _ _ _ _ _ _ _ _ _ _ _ _ _ _ _ _ _ _ _ _ _ _
  | false =>
   go_upto_if 178 with (fail)
   go_cut [] (fun wc => Aside0 (Below w.heap.size w wc))
   case first =>
    go_wp2
    go_meet
    case rel => exact ⟨cb_⟩
   case rest =>
    apply_assumption
    exact part4 _ _ _ _ _ HR1 HC1 H1 hcut _ _ _ _ _ _ _ _ _ _ _ _ _ _ _ _ _ _ _ _ _ _ _ _ _ _ _ _ _ _ _ _ _ _ _ _ _ _ _ _ _ _ _ _ _ _ _ _ _ _ _ _ _ _ _ _ _ _ _ _ _ _ _ _ _ _ _ _ _ _ _ _ _ _ _ _ _ _ _ _ _ _ _ _ _ _ _ _ _ _ _ _ _ _ _ _ _ _ _ _ _ _ _ _ _ _ _ _ _ _ _ _ _ _ _ _ _ _ _ _ _ _ _ _ _ _ _ _ _ _ _ _ _ _ _ _ _ _ _ _ _ _ _ _ _ _ _ _ _ _ _ _ _ _ _ _ _ _ _ _ _ _ _ _ _ _ _ _ _ _ _ _ _ _ _ _ _ _ _ _ _ _ _ _ _ _ _ _ _ _ _ _ _ _ _ _ _ _ _ _ _ _ _ _ _ _ _ _ _ _ _ _ _ _ _ _ _ _ _ _ _ _ _ _ _ _ _ _ _ _ _ _ _ _ _ _ _ _ _ _ _ _ _ _ _ _ _ _ _ _
 | true =>
  obtain ⟨rfl, hm, hc, hal⟩ := EC.out rfl
  have E1 := a_ hc; have EA := a_ hal
  have hm1 : ¬ m = 0 := of_decide_eq_false hm
  have hm2 : (m == 0) = false := by simpa using hm1
  clear EC hc hal
  go_upto_if 178 with (fail)
  go_cut [] (fun wc => Aside0 (Below w.heap.size w wc))
  case first =>
   go_wp2_with (first | (go_at_call 27; (with_reducible refine (cntI E1.out (by repeat (first | exact (Kd.R_reads' HO.out).2.2 | (with_reducible refine Kd.C_alloc ?_ _) | (with_reducible refine Kd.C_drewN ?_ _) | (with_reducible refine Kd.C_drew ?_))) (Kd.R_reads' HO.out).2.1).mono ?_); rintro e w4 ⟨rfl, hb⟩; have n0_ := a_ (Kd.R_below (r_ HO.out) hb); have n1_ := a_ (Kd.R_below (r_ HD.out) hb); have n2_ := a_ (below_step cb_ hb); clear HO HD HB; have HO := n0_; have HD := n1_; have HB := n2_; clear n0_ n1_ n2_; clear hb))
   go_loopg [193] (xs.length + 1) (fun kq v193 w' => ∃ i : Int, v193 = .int .i64 i ∧ Aside0 (0 ≤ i ∧ i + kq = xs.length + 1) ∧ Aside0 (Kd.R k77 77 w' w.heap.size (fun _ => True) (.slice Ag h2.length cg) h2) ∧ Aside0 (Kd.R (Kd.int .i64) 3 w' w.heap.size (fun _ => True) (.slice Ad xs.length cd) xs) ∧ Aside0 (Below w.heap.size w w'))
   case atStart => exact ⟨0, (by first | rfl | (simp; done) | (simp [*]; done)), ⟨by omega⟩, ⟨(r_ HO.out)⟩, ⟨(r_ HD.out)⟩, ⟨cb_⟩⟩
   case round =>
    clear HO HD HB
    obtain ⟨i, rfl, HI1, HO, HD, HB⟩ := hrel
    by_cases c1i : i < (xs.length : Int)
    ·have c1b : decide (i < (xs.length : Int)) = true := decide_eq_true c1i
     have HW1 : Aside0 (wrap64 (i + 1) = i + 1) := ⟨by have := HI1.out; have := HX.out; rw [wrap_id] <;> omega⟩
     go_wp2
     go_loopg [31] (xs.length - i.toNat) (fun kq v31 w' => ∃ j : Int, v31 = .int .i64 j ∧ Aside0 (i < j ∧ j + kq = xs.length + 1) ∧ Aside0 (Kd.R k77 77 w' w.heap.size (fun _ => True) (.slice Ag h2.length cg) h2) ∧ Aside0 (Kd.R (Kd.int .i64) 3 w' w.heap.size (fun _ => True) (.slice Ad xs.length cd) xs) ∧ Aside0 (Below w.heap.size w w'))
     case atStart => exact ⟨i + 1, by rw [HW1.out], ⟨by have := HI1.out; omega⟩, ⟨(r_ HO.out)⟩, ⟨(r_ HD.out)⟩, ⟨cb_⟩⟩
     case round =>
      clear HO HD HB
      obtain ⟨j, rfl, HJ, HO, HD, HB⟩ := hrel
      by_cases c2j : j < (xs.length : Int)
      ·have c2b : decide (j < (xs.length : Int)) = true := decide_eq_true c2j
       have HW2 : Aside0 (wrap64 (j + 1) = j + 1) := ⟨by have := HI1.out; have := HJ.out; have := HX.out; rw [wrap_id] <;> omega⟩
       obtain ⟨go19, co19, eo19, gb19, gl19, cl19⟩ := Kd.R_form HD.out (by have := HI1.out; omega)
       (first | cases eo19 | (injection eo19 with ea_ en_ ec_; (first | subst ea_ | (injection ea_ with ea_; subst ea_)); subst ec_; clear en_))
       clear gb19 gl19 cl19
       have pi_ : 0 ≤ i := HI1.out.1
       have pj_ : 0 ≤ j := by have := HI1.out; have := HJ.out; omega
       have pi_t := eq_true pi_
       have pj_t := eq_true pj_
       have qi_t := eq_true c1i
       have qj_t := eq_true c2j
       go_upto_region 31 with (fail)
       obtain ⟨hxj, _⟩ := Kd.R_celln 0 (show Kd.R (Kd.int .i64) 3 wr.drew w.heap.size (fun _ => True) (.slice (some ⟨go19, 0, none⟩) xs.length cd) xs from (r_ HD.out)) j pj_ c2j
       obtain ⟨hxi, _⟩ := Kd.R_celln 0 (show Kd.R (Kd.int .i64) 3 wr.drew w.heap.size (fun _ => True) (.slice (some ⟨go19, 0, none⟩) xs.length cd) xs from (r_ HD.out)) i pi_ c1i
       have n0_ := a_ (show Kd.R k77 77 wr.drew w.heap.size (fun _ => True) (.slice Ag h2.length cg) h2 from (r_ HO.out))
       have n1_ := a_ (show Kd.R (Kd.int .i64) 3 wr.drew w.heap.size (fun _ => True) (.slice (some ⟨go19, 0, none⟩) xs.length cd) xs from (r_ HD.out))
       have n2_ := a_ (show Below w.heap.size w wr.drew from cb_)
       clear HO HD HB; have HO := n0_; have HD := n1_; have HB := n2_; clear n0_ n1_ n2_
       have E9 : Aside0 (Ev (fun k => impl_CallAhead.f k h2 (rdOf 0 xs j) (rdOf 0 xs i)) (false, true)) := ⟨EA.out i.toNat j.toNat (by have := HJ.out; omega) (by omega)⟩
       refine start_ (n := 15) (S := fun w' => w'.cell? ⟨go19, j.toNat, none⟩ = some (.int .i64 (rdOf 0 xs j)) ∧ w'.cell? ⟨go19, i.toNat, none⟩ = some (.int .i64 (rdOf 0 xs i))) (ds := []) #[false, false, false, false, false, false, false, false, false, false, false, false, false, false, false] (by kernel_rfl) rfl rfl ⟨hxj, hxi⟩ (fun hHeld => ?_); refine with_tabW T31_tab T31_bits (fun HT_ HW_ => ?_)
       generalize wr.drew = wg at HO HD HB hxj hxi hHeld ⊢
       refine pure_ (i := 0) (N := some 205) (v := ?_) (a' := ?_) #[true, false, false, false, false, false, false, false, false, false, false, false, false, false, false] rfl rfl (any_of HT_.out (by kernel_rfl)) (fun _ _ _ h => h) (Or.inl ⟨by rfl, ?_⟩) ?_ ?_
       rotate_left
       ·intro w'
        go_simp
        with_reducible rfl
       rotate_left
       ·simp only [Act.put, List.setIfInBounds_toArray, List.set_cons_zero, List.set_cons_succ, i64_w, i32_w]
        rfl
       refine pure_ (i := 1) (N := some 206) (v := ?_) (a' := ?_) #[true, true, false, false, false, false, false, false, false, false, false, false, false, false, false] rfl rfl (any_of HT_.out (by kernel_rfl)) (fun _ _ _ h => h) (Or.inl ⟨by rfl, ?_⟩) ?_ ?_
       rotate_left
       ·intro w'
        go_simp
        with_reducible rfl
       rotate_left
       ·simp only [Act.put, List.setIfInBounds_toArray, List.set_cons_zero, List.set_cons_succ, i64_w, i32_w]
        rfl
       refine pure_ (i := 2) (N := some 207) (v := ?_) (a' := ?_) #[true, true, true, false, false, false, false, false, false, false, false, false, false, false, false] rfl rfl (any_of HT_.out (by kernel_rfl)) (fun _ _ _ h => h) (Or.inl ⟨by rfl, ?_⟩) ?_ ?_
       rotate_left
       ·intro w'
        go_simp
        with_reducible rfl
       rotate_left
       ·simp only [Act.put, List.setIfInBounds_toArray, List.set_cons_zero, List.set_cons_succ, i64_w, i32_w]
        rfl
       refine pure_ (i := 3) (N := some 208) (v := ?_) (a' := ?_) #[true, true, true, true, false, false, false, false, false, false, false, false, false, false, false] rfl rfl (any_of HT_.out (by kernel_rfl)) (fun _ _ _ h => h) (Or.inl ⟨by rfl, ?_⟩) ?_ ?_
       rotate_left
       ·intro w'
        go_simp
        with_reducible rfl
       rotate_left
       ·simp only [Act.put, List.setIfInBounds_toArray, List.set_cons_zero, List.set_cons_succ, i64_w, i32_w]
        rfl
       refine pure_ (i := 5) (N := some 210) (v := ?_) (a' := ?_) #[true, true, true, true, false, true, false, false, false, false, false, false, false, false, false] rfl rfl (any_of HT_.out (by kernel_rfl)) (fun _ _ _ h => h) (Or.inl ⟨by rfl, ?_⟩) ?_ ?_
       rotate_left
       ·intro w'
        go_simp
        with_reducible rfl
       rotate_left
       ·simp only [Act.put, List.setIfInBounds_toArray, List.set_cons_zero, List.set_cons_succ, i64_w, i32_w]
        rfl
       refine pure_ (i := 6) (N := some 211) (v := ?_) (a' := ?_) #[true, true, true, true, false, true, true, false, false, false, false, false, false, false, false] rfl rfl (any_of HT_.out (by kernel_rfl)) (fun _ _ _ h => h) (Or.inl ⟨by rfl, ?_⟩) ?_ ?_
       rotate_left
       ·intro w'
        go_simp
        with_reducible rfl
       rotate_left
       ·simp only [Act.put, List.setIfInBounds_toArray, List.set_cons_zero, List.set_cons_succ, i64_w, i32_w]
        rfl
       refine pure_ (i := 7) (N := some 212) (v := ?_) (a' := ?_) #[true, true, true, true, false, true, true, true, false, false, false, false, false, false, false] rfl rfl (any_of HT_.out (by kernel_rfl)) (fun _ _ _ h => h) (Or.inl ⟨by rfl, ?_⟩) ?_ ?_
       rotate_left
       ·intro w'
        go_simp
        with_reducible rfl
       rotate_left
       ·simp only [Act.put, List.setIfInBounds_toArray, List.set_cons_zero, List.set_cons_succ, i64_w, i32_w]
        rfl
       refine take_ (i := 4) (N := some 209) (v := ?_) (a' := ?_) #[true, true, true, true, true, true, true, true, false, false, false, false, false, false, false] rfl rfl (take_ofW HT_.out HW_.out (by kernel_rfl)) (fun _ _ _ h => h) (Or.inl ⟨by rfl, ?_⟩) hHeld ?_ ?_
       rotate_left
       ·rintro w' ⟨s0, s1⟩
        go_simp
        with_reducible rfl
       rotate_left
       ·simp only [Act.put, List.setIfInBounds_toArray, List.set_cons_zero, List.set_cons_succ, i64_w, i32_w]
        rfl
       refine take_ (i := 8) (N := some 213) (v := ?_) (a' := ?_) #[true, true, true, true, true, true, true, true, true, false, false, false, false, false, false] rfl rfl (take_ofW HT_.out HW_.out (by kernel_rfl)) (fun _ _ _ h => h) (Or.inl ⟨by rfl, ?_⟩) hHeld ?_ ?_
       rotate_left
       ·rintro w' ⟨s0, s1⟩
        go_simp
        with_reducible rfl
       rotate_left
       ·simp only [Act.put, List.setIfInBounds_toArray, List.set_cons_zero, List.set_cons_succ, i64_w, i32_w]
        rfl
       refine one_ (i := 9) (N := some 214) #[true, true, true, true, true, true, true, true, true, true, false, false, false, false, false] rfl rfl (one_of HT_.out (by kernel_rfl)) (by decide) (fun K hK => ?_)
       refine goes_ Try.func35 (by kernel_rfl) rfl #[.slice Ag h2.length cg, .int .i64 (rdOf 0 xs j), .int .i64 (rdOf 0 xs i)] (by rfl) rfl rfl (by (try simp only [List.map_toArray, List.map_cons, List.map_nil]); first | done | rfl) ?_
       with_reducible refine (aheadI E9.out (by repeat (first | exact (Kd.R_reads' HO.out).2.2 | (with_reducible refine Kd.C_alloc ?_ _) | (with_reducible refine Kd.C_drewN ?_ _) | (with_reducible refine Kd.C_drew ?_))) (Kd.R_reads' HO.out).2.1).mono ?_
       rintro e w13 ⟨rfl, hb⟩
       refine ⟨_, rfl, ?_⟩
       have hs_ := (⟨(hb.cell (World.block_lt_of_cell? wg _ hHeld.1)).trans hHeld.1, (hb.cell (World.block_lt_of_cell? wg _ hHeld.2)).trans hHeld.2⟩ : w13.cell? ⟨go19, j.toNat, none⟩ = some (.int .i64 (rdOf 0 xs j)) ∧ w13.cell? ⟨go19, i.toNat, none⟩ = some (.int .i64 (rdOf 0 xs i)))
       have n0_ := a_ (Kd.R_below (r_ HO.out) hb); have n1_ := a_ (Kd.R_below (r_ HD.out) hb); have n2_ := a_ (below_step cb_ hb); clear HO HD HB; have HO := n0_; have HD := n1_; have HB := n2_; clear n0_ n1_ n2_; clear hb
       refine hK.out _ _ hs_ (fun hHeld => ?_)
       clear hK K hs_
       refine norm_ (a' := ?_) ?_ ?_
       rotate_left
       ·show Act.put _ (some 214) _ = _
        simp only [Act.put, List.setIfInBounds_toArray, List.set_cons_zero, List.set_cons_succ, i64_w, i32_w]
        rfl
       refine pure_ (i := 10) (N := some 204) (v := ?_) (a' := ?_) #[true, true, true, true, true, true, true, true, true, true, true, false, false, false, false] rfl rfl (any_of HT_.out (by kernel_rfl)) (fun _ _ _ h => h) (Or.inl ⟨by rfl, ?_⟩) ?_ ?_
       rotate_left
       ·intro w'
        go_simp
        with_reducible rfl
       rotate_left
       ·simp only [Act.put, List.setIfInBounds_toArray, List.set_cons_zero, List.set_cons_succ, i64_w, i32_w]
        rfl
       refine pure_ (i := 11) (N := some 215) (v := ?_) (a' := ?_) #[true, true, true, true, true, true, true, true, true, true, true, true, false, false, false] rfl rfl (any_of HT_.out (by kernel_rfl)) (fun _ _ _ h => h) (Or.inl ⟨by rfl, ?_⟩) ?_ ?_
       rotate_left
       ·intro w'
        go_simp
        with_reducible rfl
       rotate_left
       ·simp only [Act.put, List.setIfInBounds_toArray, List.set_cons_zero, List.set_cons_succ, i64_w, i32_w]
        rfl
       refine pure_ (i := 12) (N := some 216) (v := ?_) (a' := ?_) #[true, true, true, true, true, true, true, true, true, true, true, true, true, false, false] rfl rfl (any_of HT_.out (by kernel_rfl)) (fun _ _ _ h => h) (Or.inl ⟨by rfl, ?_⟩) ?_ ?_
       rotate_left
       ·intro w'
        go_simp
        with_reducible rfl
       rotate_left
       ·simp only [Act.put, List.setIfInBounds_toArray, List.set_cons_zero, List.set_cons_succ, i64_w, i32_w]
        rfl
       refine pure_ (i := 13) (N := some 32) (v := ?_) (a' := ?_) #[true, true, true, true, true, true, true, true, true, true, true, true, true, true, false] rfl rfl (any_of HT_.out (by kernel_rfl)) (fun _ _ _ h => h) (Or.inl ⟨by rfl, ?_⟩) ?_ ?_
       rotate_left
       ·intro w'
        go_simp
        with_reducible rfl
       rotate_left
       ·simp only [Act.put, List.setIfInBounds_toArray, List.set_cons_zero, List.set_cons_succ, i64_w, i32_w]
        rfl
       refine pure_ (i := 14) (N := some 33) (v := ?_) (a' := ?_) #[true, true, true, true, true, true, true, true, true, true, true, true, true, true, true] rfl rfl (any_of HT_.out (by kernel_rfl)) (fun _ _ _ h => h) (Or.inl ⟨by rfl, ?_⟩) ?_ ?_
       rotate_left
       ·intro w'
        go_simp
        with_reducible rfl
       rotate_left
       ·simp only [Act.put, List.setIfInBounds_toArray, List.set_cons_zero, List.set_cons_succ, i64_w, i32_w]
        rfl
       refine done_ (done_of HT_.out (by kernel_rfl)) ?_
       try go_wp2
       go_roundg (xs.length - j.toNat)
       case measure => have := HJ.out; have := HI1.out; omega
       case rel => exact ⟨j + 1, (by first | rfl | rw [HW2.out]), ⟨by have := HJ.out; omega⟩, ⟨(r_ HO.out)⟩, ⟨(r_ HD.out)⟩, ⟨cb_⟩⟩
      ·have c2b : decide (j < (xs.length : Int)) = false := decide_eq_false c2j
       go_wp2
       go_roundg (xs.length - i.toNat)
       case measure => have := HI1.out; omega
       case rel => exact ⟨i + 1, (by first | rfl | rw [HW1.out]), ⟨by have := HI1.out; omega⟩, ⟨(r_ HO.out)⟩, ⟨(r_ HD.out)⟩, ⟨cb_⟩⟩
    ·have c1b : decide (i < (xs.length : Int)) = false := decide_eq_false c1i
     go_wp2
     go_meet
     case rel => exact ⟨cb_⟩
  case rest =>
   apply_assumption
   exact part4 _ _ _ _ _ HR1 HC1 H1 hcut _ _ _ _ _ _ _ _ _ _ _ _ _ _ _ _ _ _ _ _ _ _ _ _ _ _ _ _ _ _ _ _ _ _ _ _ _ _ _ _ _ _ _ _ _ _ _ _ _ _ _ _ _ _ _ _ _ _ _ _ _ _ _ _ _ _ _ _ _ _ _ _ _ _ _ _ _ _ _ _ _ _ _ _ _ _ _ _ _ _ _ _ _ _ _ _ _ _ _ _ _ _ _ _ _ _ _ _ _ _ _ _ _ _ _ _ _ _ _ _ _ _ _ _ _ _ _ _ _ _ _ _ _ _ _ _ _ _ _ _ _ _ _ _ _ _ _ _ _ _ _ _ _ _ _ _ _ _ _ _ _ _ _ _ _ _ _ _ _ _ _ _ _ _ _ _ _ _ _ _ _ _ _ _ _ _ _ _ _ _ _ _ _ _ _ _ _ _ _ _ _ _ _ _ _ _ _ _ _ _ _ _ _ _ _ _ _ _ _ _ _ _ _ _ _ _ _ _ _ _ _ _ _ _ _ _ _ _ _ _ _ _ _ _ _ _ _ _ _ _
set_option maxHeartbeats 16000000 in
set_option maxRecDepth 100000 in
theorem part2 (A1 : Option Addr) (c1 : Nat) (l1 : List Int) (w wc : World) (HR1 : Aside0 (Kd.C (Kd.int .u8) w A1 l1.length l1)) (HC1 : Aside0 (l1.length ≤ c1)) (H1 : Aside0 (okBy l1)) (HB : Aside0 (Below w.heap.size w wc)) (u0 u2 u3 u4 u5 u6 u7 u8 u9 u10 u11 u12 u13 u14 u15 u16 u17 u18 u19 u20 u21 u22 u23 u24 u25 u26 u27 u28 u29 u30 u31 u32 u33 u34 u35 u36 u37 u38 u39 u40 u41 u42 u43 u44 u45 u46 u47 u48 u49 u50 u51 u52 u53 u54 u55 u56 u57 u58 u59 u60 u61 u62 u63 u64 u65 u66 u67 u68 u69 u70 u71 u72 u73 u74 u75 u76 u77 u78 u79 u80 u81 u82 u83 u84 u85 u86 u87 u88 u89 u90 u91 u92 u93 u94 u95 u96 u97 u98 u99 u100 u101 u102 u103 u104 u105 u106 u107 u108 u109 u110 u111 u112 u113 u114 u115 u116 u117 u118 u119 u120 u121 u122 u123 u124 u125 u126 u127 u128 u129 u130 u131 u132 u133 u134 u135 u136 u137 u138 u139 u140 u141 u142 u143 u144 u145 u146 u147 u148 u149 u150 u151 u152 u153 u154 u155 u156 u157 u158 u159 u160 u161 u162 u163 u164 u165 u166 u167 u168 u169 u170 u171 u172 u173 u174 u175 u176 u177 u178 u179 u180 u181 u182 u183 u184 u185 u186 u187 u188 u189 u190 u191 u192 u193 u194 u195 u196 u197 u198 u199 u200 u201 u202 u203 u204 u205 u206 u207 u208 u209 u210 u211 u212 u213 u214 u215 u216 u217 u218 u219 u220 u221 u222 u223 u224 u225 u226 u227 u228 u229 u230 u231 u232 u233 u234 u235 u236 u237 u238 u239 u240 u241 u242 u243 u244 u245 u246 u247 u248 u249 u250 : Value) :
  Code.wp Try.prog (tailC 9 (Try.f7.body.getD .skip)) (bodyPost Try.prog Try.f7 fun e w' => e = .returned (.bool true) ∧ Below w.heap.size w w') ⟨#[u0, .slice A1 l1.length c1, u2, u3, u4, u5, u6, u7, u8, u9, u10, u11, u12, u13, u14, u15, u16, u17, u18, u19, u20, u21, u22, u23, u24, u25, u26, u27, u28, u29, u30, u31, u32, u33, u34, u35, u36, u37, u38, u39, u40, u41, u42, u43, u44, u45, u46, u47, u48, u49, u50, u51, u52, u53, u54, u55, u56, u57, u58, u59, u60, u61, u62, u63, u64, u65, u66, u67, u68, u69, u70, u71, u72, u73, u74, u75, u76, u77, u78, u79, u80, u81, u82, u83, u84, u85, u86, u87, u88, u89, u90, u91, u92, u93, u94, u95, u96, u97, u98, u99, u100, u101, u102, u103, u104, u105, u106, u107, u108, u109, u110, u111, u112, u113, u114, u115, u116, u117, u118, u119, u120, u121, u122, u123, u124, u125, u126, u127, u128, u129, u130, u131, u132, u133, u134, u135, u136, u137, u138, u139, u140, u141, u142, u143, u144, u145, u146, u147, u148, u149, u150, u151, u152, u153, u154, u155, u156, u157, u158, u159, u160, u161, u162, u163, u164, u165, u166, u167, u168, u169, u170, u171, u172, u173, u174, u175, u176, u177, u178, u179, u180, u181, u182, u183, u184, u185, u186, u187, u188, u189, u190, u191, u192, u193, u194, u195, u196, u197, u198, u199, u200, u201, u202, u203, u204, u205, u206, u207, u208, u209, u210, u211, u212, u213, u214, u215, u216, u217, u218, u219, u220, u221, u222, u223, u224, u225, u226, u227, u228, u229, u230, u231, u232, u233, u234, u235, u236, u237, u238, u239, u240, u241, u242, u243, u244, u245, u246, u247, u248, u249, u250], []⟩ wc := by
 conv => arg 2; whnf
 go_upto_region 15 with (first | (go_at_call 33; (with_reducible refine (drawFitsOrder_any (c0 := c1) H1.out (by repeat (first | exact Kd.C_below HR1.out HB.out | exact HR1.out | (with_reducible refine Kd.C_alloc ?_ _) | (with_reducible refine Kd.C_drewN ?_ _) | (with_reducible refine Kd.C_drew ?_)))).mono ?_); rintro e w9 ⟨kd2, v18, h2, v19, xs, rfl, ho, ho2, hl, hf, hx, hb⟩; have HL := a_ hl; have HF := a_ hf; have HX := a_ hx; clear hl hf hx; have HO := a_ (Kd.R_lower ho (Below.size cb_)); clear ho; have HD := a_ (Kd.R_lower ho2 (Below.size cb_)); clear ho2; have n0_ := a_ (below_step cb_ hb); clear HB; have HB := n0_; clear n0_; clear hb; obtain ⟨Ag, cg, eg⟩ := Kd.R_slice HO.out; subst eg; obtain ⟨Ad, cd, ed⟩ := Kd.R_slice HD.out; subst ed))
 obtain ⟨v, ok, okP, m, T, hT, hTl, e1, e2, e3, e4, hcase⟩ := second_facts kd2 h2 xs HL.out HF.out HX.out
 have E1 := a_ e1
 have E2 := a_ e2
 have E3 := a_ e3
 have E4 := a_ e4
 have HT := a_ hT
 have HTL := a_ hTl
 have EC := a_ hcase
 clear e1 e2 e3 e4 hT hTl hcase
 go_upto_region 19 with (first | (go_at_call 22; (with_reducible refine (fitI E1.out (by repeat (first | exact (Kd.R_reads' HO.out).2.2 | (with_reducible refine Kd.C_alloc ?_ _) | (with_reducible refine Kd.C_drewN ?_ _) | (with_reducible refine Kd.C_drew ?_))) (Kd.R_reads' HO.out).2.1 (by repeat (first | exact (Kd.R_reads' HD.out).2.2 | (with_reducible refine Kd.C_alloc ?_ _) | (with_reducible refine Kd.C_drewN ?_ _) | (with_reducible refine Kd.C_drew ?_))) (Kd.R_reads' HD.out).2.1).mono ?_); rintro e w10 ⟨rfl, hb⟩; have n0_ := a_ (Kd.R_below (r_ HO.out) hb); have n1_ := a_ (Kd.R_below (r_ HD.out) hb); have n2_ := a_ (below_step cb_ hb); clear HO HD HB; have HO := n0_; have HD := n1_; have HB := n2_; clear n0_ n1_ n2_; clear hb) | (go_at_call 21; (with_reducible refine (fitS E2.out (by repeat (first | exact (Kd.R_reads' HO.out).2.2 | (with_reducible refine Kd.C_alloc ?_ _) | (with_reducible refine Kd.C_drewN ?_ _) | (with_reducible refine Kd.C_drew ?_))) (Kd.R_reads' HO.out).2.1 (by repeat (first | exact (Kd.R_reads' HD.out).2.2 | (with_reducible refine Kd.C_alloc ?_ _) | (with_reducible refine Kd.C_drewN ?_ _) | (with_reducible refine Kd.C_drew ?_))) (Kd.R_reads' HD.out).2.1).mono ?_); rintro e w11 ⟨rfl, hb⟩; have n0_ := a_ (Kd.R_below (r_ HO.out) hb); have n1_ := a_ (Kd.R_below (r_ HD.out) hb); have n2_ := a_ (below_step cb_ hb); clear HO HD HB; have HO := n0_; have HD := n1_; have HB := n2_; clear n0_ n1_ n2_; clear hb) | (go_at_call 13; (with_reducible refine (playI E3.out (by repeat (first | exact (Kd.R_reads' HO.out).2.2 | (with_reducible refine Kd.C_alloc ?_ _) | (with_reducible refine Kd.C_drewN ?_ _) | (with_reducible refine Kd.C_drew ?_))) (Kd.R_reads' HO.out).2.1 (by repeat (first | exact (Kd.R_reads' HD.out).2.2 | (with_reducible refine Kd.C_alloc ?_ _) | (with_reducible refine Kd.C_drewN ?_ _) | (with_reducible refine Kd.C_drew ?_))) (Kd.R_reads' HD.out).2.1).mono ?_); rintro e w12 ⟨v24, R1, rfl, hq, ho, hb⟩; have HV1 := a_ hq; clear hq; have HP1 := a_ (Kd.R_lower ho (Below.size cb_)); clear ho; have n0_ := a_ (Kd.R_below (r_ HO.out) hb); have n1_ := a_ (Kd.R_below (r_ HD.out) hb); have n2_ := a_ (below_step cb_ hb); clear HO HD HB; have HO := n0_; have HD := n1_; have HB := n2_; clear n0_ n1_ n2_; clear hb; obtain ⟨Ap1, cp1, ep1⟩ := Kd.R_slice HP1.out; subst ep1) | (go_at_call 10; (with_reducible refine (playS E4.out (by repeat (first | exact (Kd.R_reads' HO.out).2.2 | (with_reducible refine Kd.C_alloc ?_ _) | (with_reducible refine Kd.C_drewN ?_ _) | (with_reducible refine Kd.C_drew ?_))) (Kd.R_reads' HO.out).2.1 (by repeat (first | exact (Kd.R_reads' HD.out).2.2 | (with_reducible refine Kd.C_alloc ?_ _) | (with_reducible refine Kd.C_drewN ?_ _) | (with_reducible refine Kd.C_drew ?_))) (Kd.R_reads' HD.out).2.1).mono ?_); rintro e w13 ⟨v26, R2, rfl, hq, ho, hb⟩; have HV2 := a_ hq; clear hq; have HP2 := a_ (Kd.R_lower ho (Below.size cb_)); clear ho; have n0_ := a_ (Kd.R_below (r_ HO.out) hb); have n1_ := a_ (Kd.R_below (r_ HD.out) hb); have n2_ := a_ (Kd.R_below (r_ HP1.out) hb); have n3_ := a_ (below_step cb_ hb); clear HO HD HP1 HB; have HO := n0_; have HD := n1_; have HP1 := n2_; have HB := n3_; clear n0_ n1_ n2_ n3_; clear hb; obtain ⟨Ap2, cp2, ep2⟩ := Kd.R_slice HP2.out; subst ep2))
 go_upto_if 174 with (first | (go_at_call 34; (with_reducible refine (sameN HTL.out HT.out HV1.out HV2.out (by repeat (first | exact (Kd.R_reads' HP1.out).2.2 | (with_reducible refine Kd.C_alloc ?_ _) | (with_reducible refine Kd.C_drewN ?_ _) | (with_reducible refine Kd.C_drew ?_))) (Kd.R_reads' HP1.out).2.1 (by repeat (first | exact (Kd.R_reads' HP2.out).2.2 | (with_reducible refine Kd.C_alloc ?_ _) | (with_reducible refine Kd.C_drewN ?_ _) | (with_reducible refine Kd.C_drew ?_))) (Kd.R_reads' HP2.out).2.1).mono ?_); rintro e w14 ⟨rfl, hb⟩; have n0_ := a_ (Kd.R_below (r_ HO.out) hb); have n1_ := a_ (Kd.R_below (r_ HD.out) hb); have n2_ := a_ (Kd.R_below (r_ HP1.out) hb); have n3_ := a_ (Kd.R_below (r_ HP2.out) hb); have n4_ := a_ (below_step cb_ hb); clear HO HD HP1 HP2 HB; have HO := n0_; have HD := n1_; have HP1 := n2_; have HP2 := n3_; have HB := n4_; clear n0_ n1_ n2_ n3_ n4_; clear hb))
 go_cut [] (fun wc => Aside0 (Kd.R k77 77 wc w.heap.size (fun _ => True) (.slice Ag h2.length cg) h2) ∧ Aside0 (Kd.R (Kd.int .i64) 3 wc w.heap.size (fun _ => True) (.slice Ad xs.length cd) xs) ∧ Aside0 (Below w.heap.size w wc))
 case first =>
  go_wp2
  go_meet
  case rel => exact ⟨⟨(r_ HO.out)⟩, ⟨(r_ HD.out)⟩, ⟨cb_⟩⟩
 case rest =>
  apply_assumption
  obtain ⟨HO, HD, HB⟩ := hcut
  exact part3 _ _ _ _ _ HR1 HC1 H1 _ _ _ _ _ _ _ _ _ _ HO HD HB HX EC _ _ _ _ _ _ _ _ _ _ _ _ _ _ _ _ _ _ _ _ _ _ _ _ _ _ _ _ _ _ _ _ _ _ _ _ _ _ _ _ _ _ _ _ _ _ _ _ _ _ _ _ _ _ _ _ _ _ _ _ _ _ _ _ _ _ _ _ _ _ _ _ _ _ _ _ _ _ _ _ _ _ _ _ _ _ _ _ _ _ _ _ _ _ _ _ _ _ _ _ _ _ _ _ _ _ _ _ _ _ _ _ _ _ _ _ _ _ _ _ _ _ _ _ _ _ _ _ _ _ _ _ _ _ _ _ _ _ _ _ _ _ _ _ _ _ _ _ _ _ _ _ _ _ _ _ _ _ _ _ _ _ _ _ _ _ _ _ _ _ _ _ _ _ _ _ _ _ _ _ _ _ _ _ _ _ _ _ _ _ _ _ _ _ _ _ _ _ _ _ _ _ _ _ _ _ _ _ _ _ _ _ _ _ _ _ _ _ _ _ _ _ _ _ _ _ _ _ _ _ _ _ _ _ _ _ _ _ _ _ _ _ _ _ _
set_option maxHeartbeats 16000000 in
set_option maxRecDepth 100000 in
theorem walk (A0 : Option Addr) (c0 : Nat) (l0 : List Int) (A1 : Option Addr) (c1 : Nat) (l1 : List Int) (w : World) (hr0 : Kd.C (Kd.int .u8) w A0 l0.length l0) (hc0 : l0.length ≤ c0) (hr1 : Kd.C (Kd.int .u8) w A1 l1.length l1) (hc1 : l1.length ≤ c1) (h0 : okBy l0) (h1 : okBy l1) :
  Calls Try.prog 7 #[.slice A0 l0.length c0, .slice A1 l1.length c1] w fun e w' => e = .returned (.bool true) ∧ Below w.heap.size w w' := by
 have HR0 := a_ hr0
 have HC0 := a_ hc0
 have HR1 := a_ hr1
 have HC1 := a_ hc1
 have H0 := a_ h0
 have H1 := a_ h1
 have HB := a_ (Below.refl w.heap.size w)
 clear hr0 hc0 hr1 hc1 h0 h1
 obtain ⟨b, hb⟩ : ∃ b, laws_big.f l0 l1 = some b := by unfold laws_big.f; split <;> exact ⟨_, rfl⟩
 have A2 := a_ hb
 clear hb
 cases b
 case true =>
  go_enter Try.func7, Try.ntmps7
  go_wp2_with (first | (go_at_call 28; (with_reducible refine (laws_big.calls _ _ l0 _ _ l1 true _ HR0.out HC0.out HR1.out HC1.out A2.out).mono ?_); rintro e w' ⟨rfl, ⟨nd, rfl⟩⟩))
  go_ret
  exact ⟨rfl, cb_⟩
 go_enter Try.func7, Try.ntmps7
 go_upto_region 4 with (first | (go_at_call 28; (with_reducible refine (laws_big.calls _ _ l0 _ _ l1 false _ HR0.out HC0.out HR1.out HC1.out A2.out).mono ?_); rintro e w' ⟨rfl, ⟨nd, rfl⟩⟩) | (go_at_call 29; (with_reducible refine (drawOrderFor_any (c0 := c0) H0.out (by repeat (first | exact Kd.C_below HR0.out HB.out | exact HR0.out | (with_reducible refine Kd.C_alloc ?_ _) | (with_reducible refine Kd.C_drewN ?_ _) | (with_reducible refine Kd.C_drew ?_)))).mono ?_); rintro e w1 ⟨kd, v6, h, rfl, ho, hl, hf, hb⟩; have HL := a_ hl; have HF := a_ hf; clear hl hf; have HO := a_ (Kd.R_lower ho (Below.size cb_)); clear ho; have n0_ := a_ (below_step cb_ hb); clear HB; have HB := n0_; clear n0_; clear hb; obtain ⟨Ah, ch, eh⟩ := Kd.R_slice HO.out; subst eh))
 obtain ⟨o, b, one, gd, n, hol, e1, e2, e3, e4, e5, e6, e7, hcase⟩ := first_facts kd h HL.out HF.out
 have E1 := a_ e1
 have E2 := a_ e2
 have E3 := a_ e3
 have E4 := a_ e4
 have E5 := a_ e5
 have E6 := a_ e6
 have E7 := a_ e7
 have EC := a_ hcase
 clear e1 e2 e3 e4 e5 e6 e7 hcase hol
 go_upto_region 8 with (first | (go_at_call 24; (with_reducible refine (ordI E1.out (by repeat (first | exact (Kd.R_reads' HO.out).2.2 | (with_reducible refine Kd.C_alloc ?_ _) | (with_reducible refine Kd.C_drewN ?_ _) | (with_reducible refine Kd.C_drew ?_))) (Kd.R_reads' HO.out).2.1).mono ?_); rintro e w2 ⟨v7, rfl, ho, hb⟩; have HQ1 := a_ (Kd.R_lower ho (Below.size cb_)); clear ho; have n0_ := a_ (Kd.R_below (r_ HO.out) hb); have n1_ := a_ (below_step cb_ hb); clear HO HB; have HO := n0_; have HB := n1_; clear n0_ n1_; clear hb; obtain ⟨Aq1, cq1, eq1⟩ := Kd.R_slice HQ1.out; subst eq1) | (go_at_call 23; (with_reducible refine (ordS E2.out (by repeat (first | exact (Kd.R_reads' HO.out).2.2 | (with_reducible refine Kd.C_alloc ?_ _) | (with_reducible refine Kd.C_drewN ?_ _) | (with_reducible refine Kd.C_drew ?_))) (Kd.R_reads' HO.out).2.1).mono ?_); rintro e w3 ⟨v9, rfl, ho, hb⟩; have HQ2 := a_ (Kd.R_lower ho (Below.size cb_)); clear ho; have n0_ := a_ (Kd.R_below (r_ HO.out) hb); have n1_ := a_ (Kd.R_below (r_ HQ1.out) hb); have n2_ := a_ (below_step cb_ hb); clear HO HQ1 HB; have HO := n0_; have HQ1 := n1_; have HB := n2_; clear n0_ n1_ n2_; clear hb; obtain ⟨Aq2, cq2, eq2⟩ := Kd.R_slice HQ2.out; subst eq2) | (go_at_call 27; (with_reducible refine (cntI E3.out (by repeat (first | exact (Kd.R_reads' HO.out).2.2 | (with_reducible refine Kd.C_alloc ?_ _) | (with_reducible refine Kd.C_drewN ?_ _) | (with_reducible refine Kd.C_drew ?_))) (Kd.R_reads' HO.out).2.1).mono ?_); rintro e w4 ⟨rfl, hb⟩; have n0_ := a_ (Kd.R_below (r_ HO.out) hb); have n1_ := a_ (Kd.R_below (r_ HQ1.out) hb); have n2_ := a_ (Kd.R_below (r_ HQ2.out) hb); have n3_ := a_ (below_step cb_ hb); clear HO HQ1 HQ2 HB; have HO := n0_; have HQ1 := n1_; have HQ2 := n2_; have HB := n3_; clear n0_ n1_ n2_ n3_; clear hb) | (go_at_call 26; (with_reducible refine (cntS E4.out (by repeat (first | exact (Kd.R_reads' HO.out).2.2 | (with_reducible refine Kd.C_alloc ?_ _) | (with_reducible refine Kd.C_drewN ?_ _) | (with_reducible refine Kd.C_drew ?_))) (Kd.R_reads' HO.out).2.1).mono ?_); rintro e w5 ⟨rfl, hb⟩; have n0_ := a_ (Kd.R_below (r_ HO.out) hb); have n1_ := a_ (Kd.R_below (r_ HQ1.out) hb); have n2_ := a_ (Kd.R_below (r_ HQ2.out) hb); have n3_ := a_ (below_step cb_ hb); clear HO HQ1 HQ2 HB; have HO := n0_; have HQ1 := n1_; have HQ2 := n2_; have HB := n3_; clear n0_ n1_ n2_ n3_; clear hb))
 go_cut [107] (fun v107 wc => v107 = .bool false ∧ Aside0 (Kd.R k77 77 wc w.heap.size (fun _ => True) (.slice Ah h.length ch) h) ∧ Aside0 (Kd.R (Kd.int .i64) 3 wc w.heap.size (fun _ => True) (.slice Aq1 o.length cq1) o) ∧ Aside0 (Below w.heap.size w wc))
 case first =>
  cases one with
  | true =>
   have hn' : decide (0 < n) = b := by
    rcases EC.out with ⟨q1, _, q2, _⟩ | ⟨q1, q2⟩
    ·rw [q1]; exact q2
    ·rw [q1]; exact q2 rfl
   go_wp2_with (first | (go_at_call 30; (with_reducible refine (sameI E7.out (by repeat (first | exact (Kd.R_reads' HQ1.out).2.2 | (with_reducible refine Kd.C_alloc ?_ _) | (with_reducible refine Kd.C_drewN ?_ _) | (with_reducible refine Kd.C_drew ?_))) (Kd.R_reads' HQ1.out).2.1 (by repeat (first | exact (Kd.R_reads' HQ2.out).2.2 | (with_reducible refine Kd.C_alloc ?_ _) | (with_reducible refine Kd.C_drewN ?_ _) | (with_reducible refine Kd.C_drew ?_))) (Kd.R_reads' HQ2.out).2.1).mono ?_); rintro e w6 ⟨rfl, hb⟩; have n0_ := a_ (Kd.R_below (r_ HO.out) hb); have n1_ := a_ (Kd.R_below (r_ HQ1.out) hb); have n2_ := a_ (Kd.R_below (r_ HQ2.out) hb); have n3_ := a_ (below_step cb_ hb); clear HO HQ1 HQ2 HB; have HO := n0_; have HQ1 := n1_; have HQ2 := n2_; have HB := n3_; clear n0_ n1_ n2_ n3_; clear hb) | (go_at_call 31; (with_reducible refine (goodI E5.out (by repeat (first | exact (Kd.R_reads' HO.out).2.2 | (with_reducible refine Kd.C_alloc ?_ _) | (with_reducible refine Kd.C_drewN ?_ _) | (with_reducible refine Kd.C_drew ?_))) (Kd.R_reads' HO.out).2.1).mono ?_); rintro e w7 ⟨rfl, hb⟩; have n0_ := a_ (Kd.R_below (r_ HO.out) hb); have n1_ := a_ (Kd.R_below (r_ HQ1.out) hb); have n2_ := a_ (Kd.R_below (r_ HQ2.out) hb); have n3_ := a_ (below_step cb_ hb); clear HO HQ1 HQ2 HB; have HO := n0_; have HQ1 := n1_; have HQ2 := n2_; have HB := n3_; clear n0_ n1_ n2_ n3_; clear hb) | (go_at_call 32; (with_reducible refine (goodS E6.out (by repeat (first | exact (Kd.R_reads' HO.out).2.2 | (with_reducible refine Kd.C_alloc ?_ _) | (with_reducible refine Kd.C_drewN ?_ _) | (with_reducible refine Kd.C_drew ?_))) (Kd.R_reads' HO.out).2.1).mono ?_); rintro e w8 ⟨rfl, hb⟩; have n0_ := a_ (Kd.R_below (r_ HO.out) hb); have n1_ := a_ (Kd.R_below (r_ HQ1.out) hb); have n2_ := a_ (Kd.R_below (r_ HQ2.out) hb); have n3_ := a_ (below_step cb_ hb); clear HO HQ1 HQ2 HB; have HO := n0_; have HQ1 := n1_; have HQ2 := n2_; have HB := n3_; clear n0_ n1_ n2_ n3_; clear hb))
   go_meet
   case rel => exact ⟨(by first | rfl | (simp; done) | (simp [*]; done)), ⟨(r_ HO.out)⟩, ⟨(r_ HQ1.out)⟩, ⟨cb_⟩⟩
  | false =>
   go_wp2_with (first | (go_at_call 30; (with_reducible refine (sameI E7.out (by repeat (first | exact (Kd.R_reads' HQ1.out).2.2 | (with_reducible refine Kd.C_alloc ?_ _) | (with_reducible refine Kd.C_drewN ?_ _) | (with_reducible refine Kd.C_drew ?_))) (Kd.R_reads' HQ1.out).2.1 (by repeat (first | exact (Kd.R_reads' HQ2.out).2.2 | (with_reducible refine Kd.C_alloc ?_ _) | (with_reducible refine Kd.C_drewN ?_ _) | (with_reducible refine Kd.C_drew ?_))) (Kd.R_reads' HQ2.out).2.1).mono ?_); rintro e w6 ⟨rfl, hb⟩; have n0_ := a_ (Kd.R_below (r_ HO.out) hb); have n1_ := a_ (Kd.R_below (r_ HQ1.out) hb); have n2_ := a_ (Kd.R_below (r_ HQ2.out) hb); have n3_ := a_ (below_step cb_ hb); clear HO HQ1 HQ2 HB; have HO := n0_; have HQ1 := n1_; have HQ2 := n2_; have HB := n3_; clear n0_ n1_ n2_ n3_; clear hb) | (go_at_call 31; (with_reducible refine (goodI E5.out (by repeat (first | exact (Kd.R_reads' HO.out).2.2 | (with_reducible refine Kd.C_alloc ?_ _) | (with_reducible refine Kd.C_drewN ?_ _) | (with_reducible refine Kd.C_drew ?_))) (Kd.R_reads' HO.out).2.1).mono ?_); rintro e w7 ⟨rfl, hb⟩; have n0_ := a_ (Kd.R_below (r_ HO.out) hb); have n1_ := a_ (Kd.R_below (r_ HQ1.out) hb); have n2_ := a_ (Kd.R_below (r_ HQ2.out) hb); have n3_ := a_ (below_step cb_ hb); clear HO HQ1 HQ2 HB; have HO := n0_; have HQ1 := n1_; have HQ2 := n2_; have HB := n3_; clear n0_ n1_ n2_ n3_; clear hb) | (go_at_call 32; (with_reducible refine (goodS E6.out (by repeat (first | exact (Kd.R_reads' HO.out).2.2 | (with_reducible refine Kd.C_alloc ?_ _) | (with_reducible refine Kd.C_drewN ?_ _) | (with_reducible refine Kd.C_drew ?_))) (Kd.R_reads' HO.out).2.1).mono ?_); rintro e w8 ⟨rfl, hb⟩; have n0_ := a_ (Kd.R_below (r_ HO.out) hb); have n1_ := a_ (Kd.R_below (r_ HQ1.out) hb); have n2_ := a_ (Kd.R_below (r_ HQ2.out) hb); have n3_ := a_ (below_step cb_ hb); clear HO HQ1 HQ2 HB; have HO := n0_; have HQ1 := n1_; have HQ2 := n2_; have HB := n3_; clear n0_ n1_ n2_ n3_; clear hb))
   go_meet
   case rel => exact ⟨(by first | rfl | (simp; done) | (simp [*]; done)), ⟨(r_ HO.out)⟩, ⟨(r_ HQ1.out)⟩, ⟨cb_⟩⟩
 case rest =>
  clear HO HQ1 HQ2 HB
  obtain ⟨rfl, HO, HQ1, HB⟩ := hcut
  go_upto_if 108 with (fail)
  go_cut [] (fun wc => Aside0 (Below w.heap.size w wc))
  case first =>
   cases b with
   | true =>
    have E8 : Aside0 (Ev (fun k => impl_FitsOrder.f k kd h o) (true, true)) := ⟨by
     rcases EC.out with ⟨_, _, _, q⟩ | ⟨q, _⟩
     ·exact q
     ·cases q⟩
    go_wp2_with (first | (go_at_call 22; (with_reducible refine (fitI E8.out (by repeat (first | exact (Kd.R_reads' HO.out).2.2 | (with_reducible refine Kd.C_alloc ?_ _) | (with_reducible refine Kd.C_drewN ?_ _) | (with_reducible refine Kd.C_drew ?_))) (Kd.R_reads' HO.out).2.1 (by repeat (first | exact (Kd.R_reads' HQ1.out).2.2 | (with_reducible refine Kd.C_alloc ?_ _) | (with_reducible refine Kd.C_drewN ?_ _) | (with_reducible refine Kd.C_drew ?_))) (Kd.R_reads' HQ1.out).2.1).mono ?_); rintro e w9 ⟨rfl, hb⟩; have n0_ := a_ (below_step cb_ hb); clear HB; have HB := n0_; clear n0_; clear hb))
    go_meet
    case rel => exact ⟨cb_⟩
   | false =>
    go_wp2
    go_meet
    case rel => exact ⟨cb_⟩
  case rest =>
   apply_assumption
   exact part2 _ _ _ _ _ HR1 HC1 H1 hcut _ _ _ _ _ _ _ _ _ _ _ _ _ _ _ _ _ _ _ _ _ _ _ _ _ _ _ _ _ _ _ _ _ _ _ _ _ _ _ _ _ _ _ _ _ _ _ _ _ _ _ _ _ _ _ _ _ _ _ _ _ _ _ _ _ _ _ _ _ _ _ _ _ _ _ _ _ _ _ _ _ _ _ _ _ _ _ _ _ _ _ _ _ _ _ _ _ _ _ _ _ _ _ _ _ _ _ _ _ _ _ _ _ _ _ _ _ _ _ _ _ _ _ _ _ _ _ _ _ _ _ _ _ _ _ _ _ _ _ _ _ _ _ _ _ _ _ _ _ _ _ _ _ _ _ _ _ _ _ _ _ _ _ _ _ _ _ _ _ _ _ _ _ _ _ _ _ _ _ _ _ _ _ _ _ _ _ _ _ _ _ _ _ _ _ _ _ _ _ _ _ _ _ _ _ _ _ _ _ _ _ _ _ _ _ _ _ _ _ _ _ _ _ _ _ _ _ _ _ _ _ _ _ _ _ _ _ _ _ _ _ _ _ _ _ _ _ _ _ _
open Go.RowKit Go.Proofs.Ythdpiceiemkjlaa.GFnOneOrder Go.Proofs.YthdpiceiemkjlaaW.PrintWords Go.Proofs.YthdpiceiemkjlaaW.PrintLast Go.Proofs.YthdpiceiemkjlaaW.PrintMore Go.Proofs.Ythdpiceiemkjlaa.MBase
theorem laws_FnOneOrder.calls (k : Nat) (A0 : Option Addr) (c0 : Nat) (l0 : List Int) (A1 : Option Addr) (c1 : Nat) (l1 : List Int) (r : Bool) (w : World) (hr0 : Kd.C (Kd.int .u8) w A0 l0.length l0) (hc0 : l0.length ≤ c0) (hr1 : Kd.C (Kd.int .u8) w A1 l1.length l1) (hc1 : l1.length ≤ c1) (h : laws_FnOneOrder.f k l0 l1 = some r) :
  Calls Try.prog 7 #[.slice A0 l0.length c0, .slice A1 l1.length c1] w fun e w' => e = .returned (.bool r) ∧ Below w.heap.size w w' := by
 unfold laws_FnOneOrder.f at h
 by_cases h0 : l0.length ≤ 140737488351232 ∧ ∀ x ∈ l0, 0 ≤ x ∧ x ≤ 255
 ·rw [if_pos h0] at h
  by_cases h1 : l1.length ≤ 140737488351232 ∧ ∀ x ∈ l1, 0 ≤ x ∧ x ≤ 255
  ·rw [if_pos h1] at h
   obtain rfl := Option.some.inj h
   exact walk A0 c0 l0 A1 c1 l1 w hr0 hc0 hr1 hc1 h0 h1
  ·rw [if_neg h1] at h; cases h
 ·rw [if_neg h0] at h; cases h
theorem FnOneOrder : laws_FnOneOrder.Pure2 := by
 intro y0 y1 o0 b0 o1 b1
 refine ⟨0, ?_⟩
 have h0 : y0.length ≤ 140737488351232 ∧ ∀ x ∈ y0, 0 ≤ x ∧ x ≤ 255 := ⟨by omega, fun x hx => Go.bounds_u8 (o0.2 x hx)⟩
 have h1 : y1.length ≤ 140737488351232 ∧ ∀ x ∈ y1, 0 ≤ x ∧ x ≤ 255 := ⟨by omega, fun x hx => Go.bounds_u8 (o1.2 x hx)⟩
 unfold laws_FnOneOrder.f
 rw [if_pos h0, if_pos h1]

end Go.Proofs.Ythdpiceiemkjlaa.Pure

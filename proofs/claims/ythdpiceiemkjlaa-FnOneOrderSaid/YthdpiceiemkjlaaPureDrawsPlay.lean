/- What DrawPlayObject answers: some history, and some order. -/
import Derived.Test.YthdpiceiemkjlaaGFnOneOrderx18
import Derived.Test.YthdpiceiemkjlaaMBase
import Derived.KernelRfl
import Derived.Test.YthdpiceiemkjlaaPureDrawsHist
import Derived.Test.YthdpiceiemkjlaaPureOneLaws
import Derived.Test.YthdpiceiemkjlaaGFnOneOrderx12
set_option linter.unusedVariables false
set_option linter.unusedSimpArgs false
namespace Go.Proofs.Ythdpiceiemkjlaa.Pure
open Go.RowKit Go.Proofs.Ythdpiceiemkjlaa.GFnOneOrder Go.Proofs.YthdpiceiemkjlaaW.PrintWords Go.Proofs.YthdpiceiemkjlaaW.PrintLast Go.Proofs.YthdpiceiemkjlaaW.PrintMore Go.Proofs.Ythdpiceiemkjlaa.MBase
open Go.Proofs.Ythdpiceiemkjlaa Go.Proofs.Ythdpiceiemkjlaa.MNum Go.Proofs.Ythdpiceiemkjlaa.MIeee Go.Proofs.Ythdpiceiemkjlaa.MReal
set_option maxHeartbeats 1000000 in
set_option maxRecDepth 100000 in
theorem drawOrderFor_any {w : World} {A0 : Option Addr} {c0 : Nat} {s : List Int} (hs : okBy s) (hr0 : Kd.C (Kd.int .u8) w A0 s.length s) :
  Calls Try.prog 29 #[.slice A0 s.length c0] w fun e w' => ∃ (kd : Int) (v : Value) (h : List S77), e = .returned (.tuple #[.int .i64 kd, v]) ∧ Kd.R k77 77 w' w.heap.size (fun _ => True) v h ∧ h.length ≤ 9 ∧ flC h ∧ Below w.heap.size w w' := by
 have HS := a_ hs
 have HR := a_ hr0
 clear hs hr0
 go_enter Try.func29, Try.ntmps29
 go_wp2_with (first | (go_at_call 76; (with_reducible refine (kind_any (w0 := w) (m := 0) HS.out (Cur.new w _ A0 c0 s (Below.refl _ _) HR.out) (by omega) (below_alloc (Below.refl _ _) _)).mono ?_); rintro e w1 ⟨kd, rfl, hi, hb, hk⟩; have HI := a_ hi; have HB := a_ hb; have HM := a_ (show (0 : Int) + 2 ≤ 2 from by omega); clear hi hb hk) | (go_at_call 77; (with_reducible refine (hist_any (w0 := w) (m := (0 + 2)) kd HS.out ci_ (by omega) cb_).mono ?_); rintro e w2 ⟨v1, h, rfl, ho, hl, hf, ⟨mm, hm, hi⟩, hb, hk⟩; have HO := a_ (Kd.R_lower ho (Below.size cb_)); have HL := a_ hl; have HF := a_ hf; have HM2 := a_ hm; have HI2 := a_ hi; have HB2 := a_ hb; clear hi hb hk ho hl hf hm))
 go_ret2
 exact ⟨kd, _, h, rfl, HO.out, HL.out, HF.out, HB2.out⟩
set_option maxHeartbeats 1000000 in
set_option maxRecDepth 100000 in
theorem drawCallAhead_any {w : World} {A0 : Option Addr} {c0 : Nat} {s : List Int} (hs : okBy s) (hr0 : Kd.C (Kd.int .u8) w A0 s.length s) :
  Calls Try.prog 36 #[.slice A0 s.length c0] w fun e w' => ∃ (v : Value) (h : List S77) (i j : Int), e = .returned (.tuple #[v, .int .i64 i, .int .i64 j]) ∧ Kd.R k77 77 w' w.heap.size (fun _ => True) v h ∧ h.length ≤ 9 ∧ flC h ∧ (0 ≤ i ∧ i ≤ 9 ∧ 0 ≤ j ∧ j ≤ 9) ∧ Below w.heap.size w w' := by
 have HS := a_ hs
 have HR := a_ hr0
 have HM0 : Aside0 ((0 : Int) ≤ 0) := ⟨by omega⟩
 clear hs hr0
 go_enter Try.func36, Try.ntmps36
 go_wp2_with (first | (go_loud (go_at_call 77; (with_reducible refine (hist_any (w0 := w) (m := 0) 1 HS.out (Cur.new w _ A0 c0 s (Below.refl _ _) HR.out) (by omega) (below_alloc (Below.refl _ _) _)).mono ?_); rintro e w1 ⟨v1, h, rfl, ho, hl, hf, ⟨mm, hm, hi⟩, hb, hk⟩; have HO := a_ (Kd.R_lower ho (Below.size (below_alloc (Below.refl w.heap.size w) _))); have HL := a_ hl; have HF := a_ hf; have HM := a_ hm; have HI := a_ hi; have HB := a_ hb; have HK := a_ (KeepBut.refl w1 w.heap.size none); obtain ⟨A1, c1, e1⟩ := Kd.R_slice HO.out; subst e1; clear hi hb hk ho hl hf hm)) | (go_loud (go_at_call 81; (with_reducible refine (pick_any (w0 := w) (wrap64 ((h.length : Int) + 1)) HS.out ci_ (by have := HM0.out; have := HM.out; omega) cb_).mono ?_); rintro e w2 ⟨i, hr_, rfl, hi, hb, hk⟩; have HRi := a_ hr_; clear hr_; obtain ⟨mm_, hm_, hi⟩ := Cur.letter hi; have n0_ := a_ (Cur.keepR ci_ (r_ HO.out) (by decide) hk); have n1_ := a_ (KeepBut.trans ck_ hk (.inl rfl)); have n2_ := a_ (hb); have n3_ := a_ (hi); have n4_ := a_ ((by have := HM.out; omega : mm_ ≤ (0 : Int) + 202)); clear HO HK HB HI HM; have HO := n0_; have HK := n1_; have HB := n2_; have HI := n3_; have HM := n4_; clear n0_ n1_ n2_ n3_ n4_; clear hi hb hk hm_)) | (go_loud (go_at_call 81; (with_reducible refine (pick_any (w0 := w) (wrap64 ((h.length : Int) + 1)) HS.out ci_ (by have := HM0.out; have := HM.out; omega) cb_).mono ?_); rintro e w3 ⟨j, hr_, rfl, hi, hb, hk⟩; have HRj := a_ hr_; clear hr_; obtain ⟨mm_, hm_, hi⟩ := Cur.letter hi; have n0_ := a_ (Cur.keepR ci_ (r_ HO.out) (by decide) hk); have n1_ := a_ (KeepBut.trans ck_ hk (.inl rfl)); have n2_ := a_ (hb); have n3_ := a_ (hi); have n4_ := a_ ((by have := HM.out; omega : mm_ ≤ (0 : Int) + 204)); clear HO HK HB HI HM; have HO := n0_; have HK := n1_; have HB := n2_; have HI := n3_; have HM := n4_; clear n0_ n1_ n2_ n3_ n4_; clear hi hb hk hm_)))
 go_ret3
 exact ⟨_, h, i, j, rfl, HO.out, HL.out, HF.out, by have h1 := HRi.out; have h2 := HRj.out; have h3 := HL.out; have e : wrap64 ((h.length : Int) + 1) = (h.length : Int) + 1 := (by rw [wrap_id] <;> omega); rw [e] at h1 h2; omega, HB.out⟩
open Go.RowKit Go.Proofs.Ythdpiceiemkjlaa.GFnOneOrder Go.Proofs.YthdpiceiemkjlaaW.PrintWords Go.Proofs.YthdpiceiemkjlaaW.PrintLast Go.Proofs.YthdpiceiemkjlaaW.PrintMore Go.Proofs.Ythdpiceiemkjlaa.MBase
open Go.Proofs.Ythdpiceiemkjlaa Go.Proofs.Ythdpiceiemkjlaa.MNum Go.Proofs.Ythdpiceiemkjlaa.MIeee Go.Proofs.Ythdpiceiemkjlaa.MReal
theorem ordG_len (kind : Int) (hs : List S77) (hf : flC hs) : ((ordG kind hs).head?.getD []).length ≤ 9 := by
 cases e : okG kind hs with
 | false => rw [ordG_f e]; simp
 | true =>
  rw [ordG_t e]
  obtain ⟨e1, hg⟩ := (Bool.and_eq_true _ _).mp e
  have hk : kind = 1 ∨ kind = 2 := by simpa using e1
  have G := goodHs kind hk hs hg hf
  cases hO : ord kind hs hs.length [] (L0 kind) with
  | nil => simp
  | cons o os =>
   have h1 := ((fits_char G o).1 (by rw [hO]; exact List.mem_cons_self)).1.1
   have := G.n
   simp only [List.head?_cons, Option.getD_some]
   omega
theorem orderFor_any (kind : Int) (A : Option Addr) (c : Nat) (h : List S77) (w : World) (hr : Kd.C k77 w A h.length h) (hc : h.length ≤ c) (hl : h.length ≤ 9) (hf : flC h) :
  Calls Try.prog 23 #[.int .i64 kind, .slice A h.length c] w fun e w' => ∃ (v : Value) (o : List Int) (b : Bool), e = .returned (.tuple #[v, .bool b]) ∧ Kd.R (Kd.int .i64) 3 w' w.heap.size (fun _ => True) v o ∧ o.length ≤ 9 ∧ Below w.heap.size w w' := by
 obtain ⟨k, hk⟩ := (order_both kind h (by omega) hf).1.rounds
 refine (spec_OrderFor.calls k kind A c h _ _ w hr hc hk).mono ?_
 rintro e w' ⟨v, he, hR, hb⟩
 exact ⟨v, _, _, he, hR, ordG_len kind h hf, hb⟩
theorem left_new {α β : Type} {d : Kd α} {d' : Kd β} {e e' b b' : Nat} {W W1 : World} {ok ok' : Nat → Prop} {u v : Value} {xs : List α} {ys : List β} (h : d.R e W1 W.heap.size ok v xs) (hu : d'.R e' W b ok' u ys) (hs : b' ≤ W.heap.size) : d.R e W1 b' (fun k => some k ≠ u.ownBlock) v xs := by
 refine Kd.R_lower (Kd.R_mono (Kd.R_bound h) (fun k hk he => ?_)) hs
 obtain ⟨cells, hc⟩ := Kd.R_typed hu k he.symm
 have h1 := hk.2.1
 have h2 : W.heap[k]? = none := Array.getElem?_eq_none h1
 rw [h2] at hc
 cases hc
theorem left_append {α : Type} {d : Kd α} {e b : Nat} {W W1 : World} {u v v1 : Value} {xs : List α} (h : d.R e W b (fun k => some k ≠ v.ownBlock) u xs) (hg : W.grownBy W1 v.ownBlock) (hat : v1.ownBlock = v.ownBlock ∨ ∃ b, v1.ownBlock = some b ∧ W.heap.size ≤ b) : d.R e W1 b (fun k => some k ≠ v1.ownBlock) u xs := by
 refine Kd.R_mono (Kd.R_grown (Kd.R_bound h) hg (fun k hk => hk.1)) (fun k hk he => ?_)
 rcases hat with h1 | ⟨q, h1, h2⟩
 ·exact hk.1 (by rw [← h1]; exact he)
 ·rw [h1] at he
  have e1 := Option.some.inj he
  have := hk.2.2.1
  omega
def T17 : Bool × List (List Nat × List Nat) := (true, [([], []), ([], []), ([0, 1], [0, 1]), ([2], [2]), ([], []), ([], []), ([5], [5]), ([4, 6], [4, 6]), ([3, 7, 3], [3, 7]), ([8, 8, 0, 1, 2, 3, 4, 5, 6, 7, 8], [0, 4, 8])])
def B17 : List Nat := [0, 0, 3, 7, 0, 0, 32, 112, 255, 511]
theorem T17_tab : rtab .any (opsOf Try.f79 17) = T17 := by kernel_rfl
theorem T17_bits : waitsOk T17.2 B17 = true := by kernel_rfl
set_option maxHeartbeats 2000000 in
set_option maxRecDepth 100000 in
theorem drawPlayObject_any {w : World} {A0 : Option Addr} {c0 : Nat} {s : List Int} (hs : okBy s) (hr0 : Kd.C (Kd.int .u8) w A0 s.length s) :
  Calls Try.prog 79 #[.slice A0 s.length c0] w fun e w' => ∃ (kd : Int) (v : Value) (h : List S77) (v2 : Value) (xs : List Int), e = .returned (.tuple #[.int .i64 kd, v, v2]) ∧ Kd.R k77 77 w' w.heap.size (fun _ => True) v h ∧ Kd.R (Kd.int .i64) 3 w' w.heap.size (fun _ => True) v2 xs ∧ h.length ≤ 9 ∧ flC h ∧ xs.length ≤ 9 ∧ Below w.heap.size w w' := by
 have HS := a_ hs
 have HR := a_ hr0
 have HM0 : Aside0 ((0 : Int) ≤ 0) := ⟨by omega⟩
 clear hs hr0
 go_enter Try.func79, Try.ntmps79
 go_upto_region 5 with (first | (go_at_call 76; (with_reducible refine (kind_any (w0 := w) (m := 0) HS.out (Cur.new w _ A0 c0 s (Below.refl _ _) HR.out) (by omega) (below_alloc (Below.refl _ _) _)).mono ?_); rintro e w1 ⟨kd, rfl, hi, hb, hk⟩; have HI := a_ hi; have HB := a_ hb; have HM := a_ (show (0 : Int) + 2 ≤ 2 from by omega); clear hi hb hk) | (go_at_call 77; (with_reducible refine (hist_any (w0 := w) (m := (0 + 2)) kd HS.out ci_ (by omega) cb_).mono ?_); rintro e w2 ⟨v1, h, rfl, ho, hl, hf, ⟨mm_, hm, hi⟩, hb, hk⟩; have HO := a_ (Kd.R_lower ho (Below.size cb_)); have HL := a_ hl; have HF := a_ hf; clear HM HI HB; have HM := a_ hm; have HI := a_ hi; have HB := a_ hb; have HK := a_ (KeepBut.of_below hb w.heap.size none); clear hi hb hk ho hl hf hm; obtain ⟨A1, c1, e1⟩ := Kd.R_slice HO.out; subst e1) | (go_at_call 23; (with_reducible refine (orderFor_any kd A1 c1 h _ (by repeat (first | exact (Kd.R_reads' HO.out).2.2 | (with_reducible refine Kd.C_alloc ?_ _) | (with_reducible refine Kd.C_drewN ?_ _) | (with_reducible refine Kd.C_drew ?_))) ((Kd.R_reads' HO.out).2.1) HL.out HF.out).mono ?_); rintro e w3 ⟨v3, o, b, rfl, ho, hol, hb⟩; have HOL := a_ hol; have HQ := a_ (Kd.R_lower ho (Below.size cb_)); have n0_ := a_ (Kd.R_below (r_ HO.out) hb); have n1_ := a_ (Cur.below ci_ hb); have n2_ := a_ (KeepBut.trans ck_ (KeepBut.of_below hb w.heap.size none) (.inl rfl)); have n3_ := a_ (below_step cb_ hb); clear HO HI HK HB; have HO := n0_; have HI := n1_; have HK := n2_; have HB := n3_; clear n0_ n1_ n2_ n3_; clear hb; clear ho hol))
 go_cut [32] (fun v32 wc => ∃ (bb : Bool) (mm : Int), v32 = .bool bb ∧ Aside0 (mm ≤ 204) ∧ Aside0 (Kd.R k77 77 wc w.heap.size (fun _ => True) (.slice A1 h.length c1) h) ∧ Aside0 (Kd.R (Kd.int .i64) 3 wc w.heap.size (fun _ => True) v3 o) ∧ Aside0 (Cur w wc w.heap.size s mm) ∧ Aside0 (KeepBut w wc w.heap.size none) ∧ Aside0 (Below w.heap.size w wc))
 case first =>
  cases b with
  | true =>
   go_wp2_with (first | (go_at_call 110; (with_reducible refine (one_any (w0 := w) 2 HS.out ci_ (by have := HM0.out; have := HM.out; omega) cb_).mono ?_); rintro e w4 ⟨b2, rfl, hi, hb, hk⟩; obtain ⟨mm_, hm_, hi⟩ := Cur.letter hi; have n0_ := a_ (Cur.keepR ci_ (r_ HO.out) (by decide) hk); have n1_ := a_ (Cur.keepR ci_ (r_ HQ.out) (by decide) hk); have n2_ := a_ (KeepBut.trans ck_ hk (.inl rfl)); have n3_ := a_ (hb); have n4_ := a_ (hi); have n5_ := a_ ((by have := HM.out; omega : mm_ ≤ 204)); clear HO HQ HK HB HI HM; have HO := n0_; have HQ := n1_; have HK := n2_; have HB := n3_; have HI := n4_; have HM := n5_; clear n0_ n1_ n2_ n3_ n4_ n5_; clear hi hb hk hm_))
   go_meet
   case rel => exact ⟨_, mm_, (by first | rfl | (simp; done) | (simp [*]; done)), HM, ⟨(r_ HO.out)⟩, ⟨(r_ HQ.out)⟩, ⟨ci_⟩, ⟨ck_⟩, ⟨cb_⟩⟩
  | false =>
   go_wp2
   go_meet
   case rel => exact ⟨_, mm_, (by first | rfl | (simp; done) | (simp [*]; done)), ⟨by have := HM.out; omega⟩, ⟨(r_ HO.out)⟩, ⟨(r_ HQ.out)⟩, ⟨ci_⟩, ⟨ck_⟩, ⟨cb_⟩⟩
 case rest =>
  clear HI HB HK HM HO HQ
  obtain ⟨bb, mm, rfl, HM, HO, HQ, HI, HK, HB⟩ := hcut
  cases bb with
  | true =>
   go_wp2
   go_ret3
   exact ⟨kd, _, h, _, o, rfl, (r_ HO.out), (r_ HQ.out), HL.out, HF.out, HOL.out, cb_⟩
  | false =>
   clear HQ HOL
   go_wp2_with (first | ((with_reducible refine gate_dst (N := 38) rfl ?_); refine Kd.R_make (Kd.int .i64) _ 3 rfl (N := 38) rfl 23 _ _ rfl (h.length : Int) rfl rfl Try.underlying23 (.int .i64 0) 8 info3 rfl (by decide) (by omega) 0 (ok := fun _ => True) (okp := fun _ => True) rfl (fun _ hk => hk) trivial (by have := HL.out; omega) (by have := HL.out; omega) (Below.refl _ _) (Nat.le_refl _) ?_; intro v11 w5 ho hb hg_ hnew_; clear hg_ hnew_; have n0_ := a_ (Kd.R_below (r_ HO.out) hb); have n1_ := a_ (Kd.R_lower ho (keep_size (w := w) (g := w.heap.size) (row := none) ck_)); have n2_ := a_ (Cur.below ci_ hb); have n3_ := a_ (KeepBut.trans ck_ (KeepBut.of_below hb w.heap.size none) (.inl rfl)); have n4_ := a_ (below_step cb_ hb); clear HO HI HK HB; have HO := n0_; have HE := n1_; have HI := n2_; have HK := n3_; have HB := n4_; clear n0_ n1_ n2_ n3_ n4_; clear hb; clear ho; obtain ⟨A11, c11, e11⟩ := Kd.R_slice HE.out; rw [List.length_replicate, Int.toNat_natCast] at e11; subst e11; have n0_ := a_ (show Kd.R (Kd.int .i64) 3 w5 w.heap.size (fun _ => True) (.slice A11 h.length c11) (List.replicate h.length 0) from by have h1 := HE.out; rwa [Int.toNat_natCast] at h1); clear HE; have HE := n0_; clear n0_))
   go_loopg [41] (h.length + 1) (fun kq v41 w' => ∃ (xs : List Int) (i : Int), v41 = .int .i64 i ∧ Aside0 (0 ≤ i ∧ i + kq = h.length + 1 ∧ xs.length = h.length) ∧ Aside0 (Kd.R k77 77 w' w.heap.size (fun _ => True) (.slice A1 h.length c1) h) ∧ Aside0 (Kd.R (Kd.int .i64) 3 w' w.heap.size (fun _ => True) (.slice A11 h.length c11) xs) ∧ Aside0 (Cur w w' w.heap.size s mm) ∧ Aside0 (KeepBut w w' w.heap.size none) ∧ Aside0 (Below w.heap.size w w'))
   case atStart => exact ⟨List.replicate h.length 0, 0, (by first | rfl | (simp; done) | (simp [*]; done)), ⟨by simp⟩, ⟨(r_ HO.out)⟩, ⟨(r_ HE.out)⟩, ⟨ci_⟩, ⟨ck_⟩, ⟨cb_⟩⟩
   case round =>
    clear HI HB HK HO HE
    obtain ⟨xs, i, rfl, HX1, HO, HE, HI, HK, HB⟩ := hrel
    by_cases c2 : i < (h.length : Int)
    ·have c2b : decide (i < (h.length : Int)) = true := decide_eq_true c2
     have p_ : 0 ≤ i := HX1.out.1
     obtain ⟨go11, co11, eo11, gb11, gl11, cl11⟩ := Kd.R_form HE.out (by have := HX1.out; omega)
     (first | cases eo11 | (injection eo11 with ea_ en_ ec_; (first | subst ea_ | (injection ea_ with ea_; subst ea_)); subst ec_; clear en_))
     have GB11 := a_ gb11; clear gb11 gl11
     obtain ⟨hx9, hf9⟩ := Kd.R_celln 0 HE.out i p_ c2
     have HP := Kd.R_putg HE.out i i
     have HLW : Aside0 (w.heap.size ≤ w.heap.size) := ⟨Nat.le_refl _⟩
     have HW9 : Aside0 (wrap64 (i + 1) = i + 1) := ⟨by have := HX1.out; have := HL.out; rw [wrap_id] <;> omega⟩
     have p_t := eq_true p_
     have q_t := eq_true c2
     have p_b := decide_eq_true p_
     go_wp2_with (first | ((with_reducible refine gate_store (t := 3) (p := 47) rfl ?_); refine store_event (t := 3) (p := 47) (v := ?vo_47) (w1 := (wr.setCell ⟨go11, (i : Int).toNat, none⟩ (.int .i64 i))) ?hg ?ho ?hn ?hr ?_; (case ho => rfl); (case hg => rfl); (case hn => rfl); (case hr => first | (go_simp; done) | (go_simp; rfl)); intro w6 hw; have hg : wr.grownBy w6 (some go11) := (by rw [hw]; exact HP.2); have hp_ : Kd.R (Kd.int .i64) 3 w6 w.heap.size (fun _ => True) (.slice (some ⟨go11, 0, none⟩) h.length c11) (xs.set (i : Int).toNat i) := (by rw [hw]; exact HP.1); clear HP; have n0_ := a_ (Kd.R_over' (v := (.slice (some ⟨go11, 0, none⟩) h.length c11)) (r_ HO.out) (Kd.R_typed HE.out) (by decide) hg); have n1_ := a_ (hp_); have n2_ := a_ (Cur.grown ci_ hg HE.out (by decide)); have n3_ := a_ (by rw [hw]; exact below_set HB.out (Nat.le_trans HLW.out GB11.out) : Below w.heap.size w w6); have n4_ := a_ (KeepBut.trans ck_ (KeepBut.of_grown hg w.heap.size) (Kd.R_base2 HE.out)); clear HO HE HI HB HK; have HO := n0_; have HE := n1_; have HI := n2_; have HB := n3_; have HK := n4_; clear n0_ n1_ n2_ n3_ n4_; clear hg hw hp_))
     go_roundg (h.length - i.toNat)
     case measure => have := HX1.out; omega
     case rel => exact ⟨xs.set (i : Int).toNat i, i + 1, (by first | rfl | rw [HW9.out]), ⟨by have := HX1.out; rw [List.length_set]; omega⟩, ⟨(r_ HO.out)⟩, ⟨(r_ HE.out)⟩, ⟨ci_⟩, ⟨ck_⟩, ⟨cb_⟩⟩
    ·have c2b : decide (i < (h.length : Int)) = false := decide_eq_false c2
     have HE0 := a_ (show Kd.R (Kd.int .i64) 3 wr w.heap.size (fun k_ => some k_ ≠ ((.slice none 0 0) : Value).ownBlock) (.slice A11 h.length c11) xs from Kd.R_mono (r_ HE.out) (fun k_ _ q => by cases q))
     have HXL := HX1.out.2.2; clear HE
     go_wp2
     go_loopg [10, 11] (h.length + 1) (fun kq v10 v11 w' => ∃ (od left : List Int) (Al : Option Addr) (cl : Nat) (mm : Int), v11 = .slice Al left.length cl ∧ Aside0 (left.length + 1 = kq ∧ od.length + left.length = h.length) ∧ Aside0 (mm ≤ 204 + 2 * od.length) ∧ Aside0 (Kd.R k77 77 w' w.heap.size (fun _ => True) (.slice A1 h.length c1) h) ∧ Aside0 (Kd.R (Kd.int .i64) 3 w' w.heap.size (fun _ => True) v10 od) ∧ Aside0 (Kd.R (Kd.int .i64) 3 w' w.heap.size (fun k_ => some k_ ≠ (v10 : Value).ownBlock) v11 left) ∧ Aside0 (Cur w w' w.heap.size s mm) ∧ Aside0 (KeepBut w w' w.heap.size none) ∧ Aside0 (Below w.heap.size w w'))
     case atStart => exact ⟨[], xs, A11, c11, mm, (by rw [HXL]), ⟨by simp; omega⟩, ⟨by have := HM.out; simp; omega⟩, ⟨(r_ HO.out)⟩, ⟨Kd.R_nil _ _ _ _ _⟩, ⟨(r_ HE0.out)⟩, ⟨ci_⟩, ⟨ck_⟩, ⟨cb_⟩⟩
     case round =>
      clear HI HB HK HO HE0 HM HXL HX1 c2b c2
      obtain ⟨od, left, Al, cl, mm, rfl, HX, HM, HO, HD, HE, HI, HK, HB⟩ := hrel
      by_cases c3 : (0 : Int) < (left.length : Int)
      ·have c3b : decide ((0 : Int) < (left.length : Int)) = true := decide_eq_true c3
       have HOL : Aside0 (od.length ≤ 9) := ⟨by have := HX.out; have := HL.out; omega⟩
       obtain ⟨go11, co11, eo11, gb11, gl11, cl11⟩ := Kd.R_form HE.out (by omega)
       (first | cases eo11 | (injection eo11 with ea_ en_ ec_; (first | subst ea_ | (injection ea_ with ea_; subst ea_)); subst ec_; clear en_))
       clear gb11 gl11 cl11
       go_upto_region 16 with (first | (go_at_call 81; (with_reducible refine (pick_any (w0 := w) (left.length : Int) HS.out ci_ (by have := HM0.out; have := HM.out; have := HOL.out; omega) cb_).mono ?_); rintro e w8 ⟨k, hr_, rfl, hi, hb, hk⟩; have HRk := a_ hr_; clear hr_; obtain ⟨mm_, hm_, hi⟩ := Cur.letter hi; have n0_ := a_ (Cur.keepR ci_ (r_ HO.out) (by decide) hk); have n1_ := a_ (Cur.keepR ci_ (r_ HD.out) (by decide) hk); have n2_ := a_ (Cur.keepR ci_ (r_ HE.out) (by decide) hk); have n3_ := a_ (KeepBut.trans ck_ hk (.inl rfl)); have n4_ := a_ (hb); have n5_ := a_ (hi); have n6_ := a_ ((by have := HM.out; omega : mm_ ≤ 204 + 2 * (od.length + 1))); clear HO HD HE HK HB HI HM; have HO := n0_; have HD := n1_; have HE := n2_; have HK := n3_; have HB := n4_; have HI := n5_; have HM := n6_; clear n0_ n1_ n2_ n3_ n4_ n5_ n6_; clear hi hb hk hm_; have p_ : 0 ≤ k := HRk.out.1; have q_ : k < (left.length : Int) := HRk.out.2 (by omega); have p_t := eq_true p_; have q_t := eq_true q_; have p_b := decide_eq_true p_; have q_b := decide_eq_true q_; obtain ⟨hx11, hf11⟩ := Kd.R_celln 0 HE.out k p_ q_))
       go_upto_region 17 with (first | ((with_reducible refine gate_builtin (b := .append) (xs := #[.tmp 56, .tmp 61]) rfl ?_); at_builtin; go_loud (refine Kd.R_append (Kd.int .i64) w.heap.size rfl (.tmp 56) (.tmp 61) 23 3 (.int .i64 0) 8 rfl Try.underlying23 info3 rfl (by decide) (by omega) u10 od (rdOf 0 left k) [.int .i64 (rdOf 0 left k)] (fun _ => True) (fun _ => False) rfl rfl ?aP (fun _ hk => hk.elim) ?aF ?aO (Below.refl _ _) ?aS ?aL ?_; (case aP => exact rfl); (case aF => exact (fun _ _ => trivial)); (case aO => exact (r_ HD.out)); (case aS => exact (keep_size (w := w) (g := w.heap.size) (row := none) ck_)); (case aL => have := HOL.out; omega); intro v10 w20 ho hb hg hat; have n0_ := a_ (Kd.R_over' (r_ HO.out) (Kd.R_typed (r_ HD.out)) (by decide) hg); have n1_ := a_ (left_append (r_ HE.out) hg hat); have n2_ := a_ (Cur.grownV ci_ hg (r_ HD.out) (by decide)); have n3_ := a_ (below_weaken cb_ (Nat.le_refl _) hb); have n4_ := a_ (KeepBut.trans ck_ (KeepBut.of_grown hg w.heap.size) (Kd.R_base2 HD.out)); have n5_ := a_ (ho); clear HO HE HI HB HK HD; have HO := n0_; have HE := n1_; have HI := n2_; have HB := n3_; have HK := n4_; have HD := n5_; clear n0_ n1_ n2_ n3_ n4_ n5_; clear ho hb hg hat)))
       have HTL : Aside0 ((left.take (k : Int).toNat).length = k.toNat) := ⟨by rw [List.length_take]; omega⟩
       have HDL : Aside0 (wrap64 (k + 1) = k + 1) := ⟨by have := HX.out; have := HL.out; rw [wrap_id] <;> omega⟩
       have HCL : Aside0 (left.length ≤ cl) := ⟨(Kd.R_reads' HE.out).2.1⟩
       obtain ⟨i011, hi011, _, hsz11, _⟩ := info_parts info3
       obtain ⟨hcut11, hA11, hC11⟩ := print_take_of (P := Try.prog) (Value.int .i64) 0 23 3 .i64 Try.underlying23 hi011 hsz11 (some ⟨go11, 0, none⟩) cl left k p_ (by omega) HCL.out
       obtain ⟨A12, hcut12, hA12, hC12⟩ := print_drop_of (P := Try.prog) (Value.int .i64) 0 23 3 .i64 Try.underlying23 hi011 hsz11 (some ⟨go11, 0, none⟩) cl left (wrap64 (k + 1)) (by have := HDL.out; omega) (by have := HDL.out; omega) HCL.out
       have n0_ := a_ (show Kd.R k77 77 w20.drew w.heap.size (fun _ => True) (.slice A1 h.length c1) h from (r_ HO.out))
       have n1_ := a_ (show Kd.R (Kd.int .i64) 3 w20.drew w.heap.size (fun _ => True) v10 (od ++ [rdOf 0 left k]) from (r_ HD.out))
       have n2_ := a_ (show Kd.R (Kd.int .i64) 3 w20.drew w.heap.size (fun k_ => some k_ ≠ (v10 : Value).ownBlock) (.slice (some ⟨go11, 0, none⟩) left.length cl) left from (r_ HE.out))
       have n3_ := a_ (show Cur w w20.drew w.heap.size s mm_ from ci_)
       have n4_ := a_ (show KeepBut w w20.drew w.heap.size none from ck_)
       have n5_ := a_ (show Below w.heap.size w w20.drew from cb_)
       have HRT : Aside0 (Kd.C (Kd.int .i64) w20.drew (some ⟨go11, 0, none⟩) (left.take k.toNat).length (left.take k.toNat)) := a_ (Kd.C_of_reads (h1 := fun _ => rfl) (hA11 _ (Kd.reads_of_C (Kd.R_reads' n2_.out).2.2)))
       have HRD : Aside0 (Kd.C (Kd.int .i64) w20.drew A12 (left.drop (wrap64 (k + 1)).toNat).length (left.drop (wrap64 (k + 1)).toNat)) := a_ (Kd.C_of_reads (h1 := fun _ => rfl) (hA12 _ (Kd.reads_of_C (Kd.R_reads' n2_.out).2.2)))
       have HCT := a_ hC11; have HCD := a_ hC12; clear hA11 hC11 hA12 hC12 hi011 hsz11 HO HD HE HI HK HB; have HO := n0_; have HD := n1_; have HE := n2_; have HI := n3_; have HK := n4_; have HB := n5_; clear n0_ n1_ n2_ n3_ n4_ n5_
       refine start_ (n := 10) (S := fun w' => True) (ds := []) #[false, false, false, false, false, false, false, false, false, false] (by kernel_rfl) rfl rfl trivial (fun hHeld => ?_); refine with_tabW T17_tab T17_bits (fun HT_ HW_ => ?_)
       generalize w20.drew = wg at HO HD HE HI HK HB HRT HRD hHeld ⊢
       refine pure_ (i := 0) (N := some 63) (v := ?_) (a' := ?_) #[true, false, false, false, false, false, false, false, false, false] rfl rfl (any_of HT_.out (by kernel_rfl)) (fun _ _ _ h => h) (Or.inl ⟨by rfl, ?_⟩) ?_ ?_
       rotate_left
       ·intro w'
        go_simp
        with_reducible rfl
       rotate_left
       ·simp only [Act.put, List.setIfInBounds_toArray, List.set_cons_zero, List.set_cons_succ, i64_w, i32_w]
        rfl
       refine pure_ (i := 1) (N := some 64) (v := ?_) (a' := ?_) #[true, true, false, false, false, false, false, false, false, false] rfl rfl (any_of HT_.out (by kernel_rfl)) (fun _ _ _ h => h) (Or.inl ⟨by rfl, ?_⟩) ?_ ?_
       rotate_left
       ·intro w'
        go_simp
        with_reducible rfl
       rotate_left
       ·simp only [Act.put, List.setIfInBounds_toArray, List.set_cons_zero, List.set_cons_succ, i64_w, i32_w]
        rfl
       refine pure_ (i := 2) (N := some 65) (v := ?_) (a' := ?_) #[true, true, true, false, false, false, false, false, false, false] rfl rfl (any_of HT_.out (by kernel_rfl)) (fun _ _ _ h => h) (Or.inl ⟨by rfl, ?_⟩) ?_ ?_
       rotate_left
       ·intro w'
        go_simp
        with_reducible rfl
       rotate_left
       ·simp only [Act.put, List.setIfInBounds_toArray, List.set_cons_zero, List.set_cons_succ, i64_w, i32_w]
        rfl
       refine pure_ (i := 4) (N := some 67) (v := ?_) (a' := ?_) #[true, true, true, false, true, false, false, false, false, false] rfl rfl (any_of HT_.out (by kernel_rfl)) (fun _ _ _ h => h) (Or.inl ⟨by rfl, ?_⟩) ?_ ?_
       rotate_left
       ·intro w'
        go_simp
        with_reducible rfl
       rotate_left
       ·simp only [Act.put, List.setIfInBounds_toArray, List.set_cons_zero, List.set_cons_succ, i64_w, i32_w]
        rfl
       refine pure_ (i := 5) (N := some 68) (v := ?_) (a' := ?_) #[true, true, true, false, true, true, false, false, false, false] rfl rfl (any_of HT_.out (by kernel_rfl)) (fun _ _ _ h => h) (Or.inl ⟨by rfl, ?_⟩) ?_ ?_
       rotate_left
       ·intro w'
        go_simp
        with_reducible rfl
       rotate_left
       ·simp only [Act.put, List.setIfInBounds_toArray, List.set_cons_zero, List.set_cons_succ, i64_w, i32_w]
        rfl
       refine pure_ (i := 6) (N := some 69) (v := ?_) (a' := ?_) #[true, true, true, false, true, true, true, false, false, false] rfl rfl (any_of HT_.out (by kernel_rfl)) (fun _ _ _ h => h) (Or.inl ⟨by rfl, ?_⟩) ?_ ?_
       rotate_left
       ·intro w'
        go_simp
        with_reducible rfl
       rotate_left
       ·simp only [Act.put, List.setIfInBounds_toArray, List.set_cons_zero, List.set_cons_succ, i64_w, i32_w]
        rfl
       refine pure_ (i := 7) (N := some 70) (v := ?_) (a' := ?_) #[true, true, true, false, true, true, true, true, false, false] rfl rfl (any_of HT_.out (by kernel_rfl)) (fun _ _ _ h => h) (Or.inl ⟨by rfl, ?_⟩) ?_ ?_
       rotate_left
       ·intro w'
        go_simp
        with_reducible rfl
       rotate_left
       ·simp only [Act.put, List.setIfInBounds_toArray, List.set_cons_zero, List.set_cons_succ, i64_w, i32_w]
        rfl
       refine one_ (i := 3) (N := some 66) #[true, true, true, true, true, true, true, true, false, false] rfl rfl (one_of HT_.out (by kernel_rfl)) (by decide) (fun K hK => ?_)
       refine goes_ Try.func71 (by kernel_rfl) rfl #[.slice (some ⟨go11, 0, none⟩) (left.take (k : Int).toNat).length cl] (by rfl) rfl rfl (by (try simp only [List.map_toArray, List.map_cons, List.map_nil]); first | done | rfl | (rw [show (left.take (k : Int).toNat).length = k.toNat from HTL.out] <;> rfl) | (simp only [List.length_drop, List.length_take]; rfl)) ?_
       with_reducible refine (spec_l1Own.calls _ _ (left.take (k : Int).toNat) _ _ HRT.out HCT.out (own_eq _ (by have := HTL.out; have := HRk.out; have := HX.out; have := HL.out; omega))).mono ?_
       rintro e w13 ⟨v112, rfl, ho0, hb⟩
       refine ⟨_, rfl, ?_⟩
       have HW := a_ ho0; have HN := a_ hb; clear ho0 hb
       refine hK.out _ _ trivial (fun hHeld => ?_)
       clear hK K
       refine norm_ (a' := ?_) ?_ ?_
       rotate_left
       ·show Act.put _ (some 66) _ = _
        simp only [Act.put, List.setIfInBounds_toArray, List.set_cons_zero, List.set_cons_succ, i64_w, i32_w]
        rfl
       refine one_ (i := 8) (N := some 71) #[true, true, true, true, true, true, true, true, true, false] rfl rfl (one_of HT_.out (by kernel_rfl)) (by decide) (fun K hK => ?_)
       refine Kd.R_append_rows_step (Kd.int .i64) (w0 := wg) wg.heap.size (by rfl) (.tmp 66) (.tmp 70) 23 3 (.int .i64 0) 8 rfl Try.underlying23 info3 rfl (by decide) (by omega) v112 (left.take (k : Int).toNat) (left.drop (wrap64 (k + 1)).toNat) _ _ _ (fun _ => True) (fun _ => False) rfl rfl ?aO ?aR (fun _ _ h => h) (fun _ h => h.elim) ?aF ?aB ?aS ?aL ?_
       (case aR => first | (rw [← show (left.drop (wrap64 (k + 1)).toNat).length = (left.length - (wrap64 (k + 1)).toNat) from List.length_drop]; exact Kd.C_below HRD.out HN.out) | exact Kd.C_below HRD.out HN.out)
       (case aB => exact HN.out)
       (case aF => exact (fun _ _ => trivial))
       (case aO => exact HW.out)
       (case aS => exact HN.out.size)
       (case aL => have := HTL.out; have := HDL.out; have := HRk.out; have := HX.out; have := HL.out; have hlx_ := (show (left.drop (wrap64 (k + 1)).toNat).length = (left.length - (wrap64 (k + 1)).toNat) from List.length_drop); omega)
       intro v116 w14 ho hb hg hat
       have HE2 := a_ (left_new ho HD.out HB.out.size)
       clear HE HW HN ho hg hat HRT HRD
       have n0_ := a_ (Kd.R_below (r_ HO.out) hb); have n1_ := a_ (Kd.R_below (r_ HD.out) hb); have n2_ := a_ (Cur.below ci_ hb); have n3_ := a_ (KeepBut.trans ck_ (KeepBut.of_below hb w.heap.size none) (.inl rfl)); have n4_ := a_ (below_step cb_ hb); clear HO HD HI HK HB; have HO := n0_; have HD := n1_; have HI := n2_; have HK := n3_; have HB := n4_; clear n0_ n1_ n2_ n3_ n4_; clear hb
       have HE := HE2; clear HE2
       refine hK.out _ _ trivial (fun hHeld => ?_)
       clear hK K
       refine norm_ (a' := ?_) ?_ ?_
       rotate_left
       ·show Act.put _ (some 71) _ = _
        simp only [Act.put, List.setIfInBounds_toArray, List.set_cons_zero, List.set_cons_succ, i64_w, i32_w]
        rfl
       refine pure_ (i := 9) (N := some 11) (v := ?_) (a' := ?_) #[true, true, true, true, true, true, true, true, true, true] rfl rfl (any_of HT_.out (by kernel_rfl)) (fun _ _ _ h => h) (Or.inl ⟨by rfl, ?_⟩) ?_ ?_
       rotate_left
       ·intro w'
        go_simp
        with_reducible rfl
       rotate_left
       ·simp only [Act.put, List.setIfInBounds_toArray, List.set_cons_zero, List.set_cons_succ, i64_w, i32_w]
        rfl
       refine done_ (done_of HT_.out (by kernel_rfl)) ?_
       try go_wp2
       obtain ⟨A16, c16, e16⟩ := Kd.R_slice HE.out
       subst e16
       go_roundg (left.length)
       case measure => have := HX.out; omega
       case rel => exact ⟨od ++ [rdOf 0 left k], left.take (k : Int).toNat ++ left.drop (wrap64 (k + 1)).toNat, A16, c16, mm_, (by first | rfl | (simp; done) | (simp [*]; done)), ⟨by have := HX.out; have := HTL.out; have := HDL.out; have h1_ := (show (left.drop (wrap64 (k + 1)).toNat).length = (left.length - (wrap64 (k + 1)).toNat) from List.length_drop); rw [List.length_append, List.length_append, List.length_singleton]; omega⟩, ⟨by have := HM.out; rw [List.length_append, List.length_singleton]; omega⟩, ⟨(r_ HO.out)⟩, ⟨(r_ HD.out)⟩, ⟨(r_ HE.out)⟩, ⟨ci_⟩, ⟨ck_⟩, ⟨cb_⟩⟩
      ·have c3b : decide ((0 : Int) < (left.length : Int)) = false := decide_eq_false c3
       have HOL : Aside0 (od.length ≤ 9) := ⟨by have := HX.out; have := HL.out; omega⟩
       clear HE
       obtain ⟨A10, c10, e10⟩ := Kd.R_slice HD.out
       subst e10
       go_upto_region 18 with (fail)
       go_cut [78] (fun v78 wd => ∃ (bb2 : Bool), v78 = .bool bb2 ∧ Aside0 (bb2 = true → 0 < od.length) ∧ Aside0 (Kd.R k77 77 wd w.heap.size (fun _ => True) (.slice A1 h.length c1) h) ∧ Aside0 (Kd.R (Kd.int .i64) 3 wd w.heap.size (fun _ => True) (.slice A10 od.length c10) od) ∧ Aside0 (Below w.heap.size w wd))
       case first =>
        by_cases c4 : (0 : Int) < (od.length : Int)
        ·have c4b : decide ((0 : Int) < (od.length : Int)) = true := decide_eq_true c4
         go_wp2_with (first | (go_at_call 110; (with_reducible refine (one_any (w0 := w) 12 HS.out ci_ (by have := HM0.out; have := HM.out; have := HOL.out; omega) cb_).mono ?_); rintro e w29 ⟨b6, rfl, hi, hb, hk⟩; obtain ⟨mm_, hm_, hi⟩ := Cur.letter hi; have n0_ := a_ (Cur.keepR ci_ (r_ HO.out) (by decide) hk); have n1_ := a_ (Cur.keepR ci_ (r_ HD.out) (by decide) hk); have n2_ := a_ (KeepBut.trans ck_ hk (.inl rfl)); have n3_ := a_ (hb); have n4_ := a_ (hi); have n5_ := a_ ((by have := HM.out; omega : mm_ ≤ 204 + 2 * od.length + 2)); clear HO HD HK HB HI HM; have HO := n0_; have HD := n1_; have HK := n2_; have HB := n3_; have HI := n4_; have HM := n5_; clear n0_ n1_ n2_ n3_ n4_ n5_; clear hi hb hk hm_))
         go_meet
         case rel => exact ⟨_, (by first | rfl | (simp; done) | (simp [*]; done)), ⟨fun _ => by omega⟩, ⟨(r_ HO.out)⟩, ⟨(r_ HD.out)⟩, ⟨cb_⟩⟩
        ·have c4b : decide ((0 : Int) < (od.length : Int)) = false := decide_eq_false c4
         go_wp2_with (fail)
         go_meet
         case rel => exact ⟨false, (by first | rfl | (simp; done) | (simp [*]; done)), ⟨fun q => by cases q⟩, ⟨(r_ HO.out)⟩, ⟨(r_ HD.out)⟩, ⟨cb_⟩⟩
       case rest =>
        clear HI HB HK HM HO HD
        obtain ⟨bb2, rfl, HB2, HO, HD, HB⟩ := hcut
        cases bb2 with
        | true =>
         have hpos := HB2.out rfl
         obtain ⟨go10, co10, eo10, gb10, gl10, cl10⟩ := Kd.R_form HD.out hpos
         (first | cases eo10 | (injection eo10 with ea_ en_ ec_; (first | subst ea_ | (injection ea_ with ea_; subst ea_)); subst ec_; clear en_))
         have GB10 := a_ gb10; clear gb10 gl10
         have HLW : Aside0 (w.heap.size ≤ w.heap.size) := ⟨Nat.le_refl _⟩
         have q_ : (0 : Int) < (od.length : Int) := by omega
         obtain ⟨hx9, hf9⟩ := Kd.R_celln 0 HD.out 0 (Int.le_refl 0) q_
         have HP := Kd.R_putg HD.out 0 0
         (try simp only [Int.toNat_zero] at hx9 hf9)
         have q_t := eq_true q_
         go_wp2_with (first | ((with_reducible refine gate_store (t := 3) (p := 80) rfl ?_); refine store_event (t := 3) (p := 80) (v := ?vo_80) (w1 := (wc.setCell ⟨go10, (0 : Int).toNat, none⟩ (.int .i64 0))) ?hg ?ho ?hn ?hr ?_; (case ho => rfl); (case hg => rfl); (case hn => rfl); (case hr => first | (go_simp; done) | (go_simp; rfl)); intro w30 hw; have hg : wc.grownBy w30 (some go10) := (by rw [hw]; exact HP.2); have hp_ : Kd.R (Kd.int .i64) 3 w30 w.heap.size (fun _ => True) (.slice (some ⟨go10, 0, none⟩) od.length c10) (od.set (0 : Int).toNat 0) := (by rw [hw]; exact HP.1); clear HP; have n0_ := a_ (Kd.R_over' (v := (.slice (some ⟨go10, 0, none⟩) od.length c10)) (r_ HO.out) (Kd.R_typed HD.out) (by decide) hg); have n1_ := a_ (hp_); have n2_ := a_ (by rw [hw]; exact below_set HB.out GB10.out : Below w.heap.size w w30); clear HO HD HB; have HO := n0_; have HD := n1_; have HB := n2_; clear n0_ n1_ n2_; clear hg hw hp_))
         go_ret3
         exact ⟨kd, _, h, _, rfl, (r_ HO.out), od.set (0 : Int).toNat 0, (r_ HD.out), HL.out, HF.out, by have := HOL.out; rw [List.length_set]; omega, cb_⟩
        | false =>
         go_wp2
         go_ret3
         exact ⟨kd, _, h, _, rfl, (r_ HO.out), od, (r_ HD.out), HL.out, HF.out, HOL.out, cb_⟩

end Go.Proofs.Ythdpiceiemkjlaa.Pure

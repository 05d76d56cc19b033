/- The pure statement of FnExactPutFrame: both put the same frame behind the same store. -/
import Derived.Test.YtomckmlhidhodaaQFnExactPutFrame
import Derived.Test.YtomckmlhidhodaaMBase
import Derived.KernelRfl
set_option linter.unusedVariables false
set_option linter.unusedSimpArgs false
namespace Go.Proofs.Ytomckmlhidhodaa.Pure
open Go.RowKit Go.Proofs.Ytomckmlhidhodaa.GPutFrame Go.Proofs.YtomckmlhidhodaaW.PrintWords Go.Proofs.YtomckmlhidhodaaW.PrintLast Go.Proofs.YtomckmlhidhodaaW.PrintMore Go.Proofs.Ytomckmlhidhodaa.MBase
theorem szStore_cases (s l : ByteArray) (left : Int) (h0 : 0 ≤ left) (h1 : left ≤ 1048576) (hs : s.size ≤ 9223372036854775807) (hl : l.size ≤ 9223372036854775807) :
    laws_szStore.f s l left = some (-1) ∨ ∃ m, laws_szStore.f s l left = some m ∧ 0 ≤ m ∧ (s.size : Int) + l.size ≤ left := by
  unfold laws_szStore.f
  rw [wrap_id (n := left - (s.size : Int)) (by omega) (by omega)]
  by_cases h : left - (s.size : Int) < 0
  · exact .inl (by rw [if_pos h])
  · rw [if_neg h, wrap_id (n := left - (s.size : Int) - (l.size : Int)) (by omega) (by omega)]
    by_cases h2 : left - (s.size : Int) - (l.size : Int) < 0
    · exact .inl (by rw [if_pos h2])
    · exact .inr ⟨_, by rw [if_neg h2], by omega, by omega⟩
theorem eqStore_refl (a b : ByteArray) : laws_eqStore.f a b a b = some true := by
  unfold laws_eqStore.f
  rw [if_pos rfl, if_pos rfl]
theorem two_size (xs : List Int) : (strOfNums xs).size = xs.length := by
  simp [strOfNums, ByteArray.size]
theorem two_spec (n : Int) : ∃ t, spec_l14Two.f n = some t ∧ t.size = 2 := ⟨_, rfl, by rw [two_size]; rfl⟩
theorem two_impl (n : Int) : impl_twoBytes.f n = spec_l14Two.f n := rfl
theorem cat_ok {a b : ByteArray} (h : a.size + b.size ≤ 9223372036854775807) : catOk a b = true := catOk_of h
/-- What a sum comes to, from byte i on. -/
def sumR (s : ByteArray) : Nat → Nat → Int → Int
  | 0, _, n => n
  | d + 1, i, n => sumR s d (i + 1) (Int.tmod (wrap64 ((wrap64 (31 * n)) + (wrap64 (bt s (i : Int))))) 65521)
theorem sum_spec (s : ByteArray) (hs : s.size ≤ 2097152) : ∀ (d i : Nat) (n : Int), i + d = s.size → Ev (fun k => spec_l14Sum.l0 k s n (i : Int)) (sumR s d i n)
  | 0, i, n, h => by
    refine Ev.step (f := fun _ => some n) (fun k => ?_) (Ev.now _)
    simp only [spec_l14Sum.l0]; rw [if_neg (by omega)]
  | d + 1, i, n, h => by
    refine Ev.step (fun k => ?_) (sum_spec s hs d (i + 1) _ (by omega))
    simp only [spec_l14Sum.l0]
    rw [if_pos (by omega), if_pos (by omega), wrap_id (n := (i : Int) + 1) (by omega) (by omega)]
    rfl
theorem sum_impl (s : ByteArray) (hs : s.size ≤ 2097152) (t : ByteArray) : ∀ (d i : Nat) (n : Int), i + d = s.size → spec_l14Two.f (sumR s d i n) = some t → t.size = 2 →
    Ev (fun k => impl_FrameOf.l0 k s n (s.size : Int) (i : Int)) (cat (cat s t) (⟨#[1]⟩ : ByteArray), true)
  | 0, i, n, h, ht, h2 => by
    have h1y : (⟨#[1]⟩ : ByteArray).size = 1 := rfl
    refine Ev.step (f := fun _ => some (cat (cat s t) (⟨#[1]⟩ : ByteArray), true)) (fun k => ?_) (Ev.now _)
    simp only [impl_FrameOf.l0]
    rw [if_neg (by omega), two_impl, show n = sumR s 0 i n from rfl, ht, Option.bind_some, if_pos (cat_ok (by omega)), if_pos (cat_ok (by simp only [cat_size]; omega))]
  | d + 1, i, n, h, ht, h2 => by
    refine Ev.step (fun k => ?_) (sum_impl s hs t d (i + 1) _ (by omega) ht h2)
    simp only [impl_FrameOf.l0]
    rw [if_pos (by omega), if_pos (by omega), if_pos (by omega), wrap_id (n := (i : Int) + 1) (by omega) (by omega)]
    rfl
theorem in_dec (a b c : Int) : impl_in.f a b c = some (decide (b ≤ a ∧ a ≤ c)) := by
  unfold impl_in.f
  by_cases h : b ≤ a
  · rw [if_pos h]; simp [h]
  · rw [if_neg h]; simp [h]
/-- What the spec builds for any number and text; the function itself builds the same where both are within their bounds. -/
theorem frame_built (no : Int) (s : ByteArray) (hs : s.size ≤ 1048576) : ∃ F : ByteArray, F.size = 7 + s.size ∧ Ev (fun k => spec_l14Frame.f k no s) F ∧ ((0 ≤ no ∧ no ≤ 999 ∧ s.size ≤ 600) → Ev (fun k => impl_FrameOf.f k no s) (F, true)) := by
  obtain ⟨t1, ht1, hz1⟩ := two_spec no
  obtain ⟨t2, ht2, hz2⟩ := two_spec (s.size : Int)
  have hsz : (cat (cat t1 t2) s).size = 4 + s.size := by simp only [cat_size]; omega
  obtain ⟨t3, ht3, hz3⟩ := two_spec (sumR (cat (cat t1 t2) s) (cat (cat t1 t2) s).size 0 1)
  have hsum := sum_spec (cat (cat t1 t2) s) (by omega) (cat (cat t1 t2) s).size 0 1 (by omega)
  have himp := sum_impl (cat (cat t1 t2) s) (by omega) t3 (cat (cat t1 t2) s).size 0 1 (by omega) ht3 hz3
  have h1z : (strOfNums [1]).size = 1 := by rw [two_size]; rfl
  have e1 : strOfNums [1] = (⟨#[1]⟩ : ByteArray) := rfl
  have h1y : (⟨#[1]⟩ : ByteArray).size = 1 := rfl
  refine ⟨cat (cat (cat (cat t1 t2) s) t3) (⟨#[1]⟩ : ByteArray), by simp only [cat_size]; omega, ?_, ?_⟩
  · refine Ev.congr (fun k => ?_) (Ev.bind (g := fun k => spec_l14Sum.f k (cat (cat t1 t2) s)) (f := fun _ x => (spec_l14Two.f x).bind fun y => some (cat (cat (cat (cat t1 t2) s) y) (⟨#[1]⟩ : ByteArray))) hsum (Ev.const (by rw [ht3, Option.bind_some])))
    simp only [spec_l14Frame.f]
    rw [ht1, Option.bind_some, ht2, Option.bind_some, if_pos (cat_ok (by omega)), if_pos (cat_ok (by simp only [cat_size]; omega))]
    congr 1
    funext x
    obtain ⟨t, ht, hz⟩ := two_spec x
    rw [ht]
    simp only [Option.bind_some]
    rw [if_pos (cat_ok (by simp only [cat_size]; omega)), if_pos (cat_ok (by simp only [cat_size, h1z]; omega)), e1]
  · rintro ⟨q1, q2, q3⟩
    refine Ev.congr (fun k => ?_) (Ev.step (g := fun k => impl_FrameOf.j0 k no s false) (fun k => ?_) himp)
    · simp only [impl_FrameOf.f]
      rw [in_dec, Option.bind_some, if_pos (decide_eq_true (by omega)), decide_eq_false (show ¬ (s.size : Int) > 600 by omega)]
    · simp only [impl_FrameOf.j0, two_impl]
      rw [if_neg (by simp), ht1, Option.bind_some, ht2, Option.bind_some, if_pos (cat_ok (by omega)), if_pos (cat_ok (by simp only [cat_size]; omega))]
      rfl
theorem frame_not (no : Int) (s : ByteArray) (h : ¬ (0 ≤ no ∧ no ≤ 999 ∧ s.size ≤ 600)) : Ev (fun k => impl_FrameOf.f k no s) ((⟨#[]⟩ : ByteArray), false) := by
  by_cases hn : 0 ≤ no ∧ no ≤ 999
  · refine Ev.congr (fun k => by simp only [impl_FrameOf.f]; rw [in_dec, Option.bind_some, if_pos (decide_eq_true hn), decide_eq_true (show (s.size : Int) > 600 by omega)]) ?_
    refine Ev.step (f := fun _ => some ((⟨#[]⟩ : ByteArray), false)) (fun k => ?_) (Ev.now _)
    simp only [impl_FrameOf.j0]; rw [if_pos trivial]
  · refine Ev.congr (fun k => by simp only [impl_FrameOf.f]; rw [in_dec, Option.bind_some, if_neg (by simp; omega)]) ?_
    refine Ev.step (f := fun _ => some ((⟨#[]⟩ : ByteArray), false)) (fun k => ?_) (Ev.now _)
    simp only [impl_FrameOf.j0]; rw [if_pos trivial]
theorem cutS_size (s : ByteArray) (i j : Nat) : (cutS s i j).size = min j s.size - i := ByteArray.size_extract
theorem cutS_cutS (s : ByteArray) (i k l : Nat) : cutS (cutS s i s.size) k l = cutS s (i + k) (min (i + l) s.size) := ByteArray.extract_extract
theorem bt_cutS (s : ByteArray) (i j : Nat) (h : i + j < s.size) : bt (cutS s i s.size) (j : Int) = bt s ((i + j : Nat) : Int) := by
  have hz := cutS_size s i s.size
  unfold bt
  rw [dif_pos (by simp only [Int.toNat_natCast]; omega), dif_pos (by simp only [Int.toNat_natCast]; omega)]
  simp only [Int.toNat_natCast, cutS]
  congr 2
  exact ByteArray.getElem_extract _
theorem toList_inj {a b : ByteArray} : a.toList = b.toList ↔ a = b := ⟨fun h => by
  apply ByteArray.ext
  apply Array.ext'
  simpa [ByteArray.toList_eq] using h, fun h => by rw [h]⟩
theorem wadd (p c : Nat) (h : p + c ≤ 1000000) : wrap64 ((p : Int) + (c : Int)) = ((p + c : Nat) : Int) := by rw [wrap_id] <;> omega
theorem wlen (x y : Nat) (hx : x ≤ 255) (hy : y ≤ 255) : wrap64 ((wrap64 (256 * (wrap64 (x : Int)))) + (wrap64 (y : Int))) = ((256 * x + y : Nat) : Int) := by
  rw [wrap_id (n := (x : Int)) (by omega) (by omega), wrap_id (n := (y : Int)) (by omega) (by omega), wrap_id (n := 256 * (x : Int)) (by omega) (by omega), wrap_id] <;> omega
theorem wlen4 (x y : Nat) (hx : x ≤ 255) (hy : y ≤ 255) : wrap64 (4 + (wrap64 ((wrap64 ((wrap64 (x : Int)) * 256)) + (wrap64 (y : Int))))) = ((4 + (256 * x + y) : Nat) : Int) := by
  rw [wrap_id (n := (x : Int)) (by omega) (by omega), wrap_id (n := (y : Int)) (by omega) (by omega), wrap_id (n := (x : Int) * 256) (by omega) (by omega), wrap_id (n := (x : Int) * 256 + (y : Int)) (by omega) (by omega), wrap_id] <;> omega
theorem bt_nat (s : ByteArray) (i : Int) : ∃ x : Nat, Aside0 (bt s i = (x : Int)) ∧ x ≤ 255 := by
  have h := bt_range s i
  exact ⟨(bt s i).toNat, ⟨by omega⟩, by omega⟩
/-- Both loops over the frames of a text s of at most 6000 bytes, from place 'at' on. -/
theorem frames_same (s : ByteArray) (hs : s.size ≤ 6000) : ∀ (d at_ : Nat) (out : List ByteArray), at_ ≤ s.size → s.size - at_ ≤ d → 7 * out.length ≤ at_ →
    ∃ (r : List ByteArray) (e : Nat), e ≤ s.size ∧ 7 * r.length ≤ e ∧ Ev (fun k => spec_l14Frames.l0 k s out (at_ : Int)) (r, (e : Int)) ∧ Ev (fun k => impl_frames.l0 k s out (at_ : Int)) (r, (e : Int))
  | d, p, out, hp, hd, ho => by
    have hz := cutS_size s p s.size
    have hlen : out.length ≤ 857 := by omega
    by_cases h7 : p + 7 ≤ s.size
    · -- a head lies there
      obtain ⟨x, hx, hx5⟩ := bt_nat s ((p + 2 : Nat) : Int)
      obtain ⟨y, hy, hy5⟩ := bt_nat s ((p + 3 : Nat) : Int)
      have hx2 : Aside0 (bt (cutS s p s.size) 2 = (x : Int)) := ⟨(bt_cutS s p 2 (by omega)).trans hx.out⟩
      have hy2 : Aside0 (bt (cutS s p s.size) 3 = (y : Int)) := ⟨(bt_cutS s p 3 (by omega)).trans hy.out⟩
      obtain ⟨m, hm⟩ : ∃ m : Nat, m = 256 * x + y := ⟨_, rfl⟩
      have sp : ∀ k, spec_l14Frames.l0 (k+1) s out (p : Int) = spec_l14Frames.j1 k s out (p : Int) (m : Int) (decide (600 < m ∨ s.size < p + 7 + m)) := by
        intro k
        simp only [spec_l14Frames.l0]
        have a7 : Aside0 (wrap64 ((p : Int) + 7) = ((p + 7 : Nat) : Int)) := ⟨wadd p 7 (by omega)⟩
        have a2 : Aside0 (wrap64 ((p : Int) + 2) = ((p + 2 : Nat) : Int)) := ⟨wadd p 2 (by omega)⟩
        have a3 : Aside0 (wrap64 ((p : Int) + 3) = ((p + 3 : Nat) : Int)) := ⟨wadd p 3 (by omega)⟩
        rw [a7.out, a2.out, a3.out, hx.out, hy.out, if_pos (by omega), if_pos (by omega), if_pos (by omega), if_pos (by omega), if_pos (by omega)]
        rw [wlen x y hx5 hy5, ← hm, wadd (p + 7) m (by omega)]
        by_cases q : (m : Int) > 600
        · rw [if_pos q, decide_eq_true (show 600 < m ∨ s.size < p + 7 + m by omega)]
        · rw [if_neg q]
          congr 1
          rw [decide_eq_decide]
          omega
      have im : ∀ k, impl_frames.l0 (k+1) s out (p : Int) = if s.size < p + 4 + m then some (out, (p : Int)) else
          ((impl_FrameOf.f k (out.length : Int) (cutS s (p + 4) (p + 4 + m))).bind fun b => (if b.2 = true then ((strings_HasPrefix.f (cutS s p s.size) b.1).bind fun t => (if t = true then (if out.length < 8796093022208 then (impl_frames.l0 k s (out ++ [cutS s (p + 4) (p + 4 + m)]) (wrap64 ((p : Int) + (b.1.size : Int)))) else (none)) else (some (out, (p : Int))))) else (some (out, (p : Int))))) := by
        intro k
        simp only [impl_frames.l0]
        rw [if_pos (by omega), if_pos (by omega)]
        simp only [Int.toNat_natCast]
        rw [hx2.out, hy2.out, wlen4 x y hx5 hy5, ← hm, if_neg (by omega), if_pos (by omega), if_pos (by omega)]
        by_cases q : s.size < p + 4 + m
        · rw [if_pos (show ((4 + m : Nat) : Int) > ((cutS s p s.size).size : Int) by omega), if_pos q]
        · rw [if_neg (show ¬ ((4 + m : Nat) : Int) > ((cutS s p s.size).size : Int) by omega), if_neg q, if_pos (by omega), if_pos (by omega)]
          have et : cutS (cutS s p s.size) 4 (((4 + m : Nat) : Int)).toNat = cutS s (p + 4) (p + 4 + m) := by
            rw [Int.toNat_natCast, cutS_cutS]; congr 1; omega
          rw [et]
      by_cases hstop : 600 < m ∨ s.size < p + 7 + m
      · refine ⟨out, p, hp, ho, ?_, ?_⟩
        · refine Ev.step sp (Ev.step (f := fun _ => some (out, (p : Int))) (fun k => ?_) (Ev.now _))
          simp only [spec_l14Frames.j1]; rw [if_pos (decide_eq_true hstop)]
        · refine Ev.step im ?_
          by_cases q : s.size < p + 4 + m
          · exact Ev.ite_pos q (Ev.now _)
          · refine Ev.ite_neg q ?_
            have ht : (cutS s (p + 4) (p + 4 + m)).size = m := by rw [cutS_size]; omega
            by_cases h6 : 600 < m
            · refine Ev.bind (frame_not _ _ (by omega)) (Ev.ite_neg (by simp) (Ev.now _))
            · obtain ⟨F, hF, _, hi⟩ := frame_built (out.length : Int) (cutS s (p + 4) (p + 4 + m)) (by omega)
              refine Ev.bind (hi ⟨by omega, by omega, by omega⟩) (Ev.ite_pos rfl ?_)
              have hp0 : strings_HasPrefix.f (cutS s p s.size) F = some false := by
                simp only [strings_HasPrefix.f, stringslite_HasPrefix.f]
                rw [if_neg (by omega), Option.bind_some]
              refine Ev.bind (Ev.const hp0) (Ev.ite_neg (by simp) (Ev.now _))
      · have ht : (cutS s (p + 4) (p + 4 + m)).size = m := by rw [cutS_size]; omega
        obtain ⟨F, hF, hsF, hiF⟩ := frame_built (out.length : Int) (cutS s (p + 4) (p + 4 + m)) (by omega)
        have hiF := hiF ⟨by omega, by omega, by omega⟩
        have hpre : strings_HasPrefix.f (cutS s p s.size) F = some (decide (F = cutS s p (p + 7 + m))) := by
          simp only [strings_HasPrefix.f, stringslite_HasPrefix.f]
          rw [if_pos (by omega), if_pos (by omega), if_pos (by omega), Option.bind_some, Int.toNat_natCast, cutS_cutS]
          have : cutS s (p + 0) (min (p + F.size) s.size) = cutS s p (p + 7 + m) := by congr 1; omega
          rw [this]
          congr 1
          rw [Bool.eq_iff_iff, beq_iff_eq, decide_eq_true_eq, toList_inj, eq_comm]
        have sp2 : ∀ k, spec_l14Frames.j1 (k+1) s out (p : Int) (m : Int) (decide (600 < m ∨ s.size < p + 7 + m)) = ((spec_l14Frame.f k (out.length : Int) (cutS s (p + 4) (p + 4 + m))).bind fun t => (if t = cutS s p (p + 7 + m) then (if out.length < 8796093022208 then (spec_l14Frames.l0 k s (out ++ [cutS s (p + 4) (p + 4 + m)]) ((p + 7 + m : Nat) : Int)) else (none)) else (some (out, (p : Int))))) := by
          intro k
          simp only [spec_l14Frames.j1]
          have a4 : Aside0 (wrap64 ((p : Int) + 4) = ((p + 4 : Nat) : Int)) := ⟨wadd p 4 (by omega)⟩
          have a7 : Aside0 (wrap64 ((p : Int) + 7) = ((p + 7 : Nat) : Int)) := ⟨wadd p 7 (by omega)⟩
          have a7n : Aside0 (wrap64 ((p : Int) + (wrap64 (7 + (m : Int)))) = ((p + 7 + m : Nat) : Int)) := ⟨(congrArg (fun z => wrap64 ((p : Int) + z)) (wadd 7 m (by omega))).trans ((wadd p (7 + m) (by omega)).trans (by congr 1; omega))⟩
          rw [decide_eq_false hstop, if_neg (by simp), a4.out, wadd (p + 4) m (by omega), a7.out, wadd (p + 7) m (by omega), a7n.out, if_pos (by omega), if_pos (by omega), if_pos (by omega)]
          simp only [Int.toNat_natCast, toList_inj]
          congr 1
          funext t
          rw [if_pos (by omega), if_pos (by omega), if_pos (by omega)]
        by_cases heq : F = cutS s p (p + 7 + m)
        · cases d with
          | zero => omega
          | succ d =>
            obtain ⟨r, e, he, hr, hA, hB⟩ := frames_same s hs d (p + 7 + m) (out ++ [cutS s (p + 4) (p + 4 + m)]) (by omega) (by omega) (by simp; omega)
            refine ⟨r, e, he, hr, ?_, ?_⟩
            · exact Ev.step sp (Ev.step sp2 (Ev.bind hsF (Ev.ite_pos heq (Ev.ite_pos (by omega) hA))))
            · refine Ev.step im (Ev.ite_neg (by omega) (Ev.bind hiF (Ev.ite_pos rfl (Ev.bind (Ev.const hpre) (Ev.ite_pos (decide_eq_true heq) (Ev.ite_pos (by omega) ?_))))))
              have q : wrap64 ((p : Int) + (F.size : Int)) = ((p + 7 + m : Nat) : Int) := (wadd p F.size (by omega)).trans (by congr 1; omega)
              simp only [q]
              exact hB
        · refine ⟨out, p, hp, ho, ?_, ?_⟩
          · exact Ev.step sp (Ev.step sp2 (Ev.bind hsF (Ev.ite_neg heq (Ev.now _))))
          · exact Ev.step im (Ev.ite_neg (by omega) (Ev.bind hiF (Ev.ite_pos rfl (Ev.bind (Ev.const hpre) (Ev.ite_neg (by simp [heq]) (Ev.now _))))))
    · refine ⟨out, p, hp, ho, ?_, ?_⟩
      · refine Ev.step (f := fun _ => some (out, (p : Int))) (fun k => ?_) (Ev.now _)
        simp only [spec_l14Frames.l0]
        have a7 : Aside0 (wrap64 ((p : Int) + 7) = ((p + 7 : Nat) : Int)) := ⟨wadd p 7 (by omega)⟩
        rw [a7.out, if_neg (by omega)]
      · by_cases h4 : p + 4 ≤ s.size
        · obtain ⟨x, hx, hx5⟩ := bt_nat (cutS s p s.size) 2
          obtain ⟨y, hy, hy5⟩ := bt_nat (cutS s p s.size) 3
          obtain ⟨m, hm⟩ : ∃ m : Nat, m = 256 * x + y := ⟨_, rfl⟩
          by_cases q : s.size < p + 4 + m
          · refine Ev.step (f := fun _ => some (out, (p : Int))) (fun k => ?_) (Ev.now _)
            simp only [impl_frames.l0]
            rw [if_pos (by omega), if_pos (by omega)]
            simp only [Int.toNat_natCast]
            rw [hx.out, hy.out, wlen4 x y hx5 hy5, ← hm, if_neg (by omega), if_pos (by omega), if_pos (by omega), if_pos (by omega)]
          · obtain ⟨F, hF, hsF, hiF⟩ := frame_built (out.length : Int) (cutS (cutS s p s.size) 4 (4 + m)) (by simp only [cutS_size]; omega)
            have hsz : (cutS (cutS s p s.size) 4 (4 + m)).size = m := by simp only [cutS_size]; omega
            have hiF := hiF ⟨by omega, by omega, by omega⟩
            have hp0 : strings_HasPrefix.f (cutS s p s.size) F = some false := by
              simp only [strings_HasPrefix.f, stringslite_HasPrefix.f]
              rw [if_neg (by omega), Option.bind_some]
            refine Ev.step (f := fun k => ((impl_FrameOf.f k (out.length : Int) (cutS (cutS s p s.size) 4 (4 + m))).bind fun b => (if b.2 = true then ((strings_HasPrefix.f (cutS s p s.size) b.1).bind fun t => (if t = true then (if out.length < 8796093022208 then (impl_frames.l0 k s (out ++ [cutS (cutS s p s.size) 4 (4 + m)]) (wrap64 ((p : Int) + (b.1.size : Int)))) else (none)) else (some (out, (p : Int))))) else (some (out, (p : Int)))))) (fun k => ?_) (Ev.bind hiF (Ev.ite_pos rfl (Ev.bind (Ev.const hp0) (Ev.ite_neg (by simp) (Ev.now _)))))
            simp only [impl_frames.l0]
            rw [if_pos (by omega), if_pos (by omega)]
            simp only [Int.toNat_natCast]
            rw [hx.out, hy.out, wlen4 x y hx5 hy5, ← hm, if_neg (by omega), if_pos (by omega), if_pos (by omega), if_neg (by omega), if_pos (by omega), if_pos (by omega), Int.toNat_natCast]
        · refine Ev.step (f := fun _ => some (out, (p : Int))) (fun k => ?_) (Ev.now _)
          simp only [impl_frames.l0]
          rw [if_pos (by omega), if_pos (by omega)]
          simp only [Int.toNat_natCast]
          rw [if_pos (by omega)]
theorem frames_of (s : ByteArray) (hs : s.size ≤ 6000) : ∃ (r : List ByteArray) (e : Nat), e ≤ s.size ∧ 7 * r.length ≤ e ∧ Ev (fun k => spec_l14Frames.f k s) (r, (e : Int)) ∧ Ev (fun k => impl_frames.f k s) (r, (e : Int)) :=
  frames_same s hs s.size 0 [] (by omega) (by omega) (by simp)
theorem good_dec (s l : ByteArray) (hz : s.size + l.size ≤ 4194304) : spec_l14Good.f s l = some (decide (s.size + l.size ≤ 6000)) := by
  unfold spec_l14Good.f
  rw [wrap_id (by omega) (by omega)]
  congr 1
  rw [decide_eq_decide]; omega
theorem good_impl (s l : ByteArray) : impl_Store_isGood.f s l = spec_l14Good.f s l := rfl
def bad : ByteArray × ByteArray × Bool := ((⟨#[]⟩ : ByteArray), (⟨#[]⟩ : ByteArray), false)
theorem spec_bad (s l t : ByteArray) : Ev (fun k => spec_PutFrame.j0 k t true s l) bad := by
  refine Ev.step (f := fun _ => some bad) (fun k => ?_) (Ev.now _)
  simp only [spec_PutFrame.j0]; rw [if_pos trivial]; rfl
theorem put_same (s l t : ByteArray) (hz : s.size + l.size ≤ 1048576) (ht : t.size ≤ 1048576) : ∃ r, Ev (fun k => spec_PutFrame.f k s l t) r ∧ Ev (fun k => impl_PutFrame.f k s l t) r := by
  simp only [spec_PutFrame.f, impl_PutFrame.f, good_impl, good_dec s l (by omega), Option.bind_some]
  by_cases hg : s.size + l.size ≤ 6000
  · rw [decide_eq_true hg]
    have hc : (cat s l).size = s.size + l.size := cat_size s l
    obtain ⟨r, e, h1, h2, hA, hB⟩ := frames_of (cat s l) (by omega)
    have hw : wrap64 ((s.size : Int) + (l.size : Int)) = ((s.size + l.size : Nat) : Int) := by rw [wrap_id] <;> omega
    by_cases h6 : t.size ≤ 600
    · obtain ⟨F, hF, hs, hi⟩ := frame_built (r.length : Int) t ht
      have hi := hi ⟨by omega, by omega, by omega⟩
      have hcF : (cat l F).size = l.size + F.size := cat_size l F
      by_cases he : e < s.size + l.size
      · refine ⟨bad, Ev.ite_pos rfl ?_, Ev.ite_pos rfl (Ev.ite_pos (cat_ok (by omega)) (Ev.bind hB (Ev.bind hi (Ev.ite_pos (cat_ok (by simp only; omega)) (Ev.ite_pos rfl (Ev.ite_pos (by simp only [hw]; omega) (Ev.now _)))))))⟩
        rw [decide_eq_false (show ¬ (t.size : Int) > 600 by omega)]
        refine Ev.step (f := fun k => if catOk s l = true then ((spec_l14Frames.f k (cat s l)).bind fun b => if b.2 < wrap64 ((s.size : Int) + (l.size : Int)) then spec_PutFrame.j1 k t b.1 true s l else spec_PutFrame.j1 k t b.1 (decide ((b.1.length : Int) > 999)) s l) else none) (fun k => ?_) (Ev.ite_pos (cat_ok (by omega)) (Ev.bind hA (Ev.ite_pos (by simp only [hw]; omega) (Ev.step (f := fun _ => some bad) (fun k => ?_) (Ev.now _)))))
        · simp only [spec_PutFrame.j0]; rw [if_neg (by simp)]
        · simp only [spec_PutFrame.j1]; rw [if_pos trivial]; rfl
      · have hlaw : ∀ k, spec_PutFrame.j1 (k+1) t r (decide ((r.length : Int) > 999)) s l = ((spec_l14Frame.f k (r.length : Int) t).bind fun t129 => (if catOk l t129 = true then ((spec_l14Good.f s (cat l t129)).bind fun t130 => (if t130 = true then (some (s, cat l t129, true)) else (some bad))) else (none))) := by
          intro k
          simp only [spec_PutFrame.j1]
          rw [decide_eq_false (by omega), if_neg (by simp)]; rfl
        have hgo := good_dec s (cat l F) (by omega)
        refine ⟨if (decide (s.size + (cat l F).size ≤ 6000)) = true then (s, cat l F, true) else bad, Ev.ite_pos rfl ?_, Ev.ite_pos rfl (Ev.ite_pos (cat_ok (by omega)) (Ev.bind hB (Ev.bind hi (Ev.ite_pos (cat_ok (by simp only; omega)) (Ev.ite_pos rfl (Ev.ite_neg (by simp only [hw]; omega) (Ev.bind (Ev.const hgo) ?_)))))))⟩
        · rw [decide_eq_false (show ¬ (t.size : Int) > 600 by omega)]
          refine Ev.step (f := fun k => if catOk s l = true then ((spec_l14Frames.f k (cat s l)).bind fun b => if b.2 < wrap64 ((s.size : Int) + (l.size : Int)) then spec_PutFrame.j1 k t b.1 true s l else spec_PutFrame.j1 k t b.1 (decide ((b.1.length : Int) > 999)) s l) else none) (fun k => ?_) (Ev.ite_pos (cat_ok (by omega)) (Ev.bind hA (Ev.ite_neg (by simp only [hw]; omega) (Ev.step hlaw (Ev.bind hs (Ev.ite_pos (cat_ok (by omega)) (Ev.bind (Ev.const hgo) ?_)))))))
          · simp only [spec_PutFrame.j0]; rw [if_neg (by simp)]
          · by_cases q : (decide (s.size + (cat l F).size ≤ 6000)) = true
            · simp only [if_pos q]; exact Ev.now _
            · simp only [if_neg q]; exact Ev.now _
        · by_cases q : (decide (s.size + (cat l F).size ≤ 6000)) = true
          · simp only [if_pos q]; exact Ev.now _
          · simp only [if_neg q]; exact Ev.now _
    · refine ⟨bad, Ev.ite_pos rfl ?_, Ev.ite_pos rfl (Ev.ite_pos (cat_ok (by omega)) (Ev.bind hB (Ev.bind (frame_not _ _ (by omega)) (Ev.ite_pos (cat_ok (by simp only [show (⟨#[]⟩ : ByteArray).size = 0 from rfl]; omega)) (Ev.ite_neg (by simp) (Ev.now _))))))⟩
      rw [decide_eq_true (show (t.size : Int) > 600 by omega)]
      exact spec_bad s l t
  · rw [decide_eq_false hg]
    exact ⟨_, Ev.ite_neg (by simp) (spec_bad s l t), Ev.ite_neg (by simp) (Ev.now _)⟩
theorem FnExactPutFrame : laws_FnExactPutFrame.Pure2 := by
  rintro ⟨s, l⟩ t ⟨h1, h2⟩ _ _
  show ∃ k, laws_FnExactPutFrame.f k s l t = some true
  apply Ev.rounds
  simp only [laws_FnExactPutFrame.f]
  by_cases h : (t.size : Int) > 1048576
  · exact Ev.ite_pos h (Ev.now _)
  refine Ev.ite_neg h ?_
  rcases szStore_cases s l 1048576 (by omega) (by omega) h1 h2 with h | ⟨m, h, hm, hz⟩
  · refine Ev.bind (Ev.const h) (Ev.ite_pos (by omega) (Ev.now _))
  · refine Ev.bind (Ev.const h) (Ev.ite_neg (by omega) ?_)
    obtain ⟨⟨a, b, c⟩, hs, hi⟩ := put_same s l t (by omega) (by omega)
    refine Ev.bind (Ev.const (show laws_toStore.f s l = some (s, l) from rfl)) (Ev.bind hs (Ev.bind (Ev.const (show laws_toStore.f s l = some (s, l) from rfl)) (Ev.bind hi (Ev.bind (Ev.const (eqStore_refl a b)) ?_))))
    exact Ev.ite_pos rfl (Ev.ite_neg (by simp) (Ev.now _))

end Go.Proofs.Ytomckmlhidhodaa.Pure

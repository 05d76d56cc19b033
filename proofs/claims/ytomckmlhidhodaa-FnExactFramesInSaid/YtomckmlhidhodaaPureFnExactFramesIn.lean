/- The pure statement of FnExactFramesIn: both loops over frames, and what the law marks and holds. -/
import Derived.Test.YtomckmlhidhodaaQFnExactFramesIn
import Derived.Test.YtomckmlhidhodaaMBase
import Derived.KernelRfl
set_option linter.unusedVariables false
set_option linter.unusedSimpArgs false
namespace Go.Proofs.Ytomckmlhidhodaa.Pure
open Go.RowKit Go.Proofs.Ytomckmlhidhodaa.GFramesIn Go.Proofs.YtomckmlhidhodaaW.PrintWords Go.Proofs.YtomckmlhidhodaaW.PrintLast Go.Proofs.YtomckmlhidhodaaW.PrintMore Go.Proofs.Ytomckmlhidhodaa.MBase
theorem two_size (xs : List Int) : (strOfNums xs).size = xs.length := by
  simp [strOfNums, ByteArray.size]
theorem two_spec (n : Int) : ∃ t, spec_l14Two.f n = some t ∧ t.size = 2 := ⟨_, rfl, by rw [two_size]; rfl⟩
theorem two_impl (n : Int) : impl_twoBytes.f n = spec_l14Two.f n := rfl
theorem cat_ok {a b : ByteArray} (h : a.size + b.size ≤ 9223372036854775807) : catOk a b = true := catOk_of h
/-- What a sum comes to, from byte i on. -/
def sumR (s : ByteArray) : Nat → Nat → Int → Int
  | 0, _, n => n
  | d + 1, i, n => sumR s d (i + 1) (Int.tmod (wrap64 ((wrap64 (31 * n)) + (wrap64 (bt s (i : Int))))) 65521)
theorem sum_spec (s : ByteArray) (hs : s.size ≤ 2097152) : ∀ (d i : Nat) (n : Int), i + d = s.size → Ev (fun k => spec_l14Sum.l0 k s n (i : Int)) (sumR s d i n)
  | 0, i, n, h => by
    refine Ev.step (f := fun _ => some n) (fun k => ?_) (Ev.now _)
    simp only [spec_l14Sum.l0]; rw [if_neg (by omega)]
  | d + 1, i, n, h => by
    refine Ev.step (fun k => ?_) (sum_spec s hs d (i + 1) _ (by omega))
    simp only [spec_l14Sum.l0]
    rw [if_pos (by omega), if_pos (by omega), wrap_id (n := (i : Int) + 1) (by omega) (by omega)]
    rfl
theorem sum_impl (s : ByteArray) (hs : s.size ≤ 2097152) (t : ByteArray) : ∀ (d i : Nat) (n : Int), i + d = s.size → spec_l14Two.f (sumR s d i n) = some t → t.size = 2 →
    Ev (fun k => impl_FrameOf.l0 k s n (s.size : Int) (i : Int)) (cat (cat s t) (⟨#[1]⟩ : ByteArray), true)
  | 0, i, n, h, ht, h2 => by
    have h1y : (⟨#[1]⟩ : ByteArray).size = 1 := rfl
    refine Ev.step (f := fun _ => some (cat (cat s t) (⟨#[1]⟩ : ByteArray), true)) (fun k => ?_) (Ev.now _)
    simp only [impl_FrameOf.l0]
    rw [if_neg (by omega), two_impl, show n = sumR s 0 i n from rfl, ht, Option.bind_some, if_pos (cat_ok (by omega)), if_pos (cat_ok (by simp only [cat_size]; omega))]
  | d + 1, i, n, h, ht, h2 => by
    refine Ev.step (fun k => ?_) (sum_impl s hs t d (i + 1) _ (by omega) ht h2)
    simp only [impl_FrameOf.l0]
    rw [if_pos (by omega), if_pos (by omega), if_pos (by omega), wrap_id (n := (i : Int) + 1) (by omega) (by omega)]
    rfl
theorem in_dec (a b c : Int) : impl_in.f a b c = some (decide (b ≤ a ∧ a ≤ c)) := by
  unfold impl_in.f
  by_cases h : b ≤ a
  · rw [if_pos h]; simp [h]
  · rw [if_neg h]; simp [h]
/-- What the spec builds for any number and text; the function itself builds the same where both are within their bounds. -/
theorem frame_built (no : Int) (s : ByteArray) (hs : s.size ≤ 1048576) : ∃ F : ByteArray, F.size = 7 + s.size ∧ Ev (fun k => spec_l14Frame.f k no s) F ∧ ((0 ≤ no ∧ no ≤ 999 ∧ s.size ≤ 600) → Ev (fun k => impl_FrameOf.f k no s) (F, true)) := by
  obtain ⟨t1, ht1, hz1⟩ := two_spec no
  obtain ⟨t2, ht2, hz2⟩ := two_spec (s.size : Int)
  have hsz : (cat (cat t1 t2) s).size = 4 + s.size := by simp only [cat_size]; omega
  obtain ⟨t3, ht3, hz3⟩ := two_spec (sumR (cat (cat t1 t2) s) (cat (cat t1 t2) s).size 0 1)
  have hsum := sum_spec (cat (cat t1 t2) s) (by omega) (cat (cat t1 t2) s).size 0 1 (by omega)
  have himp := sum_impl (cat (cat t1 t2) s) (by omega) t3 (cat (cat t1 t2) s).size 0 1 (by omega) ht3 hz3
  have h1z : (strOfNums [1]).size = 1 := by rw [two_size]; rfl
  have e1 : strOfNums [1] = (⟨#[1]⟩ : ByteArray) := rfl
  have h1y : (⟨#[1]⟩ : ByteArray).size = 1 := rfl
  refine ⟨cat (cat (cat (cat t1 t2) s) t3) (⟨#[1]⟩ : ByteArray), by simp only [cat_size]; omega, ?_, ?_⟩
  · refine Ev.congr (fun k => ?_) (Ev.bind (g := fun k => spec_l14Sum.f k (cat (cat t1 t2) s)) (f := fun _ x => (spec_l14Two.f x).bind fun y => some (cat (cat (cat (cat t1 t2) s) y) (⟨#[1]⟩ : ByteArray))) hsum (Ev.const (by rw [ht3, Option.bind_some])))
    simp only [spec_l14Frame.f]
    rw [ht1, Option.bind_some, ht2, Option.bind_some, if_pos (cat_ok (by omega)), if_pos (cat_ok (by simp only [cat_size]; omega))]
    congr 1
    funext x
    obtain ⟨t, ht, hz⟩ := two_spec x
    rw [ht]
    simp only [Option.bind_some]
    rw [if_pos (cat_ok (by simp only [cat_size]; omega)), if_pos (cat_ok (by simp only [cat_size, h1z]; omega)), e1]
  · rintro ⟨q1, q2, q3⟩
    refine Ev.congr (fun k => ?_) (Ev.step (g := fun k => impl_FrameOf.j0 k no s false) (fun k => ?_) himp)
    · simp only [impl_FrameOf.f]
      rw [in_dec, Option.bind_some, if_pos (decide_eq_true (by omega)), decide_eq_false (show ¬ (s.size : Int) > 600 by omega)]
    · simp only [impl_FrameOf.j0, two_impl]
      rw [if_neg (by simp), ht1, Option.bind_some, ht2, Option.bind_some, if_pos (cat_ok (by omega)), if_pos (cat_ok (by simp only [cat_size]; omega))]
      rfl
theorem frame_not (no : Int) (s : ByteArray) (h : ¬ (0 ≤ no ∧ no ≤ 999 ∧ s.size ≤ 600)) : Ev (fun k => impl_FrameOf.f k no s) ((⟨#[]⟩ : ByteArray), false) := by
  by_cases hn : 0 ≤ no ∧ no ≤ 999
  · refine Ev.congr (fun k => by simp only [impl_FrameOf.f]; rw [in_dec, Option.bind_some, if_pos (decide_eq_true hn), decide_eq_true (show (s.size : Int) > 600 by omega)]) ?_
    refine Ev.step (f := fun _ => some ((⟨#[]⟩ : ByteArray), false)) (fun k => ?_) (Ev.now _)
    simp only [impl_FrameOf.j0]; rw [if_pos trivial]
  · refine Ev.congr (fun k => by simp only [impl_FrameOf.f]; rw [in_dec, Option.bind_some, if_neg (by simp; omega)]) ?_
    refine Ev.step (f := fun _ => some ((⟨#[]⟩ : ByteArray), false)) (fun k => ?_) (Ev.now _)
    simp only [impl_FrameOf.j0]; rw [if_pos trivial]
theorem cutS_size (s : ByteArray) (i j : Nat) : (cutS s i j).size = min j s.size - i := ByteArray.size_extract
theorem cutS_cutS (s : ByteArray) (i k l : Nat) : cutS (cutS s i s.size) k l = cutS s (i + k) (min (i + l) s.size) := ByteArray.extract_extract
theorem bt_cutS (s : ByteArray) (i j : Nat) (h : i + j < s.size) : bt (cutS s i s.size) (j : Int) = bt s ((i + j : Nat) : Int) := by
  have hz := cutS_size s i s.size
  unfold bt
  rw [dif_pos (by simp only [Int.toNat_natCast]; omega), dif_pos (by simp only [Int.toNat_natCast]; omega)]
  simp only [Int.toNat_natCast, cutS]
  congr 2
  exact ByteArray.getElem_extract _
theorem toList_inj {a b : ByteArray} : a.toList = b.toList ↔ a = b := ⟨fun h => by
  apply ByteArray.ext
  apply Array.ext'
  simpa [ByteArray.toList_eq] using h, fun h => by rw [h]⟩
theorem wadd (p c : Nat) (h : p + c ≤ 1000000) : wrap64 ((p : Int) + (c : Int)) = ((p + c : Nat) : Int) := by rw [wrap_id] <;> omega
theorem wlen (x y : Nat) (hx : x ≤ 255) (hy : y ≤ 255) : wrap64 ((wrap64 (256 * (wrap64 (x : Int)))) + (wrap64 (y : Int))) = ((256 * x + y : Nat) : Int) := by
  rw [wrap_id (n := (x : Int)) (by omega) (by omega), wrap_id (n := (y : Int)) (by omega) (by omega), wrap_id (n := 256 * (x : Int)) (by omega) (by omega), wrap_id] <;> omega
theorem wlen4 (x y : Nat) (hx : x ≤ 255) (hy : y ≤ 255) : wrap64 (4 + (wrap64 ((wrap64 ((wrap64 (x : Int)) * 256)) + (wrap64 (y : Int))))) = ((4 + (256 * x + y) : Nat) : Int) := by
  rw [wrap_id (n := (x : Int)) (by omega) (by omega), wrap_id (n := (y : Int)) (by omega) (by omega), wrap_id (n := (x : Int) * 256) (by omega) (by omega), wrap_id (n := (x : Int) * 256 + (y : Int)) (by omega) (by omega), wrap_id] <;> omega
theorem bt_nat (s : ByteArray) (i : Int) : ∃ x : Nat, Aside0 (bt s i = (x : Int)) ∧ x ≤ 255 := by
  have h := bt_range s i
  exact ⟨(bt s i).toNat, ⟨by omega⟩, by omega⟩
/-- Both loops over the frames of a text s of at most 6000 bytes, from place 'at' on. -/
theorem frames_same (s : ByteArray) (hs : s.size ≤ 6000) : ∀ (d at_ : Nat) (out : List ByteArray), at_ ≤ s.size → s.size - at_ ≤ d → 7 * out.length ≤ at_ →
    ∃ (r : List ByteArray) (e : Nat), e ≤ s.size ∧ 7 * r.length ≤ e ∧ Ev (fun k => spec_l14Frames.l0 k s out (at_ : Int)) (r, (e : Int)) ∧ Ev (fun k => impl_frames.l0 k s out (at_ : Int)) (r, (e : Int))
  | d, p, out, hp, hd, ho => by
    have hz := cutS_size s p s.size
    have hlen : out.length ≤ 857 := by omega
    by_cases h7 : p + 7 ≤ s.size
    · -- a head lies there
      obtain ⟨x, hx, hx5⟩ := bt_nat s ((p + 2 : Nat) : Int)
      obtain ⟨y, hy, hy5⟩ := bt_nat s ((p + 3 : Nat) : Int)
      have hx2 : Aside0 (bt (cutS s p s.size) 2 = (x : Int)) := ⟨(bt_cutS s p 2 (by omega)).trans hx.out⟩
      have hy2 : Aside0 (bt (cutS s p s.size) 3 = (y : Int)) := ⟨(bt_cutS s p 3 (by omega)).trans hy.out⟩
      obtain ⟨m, hm⟩ : ∃ m : Nat, m = 256 * x + y := ⟨_, rfl⟩
      have sp : ∀ k, spec_l14Frames.l0 (k+1) s out (p : Int) = spec_l14Frames.j1 k s out (p : Int) (m : Int) (decide (600 < m ∨ s.size < p + 7 + m)) := by
        intro k
        simp only [spec_l14Frames.l0]
        have a7 : Aside0 (wrap64 ((p : Int) + 7) = ((p + 7 : Nat) : Int)) := ⟨wadd p 7 (by omega)⟩
        have a2 : Aside0 (wrap64 ((p : Int) + 2) = ((p + 2 : Nat) : Int)) := ⟨wadd p 2 (by omega)⟩
        have a3 : Aside0 (wrap64 ((p : Int) + 3) = ((p + 3 : Nat) : Int)) := ⟨wadd p 3 (by omega)⟩
        rw [a7.out, a2.out, a3.out, hx.out, hy.out, if_pos (by omega), if_pos (by omega), if_pos (by omega), if_pos (by omega), if_pos (by omega)]
        rw [wlen x y hx5 hy5, ← hm, wadd (p + 7) m (by omega)]
        by_cases q : (m : Int) > 600
        · rw [if_pos q, decide_eq_true (show 600 < m ∨ s.size < p + 7 + m by omega)]
        · rw [if_neg q]
          congr 1
          rw [decide_eq_decide]
          omega
      have im : ∀ k, impl_frames.l0 (k+1) s out (p : Int) = if s.size < p + 4 + m then some (out, (p : Int)) else
          ((impl_FrameOf.f k (out.length : Int) (cutS s (p + 4) (p + 4 + m))).bind fun b => (if b.2 = true then ((strings_HasPrefix.f (cutS s p s.size) b.1).bind fun t => (if t = true then (if out.length < 8796093022208 then (impl_frames.l0 k s (out ++ [cutS s (p + 4) (p + 4 + m)]) (wrap64 ((p : Int) + (b.1.size : Int)))) else (none)) else (some (out, (p : Int))))) else (some (out, (p : Int))))) := by
        intro k
        simp only [impl_frames.l0]
        rw [if_pos (by omega), if_pos (by omega)]
        simp only [Int.toNat_natCast]
        rw [hx2.out, hy2.out, wlen4 x y hx5 hy5, ← hm, if_neg (by omega), if_pos (by omega), if_pos (by omega)]
        by_cases q : s.size < p + 4 + m
        · rw [if_pos (show ((4 + m : Nat) : Int) > ((cutS s p s.size).size : Int) by omega), if_pos q]
        · rw [if_neg (show ¬ ((4 + m : Nat) : Int) > ((cutS s p s.size).size : Int) by omega), if_neg q, if_pos (by omega), if_pos (by omega)]
          have et : cutS (cutS s p s.size) 4 (((4 + m : Nat) : Int)).toNat = cutS s (p + 4) (p + 4 + m) := by
            rw [Int.toNat_natCast, cutS_cutS]; congr 1; omega
          rw [et]
      by_cases hstop : 600 < m ∨ s.size < p + 7 + m
      · refine ⟨out, p, hp, ho, ?_, ?_⟩
        · refine Ev.step sp (Ev.step (f := fun _ => some (out, (p : Int))) (fun k => ?_) (Ev.now _))
          simp only [spec_l14Frames.j1]; rw [if_pos (decide_eq_true hstop)]
        · refine Ev.step im ?_
          by_cases q : s.size < p + 4 + m
          · exact Ev.ite_pos q (Ev.now _)
          · refine Ev.ite_neg q ?_
            have ht : (cutS s (p + 4) (p + 4 + m)).size = m := by rw [cutS_size]; omega
            by_cases h6 : 600 < m
            · refine Ev.bind (frame_not _ _ (by omega)) (Ev.ite_neg (by simp) (Ev.now _))
            · obtain ⟨F, hF, _, hi⟩ := frame_built (out.length : Int) (cutS s (p + 4) (p + 4 + m)) (by omega)
              refine Ev.bind (hi ⟨by omega, by omega, by omega⟩) (Ev.ite_pos rfl ?_)
              have hp0 : strings_HasPrefix.f (cutS s p s.size) F = some false := by
                simp only [strings_HasPrefix.f, stringslite_HasPrefix.f]
                rw [if_neg (by omega), Option.bind_some]
              refine Ev.bind (Ev.const hp0) (Ev.ite_neg (by simp) (Ev.now _))
      · have ht : (cutS s (p + 4) (p + 4 + m)).size = m := by rw [cutS_size]; omega
        obtain ⟨F, hF, hsF, hiF⟩ := frame_built (out.length : Int) (cutS s (p + 4) (p + 4 + m)) (by omega)
        have hiF := hiF ⟨by omega, by omega, by omega⟩
        have hpre : strings_HasPrefix.f (cutS s p s.size) F = some (decide (F = cutS s p (p + 7 + m))) := by
          simp only [strings_HasPrefix.f, stringslite_HasPrefix.f]
          rw [if_pos (by omega), if_pos (by omega), if_pos (by omega), Option.bind_some, Int.toNat_natCast, cutS_cutS]
          have : cutS s (p + 0) (min (p + F.size) s.size) = cutS s p (p + 7 + m) := by congr 1; omega
          rw [this]
          congr 1
          rw [Bool.eq_iff_iff, beq_iff_eq, decide_eq_true_eq, toList_inj, eq_comm]
        have sp2 : ∀ k, spec_l14Frames.j1 (k+1) s out (p : Int) (m : Int) (decide (600 < m ∨ s.size < p + 7 + m)) = ((spec_l14Frame.f k (out.length : Int) (cutS s (p + 4) (p + 4 + m))).bind fun t => (if t = cutS s p (p + 7 + m) then (if out.length < 8796093022208 then (spec_l14Frames.l0 k s (out ++ [cutS s (p + 4) (p + 4 + m)]) ((p + 7 + m : Nat) : Int)) else (none)) else (some (out, (p : Int))))) := by
          intro k
          simp only [spec_l14Frames.j1]
          have a4 : Aside0 (wrap64 ((p : Int) + 4) = ((p + 4 : Nat) : Int)) := ⟨wadd p 4 (by omega)⟩
          have a7 : Aside0 (wrap64 ((p : Int) + 7) = ((p + 7 : Nat) : Int)) := ⟨wadd p 7 (by omega)⟩
          have a7n : Aside0 (wrap64 ((p : Int) + (wrap64 (7 + (m : Int)))) = ((p + 7 + m : Nat) : Int)) := ⟨(congrArg (fun z => wrap64 ((p : Int) + z)) (wadd 7 m (by omega))).trans ((wadd p (7 + m) (by omega)).trans (by congr 1; omega))⟩
          rw [decide_eq_false hstop, if_neg (by simp), a4.out, wadd (p + 4) m (by omega), a7.out, wadd (p + 7) m (by omega), a7n.out, if_pos (by omega), if_pos (by omega), if_pos (by omega)]
          simp only [Int.toNat_natCast, toList_inj]
          congr 1
          funext t
          rw [if_pos (by omega), if_pos (by omega), if_pos (by omega)]
        by_cases heq : F = cutS s p (p + 7 + m)
        · cases d with
          | zero => omega
          | succ d =>
            obtain ⟨r, e, he, hr, hA, hB⟩ := frames_same s hs d (p + 7 + m) (out ++ [cutS s (p + 4) (p + 4 + m)]) (by omega) (by omega) (by simp; omega)
            refine ⟨r, e, he, hr, ?_, ?_⟩
            · exact Ev.step sp (Ev.step sp2 (Ev.bind hsF (Ev.ite_pos heq (Ev.ite_pos (by omega) hA))))
            · refine Ev.step im (Ev.ite_neg (by omega) (Ev.bind hiF (Ev.ite_pos rfl (Ev.bind (Ev.const hpre) (Ev.ite_pos (decide_eq_true heq) (Ev.ite_pos (by omega) ?_))))))
              have q : wrap64 ((p : Int) + (F.size : Int)) = ((p + 7 + m : Nat) : Int) := (wadd p F.size (by omega)).trans (by congr 1; omega)
              simp only [q]
              exact hB
        · refine ⟨out, p, hp, ho, ?_, ?_⟩
          · exact Ev.step sp (Ev.step sp2 (Ev.bind hsF (Ev.ite_neg heq (Ev.now _))))
          · exact Ev.step im (Ev.ite_neg (by omega) (Ev.bind hiF (Ev.ite_pos rfl (Ev.bind (Ev.const hpre) (Ev.ite_neg (by simp [heq]) (Ev.now _))))))
    · refine ⟨out, p, hp, ho, ?_, ?_⟩
      · refine Ev.step (f := fun _ => some (out, (p : Int))) (fun k => ?_) (Ev.now _)
        simp only [spec_l14Frames.l0]
        have a7 : Aside0 (wrap64 ((p : Int) + 7) = ((p + 7 : Nat) : Int)) := ⟨wadd p 7 (by omega)⟩
        rw [a7.out, if_neg (by omega)]
      · by_cases h4 : p + 4 ≤ s.size
        · obtain ⟨x, hx, hx5⟩ := bt_nat (cutS s p s.size) 2
          obtain ⟨y, hy, hy5⟩ := bt_nat (cutS s p s.size) 3
          obtain ⟨m, hm⟩ : ∃ m : Nat, m = 256 * x + y := ⟨_, rfl⟩
          by_cases q : s.size < p + 4 + m
          · refine Ev.step (f := fun _ => some (out, (p : Int))) (fun k => ?_) (Ev.now _)
            simp only [impl_frames.l0]
            rw [if_pos (by omega), if_pos (by omega)]
            simp only [Int.toNat_natCast]
            rw [hx.out, hy.out, wlen4 x y hx5 hy5, ← hm, if_neg (by omega), if_pos (by omega), if_pos (by omega), if_pos (by omega)]
          · obtain ⟨F, hF, hsF, hiF⟩ := frame_built (out.length : Int) (cutS (cutS s p s.size) 4 (4 + m)) (by simp only [cutS_size]; omega)
            have hsz : (cutS (cutS s p s.size) 4 (4 + m)).size = m := by simp only [cutS_size]; omega
            have hiF := hiF ⟨by omega, by omega, by omega⟩
            have hp0 : strings_HasPrefix.f (cutS s p s.size) F = some false := by
              simp only [strings_HasPrefix.f, stringslite_HasPrefix.f]
              rw [if_neg (by omega), Option.bind_some]
            refine Ev.step (f := fun k => ((impl_FrameOf.f k (out.length : Int) (cutS (cutS s p s.size) 4 (4 + m))).bind fun b => (if b.2 = true then ((strings_HasPrefix.f (cutS s p s.size) b.1).bind fun t => (if t = true then (if out.length < 8796093022208 then (impl_frames.l0 k s (out ++ [cutS (cutS s p s.size) 4 (4 + m)]) (wrap64 ((p : Int) + (b.1.size : Int)))) else (none)) else (some (out, (p : Int))))) else (some (out, (p : Int)))))) (fun k => ?_) (Ev.bind hiF (Ev.ite_pos rfl (Ev.bind (Ev.const hp0) (Ev.ite_neg (by simp) (Ev.now _)))))
            simp only [impl_frames.l0]
            rw [if_pos (by omega), if_pos (by omega)]
            simp only [Int.toNat_natCast]
            rw [hx.out, hy.out, wlen4 x y hx5 hy5, ← hm, if_neg (by omega), if_pos (by omega), if_pos (by omega), if_neg (by omega), if_pos (by omega), if_pos (by omega), Int.toNat_natCast]
        · refine Ev.step (f := fun _ => some (out, (p : Int))) (fun k => ?_) (Ev.now _)
          simp only [impl_frames.l0]
          rw [if_pos (by omega), if_pos (by omega)]
          simp only [Int.toNat_natCast]
          rw [if_pos (by omega)]
theorem frames_of (s : ByteArray) (hs : s.size ≤ 6000) : ∃ (r : List ByteArray) (e : Nat), e ≤ s.size ∧ 7 * r.length ≤ e ∧ Ev (fun k => spec_l14Frames.f k s) (r, (e : Int)) ∧ Ev (fun k => impl_frames.f k s) (r, (e : Int)) :=
  frames_same s hs s.size 0 [] (by omega) (by omega) (by simp)
/-- A loop that goes on to n with the same result. -/
theorem ev_up {α : Type} (L : Nat → Int → Option α) (n : Nat) (r : α) (hs : ∀ i : Nat, i < n → Ev (fun k => L k ((i + 1 : Nat) : Int)) r → Ev (fun k => L k (i : Int)) r) (he : Ev (fun k => L k (n : Int)) r) :
    ∀ d i : Nat, i + d = n → Ev (fun k => L k (i : Int)) r
  | 0, i, h => by
    have : i = n := by omega
    subst this
    exact he
  | d + 1, i, h => hs i (by omega) (ev_up L n r hs he d (i + 1) (by omega))
/-- A loop that fills a row, place by place. -/
theorem ev_map {α β : Type} (L : Nat → List β → Int → Option (List β)) (xs : List α) (f : α → β) (z : α)
    (hs : ∀ (i : Nat) (acc r : List β), i < xs.length → acc.length = xs.length → Ev (fun k => L k (acc.set i (f (xs.getD i z))) ((i + 1 : Nat) : Int)) r → Ev (fun k => L k acc (i : Int)) r)
    (he : ∀ acc : List β, acc.length = xs.length → Ev (fun k => L k acc (xs.length : Int)) acc) :
    ∀ (d i : Nat) (acc : List β), i + d = xs.length → acc.length = xs.length → Ev (fun k => L k acc (i : Int)) (acc.take i ++ (xs.drop i).map f)
  | 0, i, acc, h, ha => by
    have e : acc.take i ++ (xs.drop i).map f = acc := by rw [List.take_of_length_le (by omega), List.drop_eq_nil_of_le (by omega), List.map_nil, List.append_nil]
    rw [e]
    have : i = xs.length := by omega
    subst this
    exact he acc ha
  | d + 1, i, acc, h, ha => by
    have ih := ev_map L xs f z hs he d (i + 1) (acc.set i (f (xs.getD i z))) (by omega) (by simpa using ha)
    have e : (acc.set i (f (xs.getD i z))).take (i + 1) ++ (xs.drop (i + 1)).map f = acc.take i ++ (xs.drop i).map f := by
      rw [List.take_succ_eq_append_getElem (by simp; omega), List.getElem_set_self, List.take_set, List.set_eq_of_length_le (by simp; omega), List.append_assoc, List.drop_eq_getElem_cons (show i < xs.length by omega), List.map_cons]
      simp [List.getD_eq_getElem?_getD, List.getElem?_eq_getElem (show i < xs.length by omega)]
    rw [e] at ih
    exact hs i acc _ (by omega) ha ih
theorem ev_map_all {α β : Type} (L : Nat → List β → Int → Option (List β)) (xs : List α) (f : α → β) (z : α) (y : β)
    (hs : ∀ (i : Nat) (acc r : List β), i < xs.length → acc.length = xs.length → Ev (fun k => L k (acc.set i (f (xs.getD i z))) ((i + 1 : Nat) : Int)) r → Ev (fun k => L k acc (i : Int)) r)
    (he : ∀ acc : List β, acc.length = xs.length → Ev (fun k => L k acc (xs.length : Int)) acc) :
    Ev (fun k => L k (List.replicate xs.length y) 0) (xs.map f) := by
  have h := ev_map L xs f z hs he xs.length 0 (List.replicate xs.length y) (by omega) (by simp)
  simpa using h
/-- The rows of marks that a law writes: n places, each taking c marks. -/
def marksC {α : Type} (m : Int → α) (c : Int) (a : Int) : Nat → List α
  | 0 => []
  | n + 1 => m a :: marksC m c (a + c) n
theorem marksC_length {α : Type} (m : Int → α) (c a : Int) (n : Nat) : (marksC m c a n).length = n := by
  induction n generalizing a with
  | zero => rfl
  | succ n ih => simp [marksC, ih]
theorem marksC_getD {α : Type} (m : Int → α) (z : α) (c a : Int) (n i : Nat) (h : i < n) : (marksC m c a n).getD i z = m (a + c * i) := by
  induction n generalizing a i with
  | zero => omega
  | succ n ih =>
    cases i with
    | zero => simp [marksC]
    | succ i =>
      have := ih (a + c) i (by omega)
      simp only [marksC, List.getD_cons_succ]
      rw [this]
      congr 1
      rw [Int.natCast_add, Int.mul_add]
      simp
      omega
/-- A loop that marks a row: m tells what is written, c how many marks a place takes. -/
theorem ev_mark {α : Type} (L : Nat → List α → Int → Int → Option (Int × List α)) (m : Int → α) (c : Int) (n : Nat) (lim : Int) (hc : 0 ≤ c)
    (hs : ∀ (i : Nat) (xs : List α) (a : Int) (r : Int × List α), i < n → xs.length = n → 0 ≤ a → a + c ≤ lim → Ev (fun k => L k (xs.set i (m a)) (a + c) ((i + 1 : Nat) : Int)) r → Ev (fun k => L k xs a (i : Int)) r)
    (he : ∀ (xs : List α) (a : Int), xs.length = n → Ev (fun k => L k xs a (n : Int)) (a, xs)) :
    ∀ (d i : Nat) (xs : List α) (a : Int), i + d = n → xs.length = n → 0 ≤ a → a + c * (d : Int) ≤ lim → Ev (fun k => L k xs a (i : Int)) (a + c * (d : Int), xs.take i ++ marksC m c a d)
  | 0, i, xs, a, h, hl, h0, h1 => by
    have e : xs.take i ++ marksC m c a 0 = xs := by rw [List.take_of_length_le (by omega), marksC, List.append_nil]
    rw [e]
    have : i = n := by omega
    subst this
    simpa using he xs a hl
  | d + 1, i, xs, a, h, hl, h0, h1 => by
    have hcd : c * ((d + 1 : Nat) : Int) = c + c * (d : Int) := by rw [Int.natCast_add, Int.mul_add]; simp; omega
    have hnn : 0 ≤ c * (d : Int) := Int.mul_nonneg hc (by omega)
    have ih := ev_mark L m c n lim hc hs he d (i + 1) (xs.set i (m a)) (a + c) (by omega) (by simpa using hl) (by omega) (by omega)
    have e : (xs.set i (m a)).take (i + 1) ++ marksC m c (a + c) d = xs.take i ++ marksC m c a (d + 1) := by
      rw [List.take_succ_eq_append_getElem (by simp; omega), List.getElem_set_self, List.take_set, List.set_eq_of_length_le (by simp; omega), List.append_assoc]
      rfl
    rw [e, show a + c + c * (d : Int) = a + c * ((d + 1 : Nat) : Int) from by omega] at ih
    exact hs i xs a _ (by omega) hl h0 (by omega) ih
theorem ev_mark_all {α : Type} (L : Nat → List α → Int → Int → Option (Int × List α)) (m : Int → α) (c : Int) (lim : Int) (hc : 0 ≤ c) (xs : List α)
    (hs : ∀ (i : Nat) (ys : List α) (a : Int) (r : Int × List α), i < xs.length → ys.length = xs.length → 0 ≤ a → a + c ≤ lim → Ev (fun k => L k (ys.set i (m a)) (a + c) ((i + 1 : Nat) : Int)) r → Ev (fun k => L k ys a (i : Int)) r)
    (he : ∀ (ys : List α) (a : Int), ys.length = xs.length → Ev (fun k => L k ys a (xs.length : Int)) (a, ys)) (a : Int) (h0 : 0 ≤ a) (h1 : a + c * (xs.length : Int) ≤ lim) :
    Ev (fun k => L k xs a 0) (a + c * (xs.length : Int), marksC m c a xs.length) := by
  have h := ev_mark L m c xs.length lim hc hs he xs.length 0 xs a (by omega) rfl h0 h1
  simpa using h
/-- A loop that asks whether the marks are held. -/
theorem ev_held (L : Nat → Int → Int → Option Int) (c : Int) (n : Nat) (lim : Int) (a : Int) (hc : 0 ≤ c) (h0 : 0 ≤ a) (h1 : a + c * (n : Int) ≤ lim)
    (hs : ∀ (i : Nat) (r : Int), i < n → a + c * (i : Int) + c ≤ lim → Ev (fun k => L k (a + c * (i : Int) + c) ((i + 1 : Nat) : Int)) r → Ev (fun k => L k (a + c * (i : Int)) (i : Int)) r)
    (he : Ev (fun k => L k (a + c * (n : Int)) (n : Int)) (a + c * (n : Int))) :
    ∀ (d i : Nat), i + d = n → Ev (fun k => L k (a + c * (i : Int)) (i : Int)) (a + c * (n : Int))
  | 0, i, h => by
    have : i = n := by omega
    subst this
    exact he
  | d + 1, i, h => by
    have e : c * ((i + 1 : Nat) : Int) = c * (i : Int) + c := by rw [Int.natCast_add, Int.mul_add]; simp
    have ih := ev_held L c n lim a hc h0 h1 hs he d (i + 1) (by omega)
    rw [e, ← Int.add_assoc] at ih
    have hle : c * ((i + 1 : Nat) : Int) ≤ c * (n : Int) := Int.mul_le_mul_of_nonneg_left (by omega) hc
    exact hs i _ (by omega) (by omega) ih
theorem ev_held_all (L : Nat → Int → Int → Option Int) (c : Int) (n : Nat) (lim : Int) (a : Int) (hc : 0 ≤ c) (h0 : 0 ≤ a) (h1 : a + c * (n : Int) ≤ lim)
    (hs : ∀ (i : Nat) (r : Int), i < n → a + c * (i : Int) + c ≤ lim → Ev (fun k => L k (a + c * (i : Int) + c) ((i + 1 : Nat) : Int)) r → Ev (fun k => L k (a + c * (i : Int)) (i : Int)) r)
    (he : Ev (fun k => L k (a + c * (n : Int)) (n : Int)) (a + c * (n : Int))) : Ev (fun k => L k a 0) (a + c * (n : Int)) := by
  have h := ev_held L c n lim a hc h0 h1 hs he n 0 (by omega)
  simpa using h
def dig (x : Int) : ByteArray := strOfNums [(wrap64 (48 + (Int.tmod x 10))) % 256]
/-- The text that a mark is written as. -/
def markR : Nat → Int → ByteArray → ByteArray
  | 0, _, t => cat (⟨#[109]⟩ : ByteArray) t
  | d + 1, x, t => if x > 0 then markR d (Int.tdiv x 10) (cat (dig x) t) else cat (⟨#[109]⟩ : ByteArray) t
theorem markText_l0 : ∀ (d : Nat) (x : Int) (t : ByteArray), 0 ≤ x → x < 10 ^ d → x ≤ 9000000000000000000 → t.size + d ≤ 1000 → Ev (fun k => laws_markText.l0 k x t) (markR d x t)
  | 0, x, t, h0, h1, h2, ht => by
    have hz : (⟨#[109]⟩ : ByteArray).size = 1 := rfl
    refine Ev.step (f := fun _ => some (cat (⟨#[109]⟩ : ByteArray) t)) (fun k => ?_) (Ev.now _)
    simp only [laws_markText.l0]
    rw [if_neg (by omega), if_pos (cat_ok (by omega))]
  | d + 1, x, t, h0, h1, h2, ht => by
    have hz : (⟨#[109]⟩ : ByteArray).size = 1 := rfl
    have hd : (dig x).size = 1 := two_size _
    have hc : (cat (dig x) t).size = (dig x).size + t.size := cat_size _ _
    unfold markR
    by_cases h : x > 0
    · rw [if_pos h]
      have hq : Int.tdiv x 10 = x / 10 := Int.tdiv_eq_ediv_of_nonneg h0
      have hp : (10 : Int) ^ (d + 1) = 10 ^ d * 10 := by rw [Int.pow_succ]
      refine Ev.step (fun k => ?_) (markText_l0 d (Int.tdiv x 10) (cat (dig x) t) (by omega) (by omega) (by omega) (by omega))
      simp only [laws_markText.l0, Option.bind_some]
      rw [if_pos h, wrap_id (n := Int.tdiv x 10) (by omega) (by omega)]
      exact if_pos (cat_ok (a := dig x) (by omega))
    · rw [if_neg h]
      refine Ev.step (f := fun _ => some (cat (⟨#[109]⟩ : ByteArray) t)) (fun k => ?_) (Ev.now _)
      simp only [laws_markText.l0]
      rw [if_neg h, if_pos (cat_ok (by omega))]
def markT (x : Int) : ByteArray := markR 19 x (⟨#[]⟩ : ByteArray)
theorem markText_ev (x : Int) (h0 : 1 ≤ x) (h1 : x ≤ 9000000000000000000) : Ev (fun k => laws_markText.f k x) (markT x) := by
  refine Ev.congr (fun k => ?_) (markText_l0 19 x (⟨#[]⟩ : ByteArray) (by omega) (by omega) h1 (by rw [show (⟨#[]⟩ : ByteArray).size = 0 from rfl]; omega))
  simp only [laws_markText.f]; rw [if_neg (by omega)]
theorem markStringS_ev (xs : List ByteArray) (hx : xs.length ≤ 1048576) : Ev (fun k => laws_markStringS.f k xs 1) (1 + 1 * (xs.length : Int), marksC markT 1 1 xs.length) := by
  -- every mark is at least 1 here: the count starts at 1
  have key : ∀ (d i : Nat) (ys : List ByteArray) (a : Int), i + d = xs.length → ys.length = xs.length → 1 ≤ a → a + 1 * (d : Int) ≤ 2000000 → Ev (fun k => laws_markStringS.l0 k ys a (i : Int)) (a + 1 * (d : Int), ys.take i ++ marksC markT 1 a d) := by
    intro d
    induction d with
    | zero =>
      intro i ys a h hl h0 h1
      have e : ys.take i ++ marksC markT 1 a 0 = ys := by rw [List.take_of_length_le (by omega), marksC, List.append_nil]
      rw [e]
      refine Ev.step (f := fun _ => some (a + 1 * ((0 : Nat) : Int), ys)) (fun k => ?_) (Ev.now _)
      simp only [laws_markStringS.l0]
      rw [if_neg (by omega)]; simp
    | succ d ihd =>
      intro i ys a h hl h0 h1
      have ih := ihd (i + 1) (ys.set i (markT a)) (a + 1) (by omega) (by simpa using hl) (by omega) (by omega)
      have e : (ys.set i (markT a)).take (i + 1) ++ marksC markT 1 (a + 1) d = ys.take i ++ marksC markT 1 a (d + 1) := by
        rw [List.take_succ_eq_append_getElem (by simp; omega), List.getElem_set_self, List.take_set, List.set_eq_of_length_le (by simp; omega), List.append_assoc]
        rfl
      rw [e, show a + 1 + 1 * (d : Int) = a + 1 * ((d + 1 : Nat) : Int) from by omega] at ih
      refine Ev.step (f := fun k => (laws_markText.f k a).bind fun t => if 0 ≤ (i : Int) then laws_markStringS.l0 k (ys.set ((i : Int)).toNat t) (wrap64 (a + 1)) (wrap64 ((i : Int) + 1)) else none) (fun k => ?_) (Ev.bind (markText_ev a (by omega) (by omega)) (Ev.ite_pos (by omega) ?_))
      · simp only [laws_markStringS.l0]; rw [if_pos (by omega)]
      · rw [wrap_id (n := a + 1) (by omega) (by omega), wrap_id (n := (i : Int) + 1) (by omega) (by omega)]
        exact ih
  have h := key xs.length 0 xs 1 (by omega) rfl (by omega) (by omega)
  simp only [List.take_zero, List.nil_append] at h
  exact h
theorem heldStringS_ev (n : Nat) (hn : n ≤ 1048576) : Ev (fun k => laws_heldStringS.f k (marksC markT 1 1 n) 1) (1 + 1 * (n : Int)) := by
  refine ev_held_all (fun k a i => laws_heldStringS.l0 k (marksC markT 1 1 n) a i) 1 n 2000000 1 (by omega) (by omega) (by omega) (fun i r hi hl h => ?_) ?_
  · refine Ev.step (f := fun k => (laws_markText.f k (1 + 1 * (i : Int))).bind fun t => if (rdOf ByteArray.empty (marksC markT 1 1 n) (i : Int)).toList = t.toList then laws_heldStringS.l0 k (marksC markT 1 1 n) (wrap64 (1 + 1 * (i : Int) + 1)) (wrap64 ((i : Int) + 1)) else some (-1)) (fun k => ?_) (Ev.bind (markText_ev _ (by omega) (by omega)) (Ev.ite_pos ?_ ?_))
    · simp only [laws_heldStringS.l0, marksC_length]; rw [if_pos (by omega), if_pos (by omega)]
    · simp only [rdOf, Int.toNat_natCast]; rw [marksC_getD _ _ _ _ _ _ hi]
    · rw [wrap_id (n := 1 + 1 * (i : Int) + 1) (by omega) (by omega), wrap_id (n := (i : Int) + 1) (by omega) (by omega)]
      exact h
  · refine Ev.step (f := fun _ => some (1 + 1 * (n : Int))) (fun k => ?_) (Ev.now _)
    simp only [laws_heldStringS.l0, marksC_length]; rw [if_neg (by omega)]
theorem eqStringS_ev (xs : List ByteArray) (hx : xs.length ≤ 1048576) : Ev (fun k => laws_eqStringS.f k xs xs) true := by
  have h := ev_up (fun k i => laws_eqStringS.l0 k xs xs i) xs.length true (fun i hi h => ?_) ?_ xs.length 0 (by omega)
  · refine Ev.congr (fun k => ?_) h
    simp only [laws_eqStringS.f]; rw [if_pos trivial]; rfl
  · refine Ev.step (fun k => ?_) h
    simp only [laws_eqStringS.l0]
    rw [if_pos (by omega), if_pos (by omega), if_pos (by omega), if_pos trivial, wrap_id (n := (i : Int) + 1) (by omega) (by omega)]
    rfl
  · refine Ev.step (f := fun _ => some true) (fun k => ?_) (Ev.now _)
    simp only [laws_eqStringS.l0]; rw [if_neg (by omega)]
theorem in_same (s : ByteArray) : ∃ (r : List ByteArray) (e : Int) (b : Bool), r.length ≤ 857 ∧ Ev (fun k => spec_FramesIn.f k s) (r, e, b) ∧ Ev (fun k => impl_FramesIn.f k s) (r, e, b) := by
  simp only [spec_FramesIn.f, impl_FramesIn.f]
  by_cases h : (s.size : Int) > 6000
  · exact ⟨[], 0, false, by simp, Ev.ite_pos h (Ev.now _), Ev.ite_pos h (Ev.now _)⟩
  · obtain ⟨r, e, h1, h2, hA, hB⟩ := frames_of s (by omega)
    exact ⟨r, (e : Int), true, by omega, Ev.ite_neg h (Ev.bind hA (Ev.now _)), Ev.ite_neg h (Ev.bind hB (Ev.now _))⟩
theorem FnExactFramesIn : laws_FnExactFramesIn.Pure2 := by
  intro s _ _
  apply Ev.rounds
  simp only [laws_FnExactFramesIn.f]
  by_cases h : (s.size : Int) > 1048576
  · exact Ev.ite_pos h (Ev.now _)
  refine Ev.ite_neg h ?_
  obtain ⟨r, e, b, hr, hs, hi⟩ := in_same s
  refine Ev.bind hs (Ev.bind hi (Ev.bind (eqStringS_ev r (by omega)) (Ev.ite_pos rfl (Ev.ite_pos rfl ?_))))
  refine Ev.congr (fun k => by rw [show (b != b) = false from by simp]) ?_
  refine Ev.step (fun k => by simp only [laws_FnExactFramesIn.j0]; rw [if_neg (by simp)]) ?_
  refine Ev.bind (markStringS_ev r (by omega)) (Ev.bind (heldStringS_ev r.length (by omega)) (Ev.ite_neg (by omega) (Ev.ite_pos rfl (Ev.bind hi (Ev.bind (eqStringS_ev r (by omega)) (Ev.ite_pos rfl (Ev.ite_pos rfl ?_)))))))
  refine Ev.congr (fun k => by rw [show (b != b) = false from by simp]) ?_
  refine Ev.step (fun k => by simp only [laws_FnExactFramesIn.j1]; rw [if_neg (by simp)]) ?_
  exact Ev.bind (heldStringS_ev r.length (by omega)) (Ev.ite_neg (by omega) (Ev.ite_pos rfl (Ev.now _)))

end Go.Proofs.Ytomckmlhidhodaa.Pure

/- The pure statement of FnExactFrameOf: both functions build the same frame, for every number and text. -/
import Derived.Test.YtbgocnhhpbpilaaGFrameOfx2
import Derived.Test.YtbgocnhhpbpilaaMBase
import Derived.KernelRfl
set_option linter.unusedVariables false
set_option linter.unusedSimpArgs false
namespace Go.Proofs.Ytbgocnhhpbpilaa.Pure
open Go.RowKit Go.Proofs.Ytbgocnhhpbpilaa.GFrameOf Go.Proofs.YtbgocnhhpbpilaaW.PrintWords Go.Proofs.YtbgocnhhpbpilaaW.PrintLast Go.Proofs.YtbgocnhhpbpilaaW.PrintMore Go.Proofs.Ytbgocnhhpbpilaa.MBase
theorem two_size (xs : List Int) : (strOfNums xs).size = xs.length := by
  simp [strOfNums, ByteArray.size]
theorem two_spec (n : Int) : ∃ t, spec_l14Two.f n = some t ∧ t.size = 2 := ⟨_, rfl, by rw [two_size]; rfl⟩
theorem two_impl (n : Int) : impl_twoBytes.f n = spec_l14Two.f n := rfl
/-- What a sum comes to, from byte i on. -/
def sumR (s : ByteArray) : Nat → Nat → Int → Int
  | 0, _, n => n
  | d + 1, i, n => sumR s d (i + 1) (Int.tmod (wrap64 ((wrap64 (31 * n)) + (wrap64 (bt s (i : Int))))) 65521)
theorem sum_spec (s : ByteArray) (hs : s.size ≤ 1048576) : ∀ (d i : Nat) (n : Int), i + d = s.size → Ev (fun k => spec_l14Sum.l0 k s n (i : Int)) (sumR s d i n)
  | 0, i, n, h => by
    refine Ev.step (f := fun _ => some n) (fun k => ?_) (Ev.now _)
    simp only [spec_l14Sum.l0]; rw [if_neg (by omega)]
  | d + 1, i, n, h => by
    refine Ev.step (fun k => ?_) (sum_spec s hs d (i + 1) _ (by omega))
    simp only [spec_l14Sum.l0]
    rw [if_pos (by omega), if_pos (by omega), wrap_id (n := (i : Int) + 1) (by omega) (by omega)]
    rfl
theorem sum_impl (s : ByteArray) (hs : s.size ≤ 1048576) (t : ByteArray) : ∀ (d i : Nat) (n : Int), i + d = s.size → spec_l14Two.f (sumR s d i n) = some t → t.size = 2 →
    Ev (fun k => impl_FrameOf.l0 k s n (s.size : Int) (i : Int)) (cat (cat s t) (⟨#[1]⟩ : ByteArray), true)
  | 0, i, n, h, ht, h2 => by
    refine Ev.step (f := fun _ => some (cat (cat s t) (⟨#[1]⟩ : ByteArray), true)) (fun k => ?_) (Ev.now _)
    simp only [impl_FrameOf.l0]
    rw [if_neg (by omega), two_impl, show n = sumR s 0 i n from rfl, ht, Option.bind_some, if_pos (by omega), if_pos (by simp only [cat_size]; omega)]
  | d + 1, i, n, h, ht, h2 => by
    refine Ev.step (fun k => ?_) (sum_impl s hs t d (i + 1) _ (by omega) ht h2)
    simp only [impl_FrameOf.l0]
    rw [if_pos (by omega), if_pos (by omega), if_pos (by omega), wrap_id (n := (i : Int) + 1) (by omega) (by omega)]
    rfl
theorem in_eq (a b c : Int) : impl_in.f a b c = spec_l1In.f a b c := rfl
theorem l1In_some (a b c : Int) : ∃ r, spec_l1In.f a b c = some r := by
  unfold spec_l1In.f; split <;> exact ⟨_, rfl⟩
theorem frame_same (no : Int) (s : ByteArray) (hs : s.size ≤ 1048576) : ∃ r, Ev (fun k => spec_FrameOf.f k no s) r ∧ Ev (fun k => impl_FrameOf.f k no s) r := by
  obtain ⟨b, hb⟩ := l1In_some no 0 999
  cases b with
  | false =>
    refine ⟨((⟨#[]⟩ : ByteArray), false), Ev.congr (fun k => by simp only [spec_FrameOf.f]; rw [hb, Option.bind_some, if_neg (by simp)]) (Ev.now _), Ev.congr (fun k => by simp only [impl_FrameOf.f]; rw [in_eq, hb, Option.bind_some, if_neg (by simp)]) ?_⟩
    refine Ev.step (f := fun _ => some ((⟨#[]⟩ : ByteArray), false)) (fun k => ?_) (Ev.now _)
    simp only [impl_FrameOf.j0]; rw [if_pos trivial]
  | true =>
    by_cases hl : (s.size : Int) > 600
    · refine ⟨((⟨#[]⟩ : ByteArray), false), Ev.congr (fun k => by simp only [spec_FrameOf.f]; rw [hb, Option.bind_some, if_pos rfl, if_pos hl]) (Ev.now _), Ev.congr (fun k => by simp only [impl_FrameOf.f]; rw [in_eq, hb, Option.bind_some, if_pos rfl, decide_eq_true hl]) ?_⟩
      refine Ev.step (f := fun _ => some ((⟨#[]⟩ : ByteArray), false)) (fun k => ?_) (Ev.now _)
      simp only [impl_FrameOf.j0]; rw [if_pos trivial]
    · obtain ⟨t1, ht1, hz1⟩ := two_spec no
      obtain ⟨t2, ht2, hz2⟩ := two_spec (s.size : Int)
      have hsz : (cat (cat t1 t2) s).size = 4 + s.size := by simp only [cat_size]; omega
      obtain ⟨t3, ht3, hz3⟩ := two_spec (sumR (cat (cat t1 t2) s) (cat (cat t1 t2) s).size 0 1)
      have hsum := sum_spec (cat (cat t1 t2) s) (by omega) (cat (cat t1 t2) s).size 0 1 (by omega)
      have himp := sum_impl (cat (cat t1 t2) s) (by omega) t3 (cat (cat t1 t2) s).size 0 1 (by omega) ht3 hz3
      have h1z : (strOfNums [1]).size = 1 := by rw [two_size]; rfl
      have e1 : strOfNums [1] = (⟨#[1]⟩ : ByteArray) := rfl
      refine ⟨(cat (cat (cat (cat t1 t2) s) t3) (⟨#[1]⟩ : ByteArray), true), ?_, ?_⟩
      · refine Ev.congr (fun k => ?_) (Ev.bind (g := fun k => spec_l14Sum.f k (cat (cat t1 t2) s)) (f := fun _ x => (spec_l14Two.f x).bind fun y => some (cat (cat (cat (cat t1 t2) s) y) (⟨#[1]⟩ : ByteArray), true)) hsum (Ev.const (by rw [ht3, Option.bind_some])))
        simp only [spec_FrameOf.f, spec_l14Frame.f]
        rw [hb, Option.bind_some, if_pos rfl, if_neg hl, ht1, Option.bind_some, ht2, Option.bind_some, if_pos (by omega), if_pos (by simp only [cat_size]; omega), Option.bind_assoc]
        congr 1
        funext x
        obtain ⟨t, ht, hz⟩ := two_spec x
        rw [ht]
        simp only [Option.bind_some]
        rw [if_pos (by simp only [cat_size]; omega), if_pos (by simp only [cat_size, h1z]; omega), Option.bind_some, e1]
      · refine Ev.congr (fun k => ?_) (Ev.step (g := fun k => impl_FrameOf.j0 k no s false) (fun k => ?_) himp)
        · simp only [impl_FrameOf.f]
          rw [in_eq, hb, Option.bind_some, if_pos rfl, decide_eq_false hl]
        · simp only [impl_FrameOf.j0, two_impl]
          rw [if_neg (by simp), ht1, Option.bind_some, ht2, Option.bind_some, if_pos (by omega), if_pos (by simp only [cat_size]; omega)]
          rfl
theorem FnExactFrameOf : laws_FnExactFrameOf.Pure := by
  intro no s _ _
  apply Ev.rounds
  simp only [laws_FnExactFrameOf.f]
  by_cases h : (s.size : Int) > 1048576
  · exact Ev.ite_pos h (Ev.now _)
  refine Ev.ite_neg h ?_
  obtain ⟨r, hs, hi⟩ := frame_same no s (by omega)
  refine Ev.bind hs (Ev.bind hi ?_)
  exact Ev.ite_pos rfl (Ev.ite_neg (by simp) (Ev.now _))

end Go.Proofs.Ytbgocnhhpbpilaa.Pure

/- Plain lemmas on lists of numbers, rounds and wraps that the pure proofs of this seat use; no program in sight. -/
import Derived.Test.YthdpiceiemkjlaaWMore
import Derived.IntWalk
import Derived.Test.YthdpiceiemkjlaaWSized
namespace Go.Proofs.Ythdpiceiemkjlaa.MBase
open Go.RowKit Go.Proofs.YthdpiceiemkjlaaW.PrintWords Go.Proofs.YthdpiceiemkjlaaW.PrintLast

theorem wrap_id {n : Int} (h1 : -9223372036854775808 ≤ n) (h2 : n ≤ 9223372036854775807) : wrap64 n = n := by
  unfold wrap64; omega
theorem rd_nat (xs : List Int) (i : Nat) : rd xs (i : Int) = xs.getD i 0 := by simp [rd]
/-- The numbers a, a + 1, .. -/
def iota (a : Int) : Nat → List Int
  | 0 => []
  | n + 1 => a :: iota (a + 1) n
theorem iota_length (a : Int) (n : Nat) : (iota a n).length = n := by
  induction n generalizing a with
  | zero => rfl
  | succ n ih => simp [iota, ih]
theorem iota_getD (a : Int) (n i : Nat) (h : i < n) : (iota a n).getD i 0 = a + i := by
  induction n generalizing a i with
  | zero => omega
  | succ n ih =>
    cases i with
    | zero => simp [iota]
    | succ i =>
      have := ih (a + 1) i (by omega)
      simp only [iota, List.getD_cons_succ]
      rw [this]
      omega
theorem Ev.ite_pos {α : Type} {c : Prop} [Decidable c] {g f : Nat → Option α} {r : α} (h : c) (k : Ev g r) : Ev (fun n => if c then g n else f n) r :=
  Ev.congr (fun n => by rw [if_pos h]) k
theorem Ev.ite_neg {α : Type} {c : Prop} [Decidable c] {g f : Nat → Option α} {r : α} (h : ¬ c) (k : Ev f r) : Ev (fun n => if c then g n else f n) r :=
  Ev.congr (fun n => by rw [if_neg h]) k
/-- Something that needs no rounds. -/
theorem Ev.const {α : Type} {g : Option α} {r : α} (h : g = some r) : Ev (fun _ => g) r := ⟨0, fun _ _ => h⟩
end Go.Proofs.Ythdpiceiemkjlaa.MBase

namespace Go.Proofs.PrintWords
end Go.Proofs.PrintWords

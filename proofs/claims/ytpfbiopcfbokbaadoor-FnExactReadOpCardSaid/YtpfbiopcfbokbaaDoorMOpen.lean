/- How an argument that reads as data lies in memory, kind by kind, whatever the program: numbers, floats, bools, texts, slices and structs of these; and how long a slice among the arguments may be. -/
import Derived.Test.YtpfbiopcfbokbaaDoorMFlt
import Derived.Deep.Slices
import Derived.ChangeArms
import Derived.WideShapes
import Derived.SizedLaws
namespace Go.Proofs.YtpfbiopcfbokbaaDoorW.PrintWords
open Go.RowKit Go.ChangeShapes Go.WideShapes Go.Deep

/-- What a reading of type t says of the cells: they are those of some value, of which ok holds. -/
def Opens (P : Program) (t : TypeId) {α : Type} (d : Kd α) (ok : α → Prop) : Prop :=
  ∀ (H : Type) (enc : TypeId × Value → H) (w : World) (base : Nat) (spare : Nat → Bool) (held : Bool) (fuel : Nat) (cs : List Value) (x : DataW H × List MemPlace),
    DataW.trod enc P w base spare held fuel t cs = some x → ∃ y : α, d.K w y cs ∧ ok y
def okI (n : Int) : Prop := (Lit.int .i64 n).wf = true
def okU8 (n : Int) : Prop := (Lit.int .u8 n).wf = true
def okF (b : Nat) : Prop := b < 18446744073709551616
def okB (_ : Bool) : Prop := True
def okS (s : ByteArray) : Prop := s.size ≤ 9223372036854775807
def okL {α : Type} (ok : α → Prop) (l : List α) : Prop := l.length ≤ 9223372036854775807 ∧ ∀ x ∈ l, ok x
section
variable {P : Program} {t : TypeId}
theorem opens_string (ht : P.underlying t = some .string) : Opens P t Kd.string okS := by
  intro H enc w base spare held fuel cs x h
  obtain ⟨n, rfl, _, hw⟩ := DataW.trod_string ht h
  exact ⟨n, rfl, by unfold maxLen at hw; unfold okS; omega⟩
end
end Go.Proofs.YtpfbiopcfbokbaaDoorW.PrintWords

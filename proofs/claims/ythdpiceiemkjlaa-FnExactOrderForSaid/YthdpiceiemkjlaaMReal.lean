/- Plain facts on float64 values, as their bits: products and quotients by powers of two, whole numbers, what is cut off; no program in sight. -/
import Derived.Test.YthdpiceiemkjlaaMNum
namespace Go.Proofs.Ythdpiceiemkjlaa.MReal
open Ieee Go.Proofs.YthdpiceiemkjlaaW.PrintWords Go.Proofs.Ythdpiceiemkjlaa.MIeee Go.Proofs.Ythdpiceiemkjlaa.MNum
set_option linter.unusedSimpArgs false

/-- The places that matter: of the point, and behind the greatest number. -/
def E74 : Nat := 1074
def T98 : Nat := 2098
/-- A power of two, as a word. -/
def IsPow (y : Nat) (j : Int) : Prop := ∃ b : Nat, b = 2 ^ 52 ∧ Ieee.double.read y = .number false b (j - 52)
/-- The whole part of a finite number. -/
def whole (x : Nat) : Nat := val (rg x) / 2 ^ E74
def swhole (x : Nat) : Int := if sg x = true then -(whole x : Int) else (whole x : Int)
end Go.Proofs.Ythdpiceiemkjlaa.MReal

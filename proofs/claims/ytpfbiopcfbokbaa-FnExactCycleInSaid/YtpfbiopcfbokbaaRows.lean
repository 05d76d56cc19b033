/-
  No cell of these rows narrows 'for every input' (looked for: loops, veiled, ifaces, maps, wideKeys, modest, calm, conditions, laid).
  DERIVED. THE GIVEN ROWS OF THIS SEAT. 7 by the template 'for every input the law returns true; each argument reads behind the call as it read before'; 0 by the template 'total and deterministic' (their statements: YtpfbiopcfbokbaaTotals.lean).
  GIVEN WITH THE SEED: the statements are not yours to turn. If you find one false, say at which input.
  Laid BY PROGRAM, IN A SANDBOX (cutbox-rows.mjs): the forced cells as the released guide's own fill.sh prints them over the translation 360351ac2adf6df5… (all of the seat's roots in one cut). By AI agents, Wed Nov 11 2026. No macro, syntax, notation, axiom, sorry.
-/
import Derived.Test.YtpfbiopcfbokbaaChecked
import GoSem.Claim
import GoSem.ClaimJoined
import GoSem.ClaimMapViews
import Derived.JoinedTies
import Derived.KernelRfl
namespace Go.Proofs.Ytpfbiopcfbokbaa
/- THE CELL 'sum', in the pinned program and in every row, IS THE sha256 OF THE DUMP (.gsa) THAT YtpfbiopcfbokbaaProg.lean LOADS. Nothing in Lean hashes anything: it is a label: what it is worth is what the hold of that sum in a sandbox is worth. -/
noncomputable def Try.pinned : Pinned := { name := "ytpfbiopcfbokbaa", sum := "360351ac2adf6df59a14328fc310667f271fe38022bf5546a5794a4c286add50", checked := Try.checked }
namespace Rows
def none {H : Type} : Left H := { results := [], args := [] }

/-- 'laws.FnExactChangePct': WHATEVER THE INPUT: true; the input reads as it did. -/
def fnExactChangePctSpec : ChangeSpec := { name := "fnExactChangePct", fn := fun _ => fun
  | [d1, d2, d3, d4] => { results := [.lit (.bool true)], args := [d1, d2, d3, d4] }
  | _ => none }
def fnExactChangePctRow : OpenClaim := { program := "ytpfbiopcfbokbaa", sum := "360351ac2adf6df59a14328fc310667f271fe38022bf5546a5794a4c286add50", func := "loop.example/g00696/laws.FnExactChangePct", spec := "fnExactChangePct", inPlace := ["slices.overlaps[int]"], recurses := true, apart := false }
def FnExactChangePctSaid : Prop := fnExactChangePctRow.holds Try.pinned (OpenSpec.ofChange fnExactChangePctSpec)

/-- ITS FALSE NEIGHBOUR: 'it returns false'. Refute it at one input. -/
def fnExactChangePctWrong : ChangeSpec := { name := "fnExactChangePct", fn := fun _ => fun
  | [d1, d2, d3, d4] => { results := [.lit (.bool false)], args := [d1, d2, d3, d4] }
  | _ => none }
def FnExactChangePctWrongFalsely : Prop := fnExactChangePctRow.holds Try.pinned (OpenSpec.ofChange fnExactChangePctWrong)

/-- 'laws.FnExactCycleIn': WHATEVER THE INPUT: true; the input reads as it did. -/
def fnExactCycleInSpec : ChangeSpec := { name := "fnExactCycleIn", fn := fun _ => fun
  | [d] => { results := [.lit (.bool true)], args := [d] }
  | _ => none }
def fnExactCycleInRow : OpenClaim := { program := "ytpfbiopcfbokbaa", sum := "360351ac2adf6df59a14328fc310667f271fe38022bf5546a5794a4c286add50", func := "loop.example/g00696/laws.FnExactCycleIn", spec := "fnExactCycleIn", unfollowed := true, recurses := true, apart := false }
def FnExactCycleInSaid : Prop := fnExactCycleInRow.holds Try.pinned (OpenSpec.ofChange fnExactCycleInSpec)

/-- ITS FALSE NEIGHBOUR: 'it returns false'. Refute it at one input. -/
def fnExactCycleInWrong : ChangeSpec := { name := "fnExactCycleIn", fn := fun _ => fun
  | [d] => { results := [.lit (.bool false)], args := [d] }
  | _ => none }
def FnExactCycleInWrongFalsely : Prop := fnExactCycleInRow.holds Try.pinned (OpenSpec.ofChange fnExactCycleInWrong)

/-- 'laws.FnExactPctAt': WHATEVER THE INPUT: true; the input reads as it did. -/
def fnExactPctAtSpec : ChangeSpec := { name := "fnExactPctAt", fn := fun _ => fun
  | [d1, d2, d3, d4] => { results := [.lit (.bool true)], args := [d1, d2, d3, d4] }
  | _ => none }
def fnExactPctAtRow : OpenClaim := { program := "ytpfbiopcfbokbaa", sum := "360351ac2adf6df59a14328fc310667f271fe38022bf5546a5794a4c286add50", func := "loop.example/g00696/laws.FnExactPctAt", spec := "fnExactPctAt", recurses := true, apart := false }
def FnExactPctAtSaid : Prop := fnExactPctAtRow.holds Try.pinned (OpenSpec.ofChange fnExactPctAtSpec)

/-- ITS FALSE NEIGHBOUR: 'it returns false'. Refute it at one input. -/
def fnExactPctAtWrong : ChangeSpec := { name := "fnExactPctAt", fn := fun _ => fun
  | [d1, d2, d3, d4] => { results := [.lit (.bool false)], args := [d1, d2, d3, d4] }
  | _ => none }
def FnExactPctAtWrongFalsely : Prop := fnExactPctAtRow.holds Try.pinned (OpenSpec.ofChange fnExactPctAtWrong)

/-- 'laws.FnExactNewPairs': WHATEVER THE INPUT: true; the input reads as it did. -/
def fnExactNewPairsSpec : ChangeSpec := { name := "fnExactNewPairs", fn := fun _ => fun
  | [d1, d2] => { results := [.lit (.bool true)], args := [d1, d2] }
  | _ => none }
def fnExactNewPairsRow : OpenClaim := { program := "ytpfbiopcfbokbaa", sum := "360351ac2adf6df59a14328fc310667f271fe38022bf5546a5794a4c286add50", func := "loop.example/g00696/laws.FnExactNewPairs", spec := "fnExactNewPairs", unfollowed := true, recurses := true, apart := false }
def FnExactNewPairsSaid : Prop := fnExactNewPairsRow.holds Try.pinned (OpenSpec.ofChange fnExactNewPairsSpec)

/-- ITS FALSE NEIGHBOUR: 'it returns false'. Refute it at one input. -/
def fnExactNewPairsWrong : ChangeSpec := { name := "fnExactNewPairs", fn := fun _ => fun
  | [d1, d2] => { results := [.lit (.bool false)], args := [d1, d2] }
  | _ => none }
def FnExactNewPairsWrongFalsely : Prop := fnExactNewPairsRow.holds Try.pinned (OpenSpec.ofChange fnExactNewPairsWrong)

/-- 'laws.FnExactAheadIn': WHATEVER THE INPUT: true; the input reads as it did. -/
def fnExactAheadInSpec : ChangeSpec := { name := "fnExactAheadIn", fn := fun _ => fun
  | [d1, d2, d3] => { results := [.lit (.bool true)], args := [d1, d2, d3] }
  | _ => none }
def fnExactAheadInRow : OpenClaim := { program := "ytpfbiopcfbokbaa", sum := "360351ac2adf6df59a14328fc310667f271fe38022bf5546a5794a4c286add50", func := "loop.example/g00696/laws.FnExactAheadIn", spec := "fnExactAheadIn", unfollowed := true, recurses := true, apart := false }
def FnExactAheadInSaid : Prop := fnExactAheadInRow.holds Try.pinned (OpenSpec.ofChange fnExactAheadInSpec)

/-- ITS FALSE NEIGHBOUR: 'it returns false'. Refute it at one input. -/
def fnExactAheadInWrong : ChangeSpec := { name := "fnExactAheadIn", fn := fun _ => fun
  | [d1, d2, d3] => { results := [.lit (.bool false)], args := [d1, d2, d3] }
  | _ => none }
def FnExactAheadInWrongFalsely : Prop := fnExactAheadInRow.holds Try.pinned (OpenSpec.ofChange fnExactAheadInWrong)

/-- 'laws.FnExactHasGap': WHATEVER THE INPUT: true; the input reads as it did. -/
def fnExactHasGapSpec : ChangeSpec := { name := "fnExactHasGap", fn := fun _ => fun
  | [d] => { results := [.lit (.bool true)], args := [d] }
  | _ => none }
def fnExactHasGapRow : OpenClaim := { program := "ytpfbiopcfbokbaa", sum := "360351ac2adf6df59a14328fc310667f271fe38022bf5546a5794a4c286add50", func := "loop.example/g00696/laws.FnExactHasGap", spec := "fnExactHasGap", inPlace := ["math.Float64bits"], unfollowed := true, recurses := true, apart := false }
def FnExactHasGapSaid : Prop := fnExactHasGapRow.holds Try.pinned (OpenSpec.ofChange fnExactHasGapSpec)

/-- ITS FALSE NEIGHBOUR: 'it returns false'. Refute it at one input. -/
def fnExactHasGapWrong : ChangeSpec := { name := "fnExactHasGap", fn := fun _ => fun
  | [d] => { results := [.lit (.bool false)], args := [d] }
  | _ => none }
def FnExactHasGapWrongFalsely : Prop := fnExactHasGapRow.holds Try.pinned (OpenSpec.ofChange fnExactHasGapWrong)

/-- 'laws.FnExactThreadsOf': WHATEVER THE INPUT: true; the input reads as it did. -/
def fnExactThreadsOfSpec : ChangeSpec := { name := "fnExactThreadsOf", fn := fun _ => fun
  | [d] => { results := [.lit (.bool true)], args := [d] }
  | _ => none }
def fnExactThreadsOfRow : OpenClaim := { program := "ytpfbiopcfbokbaa", sum := "360351ac2adf6df59a14328fc310667f271fe38022bf5546a5794a4c286add50", func := "loop.example/g00696/laws.FnExactThreadsOf", spec := "fnExactThreadsOf", apart := false }
def FnExactThreadsOfSaid : Prop := fnExactThreadsOfRow.holds Try.pinned (OpenSpec.ofChange fnExactThreadsOfSpec)

/-- ITS FALSE NEIGHBOUR: 'it returns false'. Refute it at one input. -/
def fnExactThreadsOfWrong : ChangeSpec := { name := "fnExactThreadsOf", fn := fun _ => fun
  | [d] => { results := [.lit (.bool false)], args := [d] }
  | _ => none }
def FnExactThreadsOfWrongFalsely : Prop := fnExactThreadsOfRow.holds Try.pinned (OpenSpec.ofChange fnExactThreadsOfWrong)

/- THE SECOND FORM. 'bulk': how many values and letters a reading holds, each counted each time it is reached (what is shared counts as often as it is met; a slice's spare places count too). A statement '..UptoSaid' is the law's where the arguments, and the package variables that the reading takes, are together of bulk at most 1048576: NARROWER than '..Said'. Prove '..Said' where nothing that the law and all that it calls make is longer than what came in: it says more and counts as full. Else prove '..UptoSaid'. A law counts once. -/
mutual
def uptoBulk {H : Type} : DataW H → Nat
  | .lit (.string bytes) => bytes.length + 1
  | .lit _ => 1
  | .nil => 1
  | .ptr d => uptoBulk d + 1
  | .slice elems spare => uptoBulkAll elems + uptoBulkAll spare + 1
  | .agg parts => uptoBulkAll parts + 1
  | .iface _ d => uptoBulk d + 1
  | .map entries => uptoBulkEntries entries + 1
  | .held _ => 1
def uptoBulkAll {H : Type} : List (DataW H) → Nat
  | [] => 0
  | d :: r => uptoBulk d + uptoBulkAll r
def uptoBulkEntries {H : Type} : List (Lit × DataW H) → Nat
  | [] => 0
  | x :: r => uptoBulkEntry x + uptoBulkEntries r
def uptoBulkEntry {H : Type} : Lit × DataW H → Nat
  | (.string bytes, d) => bytes.length + uptoBulk d + 1
  | (_, d) => uptoBulk d + 1
 end
def uptoSmall : (H : Type) → List (DataW H) → Bool := fun _ ds => decide (uptoBulkAll ds ≤ 1048576)
def OpenSpec.upto (s : _root_.Go.ChangeSpec) : _root_.Go.OpenSpec := { _root_.Go.OpenSpec.ofChange s with cond := some uptoSmall }

/-- 'laws.FnExactChangePct', WHERE WHAT IT READS IS OF BULK AT MOST 1048576: true; the input reads as it did. -/
def fnExactChangePctUptoRow : OpenClaim := { program := "ytpfbiopcfbokbaa", sum := "360351ac2adf6df59a14328fc310667f271fe38022bf5546a5794a4c286add50", func := "loop.example/g00696/laws.FnExactChangePct", spec := "fnExactChangePct", inPlace := ["slices.overlaps[int]"], recurses := true, apart := false, narrowed := true }
def FnExactChangePctUptoSaid : Prop := fnExactChangePctUptoRow.holds Try.pinned (OpenSpec.upto fnExactChangePctSpec)

/-- 'laws.FnExactCycleIn', WHERE WHAT IT READS IS OF BULK AT MOST 1048576: true; the input reads as it did. -/
def fnExactCycleInUptoRow : OpenClaim := { program := "ytpfbiopcfbokbaa", sum := "360351ac2adf6df59a14328fc310667f271fe38022bf5546a5794a4c286add50", func := "loop.example/g00696/laws.FnExactCycleIn", spec := "fnExactCycleIn", unfollowed := true, recurses := true, apart := false, narrowed := true }
def FnExactCycleInUptoSaid : Prop := fnExactCycleInUptoRow.holds Try.pinned (OpenSpec.upto fnExactCycleInSpec)

/-- 'laws.FnExactPctAt', WHERE WHAT IT READS IS OF BULK AT MOST 1048576: true; the input reads as it did. -/
def fnExactPctAtUptoRow : OpenClaim := { program := "ytpfbiopcfbokbaa", sum := "360351ac2adf6df59a14328fc310667f271fe38022bf5546a5794a4c286add50", func := "loop.example/g00696/laws.FnExactPctAt", spec := "fnExactPctAt", recurses := true, apart := false, narrowed := true }
def FnExactPctAtUptoSaid : Prop := fnExactPctAtUptoRow.holds Try.pinned (OpenSpec.upto fnExactPctAtSpec)

/-- 'laws.FnExactNewPairs', WHERE WHAT IT READS IS OF BULK AT MOST 1048576: true; the input reads as it did. -/
def fnExactNewPairsUptoRow : OpenClaim := { program := "ytpfbiopcfbokbaa", sum := "360351ac2adf6df59a14328fc310667f271fe38022bf5546a5794a4c286add50", func := "loop.example/g00696/laws.FnExactNewPairs", spec := "fnExactNewPairs", unfollowed := true, recurses := true, apart := false, narrowed := true }
def FnExactNewPairsUptoSaid : Prop := fnExactNewPairsUptoRow.holds Try.pinned (OpenSpec.upto fnExactNewPairsSpec)

/-- 'laws.FnExactAheadIn', WHERE WHAT IT READS IS OF BULK AT MOST 1048576: true; the input reads as it did. -/
def fnExactAheadInUptoRow : OpenClaim := { program := "ytpfbiopcfbokbaa", sum := "360351ac2adf6df59a14328fc310667f271fe38022bf5546a5794a4c286add50", func := "loop.example/g00696/laws.FnExactAheadIn", spec := "fnExactAheadIn", unfollowed := true, recurses := true, apart := false, narrowed := true }
def FnExactAheadInUptoSaid : Prop := fnExactAheadInUptoRow.holds Try.pinned (OpenSpec.upto fnExactAheadInSpec)

/-- 'laws.FnExactHasGap', WHERE WHAT IT READS IS OF BULK AT MOST 1048576: true; the input reads as it did. -/
def fnExactHasGapUptoRow : OpenClaim := { program := "ytpfbiopcfbokbaa", sum := "360351ac2adf6df59a14328fc310667f271fe38022bf5546a5794a4c286add50", func := "loop.example/g00696/laws.FnExactHasGap", spec := "fnExactHasGap", inPlace := ["math.Float64bits"], unfollowed := true, recurses := true, apart := false, narrowed := true }
def FnExactHasGapUptoSaid : Prop := fnExactHasGapUptoRow.holds Try.pinned (OpenSpec.upto fnExactHasGapSpec)

/-- 'laws.FnExactThreadsOf', WHERE WHAT IT READS IS OF BULK AT MOST 1048576: true; the input reads as it did. -/
def fnExactThreadsOfUptoRow : OpenClaim := { program := "ytpfbiopcfbokbaa", sum := "360351ac2adf6df59a14328fc310667f271fe38022bf5546a5794a4c286add50", func := "loop.example/g00696/laws.FnExactThreadsOf", spec := "fnExactThreadsOf", apart := false, narrowed := true }
def FnExactThreadsOfUptoSaid : Prop := fnExactThreadsOfUptoRow.holds Try.pinned (OpenSpec.upto fnExactThreadsOfSpec)

end Rows
end Go.Proofs.Ytpfbiopcfbokbaa

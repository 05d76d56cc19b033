/-
  No cell of these rows narrows 'for every input' (looked for: loops, veiled, ifaces, maps, wideKeys, modest, calm, conditions, laid).
  DERIVED. THE GIVEN ROWS OF THIS SEAT. 9 by the template 'for every input the law returns true; each argument reads behind the call as it read before'; 0 by the template 'total and deterministic' (their statements: YtahnllomlgillaaTotals.lean).
  GIVEN WITH THE SEED: the statements are not yours to turn. If you find one false, say at which input.
  Laid BY PROGRAM, IN A SANDBOX (cutbox-rows.mjs): the forced cells as the released guide's own fill.sh prints them over the translation 229840753e8a075f… (all of the seat's roots in one cut). By AI agents, Wed Nov 11 2026. No macro, syntax, notation, axiom, sorry.
-/
import Derived.Test.YtahnllomlgillaaChecked
import GoSem.Claim
import GoSem.ClaimJoined
import GoSem.ClaimMapViews
import Derived.JoinedTies
import Derived.KernelRfl
namespace Go.Proofs.Ytahnllomlgillaa
/- THE CELL 'sum', in the pinned program and in every row, IS THE sha256 OF THE DUMP (.gsa) THAT YtahnllomlgillaaProg.lean LOADS. Nothing in Lean hashes anything: it is a label: what it is worth is what the hold of that sum in a sandbox is worth. -/
noncomputable def Try.pinned : Pinned := { name := "ytahnllomlgillaa", sum := "229840753e8a075f0b325c9d9513b685ede313d3b0a59aa0f3d60daef5588ea2", checked := Try.checked }
namespace Rows
def none {H : Type} : Left H := { results := [], args := [] }

/-- 'laws.FnExactIsMinus': WHATEVER THE INPUT: true; the input reads as it did. -/
def fnExactIsMinusSpec : ChangeSpec := { name := "fnExactIsMinus", fn := fun _ => fun
  | [d] => { results := [.lit (.bool true)], args := [d] }
  | _ => none }
def fnExactIsMinusRow : OpenClaim := { program := "ytahnllomlgillaa", sum := "229840753e8a075f0b325c9d9513b685ede313d3b0a59aa0f3d60daef5588ea2", func := "loop.example/g00696/laws.FnExactIsMinus", spec := "fnExactIsMinus", inPlace := ["math.Float64bits"], apart := false }
def FnExactIsMinusSaid : Prop := fnExactIsMinusRow.holds Try.pinned (OpenSpec.ofChange fnExactIsMinusSpec)

/-- ITS FALSE NEIGHBOUR: 'it returns false'. Refute it at one input. -/
def fnExactIsMinusWrong : ChangeSpec := { name := "fnExactIsMinus", fn := fun _ => fun
  | [d] => { results := [.lit (.bool false)], args := [d] }
  | _ => none }
def FnExactIsMinusWrongFalsely : Prop := fnExactIsMinusRow.holds Try.pinned (OpenSpec.ofChange fnExactIsMinusWrong)

/-- 'laws.FnExactSameNum': WHATEVER THE INPUT: true; the input reads as it did. -/
def fnExactSameNumSpec : ChangeSpec := { name := "fnExactSameNum", fn := fun _ => fun
  | [d1, d2] => { results := [.lit (.bool true)], args := [d1, d2] }
  | _ => none }
def fnExactSameNumRow : OpenClaim := { program := "ytahnllomlgillaa", sum := "229840753e8a075f0b325c9d9513b685ede313d3b0a59aa0f3d60daef5588ea2", func := "loop.example/g00696/laws.FnExactSameNum", spec := "fnExactSameNum", inPlace := ["math.Float64bits"], apart := false }
def FnExactSameNumSaid : Prop := fnExactSameNumRow.holds Try.pinned (OpenSpec.ofChange fnExactSameNumSpec)

/-- ITS FALSE NEIGHBOUR: 'it returns false'. Refute it at one input. -/
def fnExactSameNumWrong : ChangeSpec := { name := "fnExactSameNum", fn := fun _ => fun
  | [d1, d2] => { results := [.lit (.bool false)], args := [d1, d2] }
  | _ => none }
def FnExactSameNumWrongFalsely : Prop := fnExactSameNumRow.holds Try.pinned (OpenSpec.ofChange fnExactSameNumWrong)

/-- 'laws.FnExactToIndex': WHATEVER THE INPUT: true; the input reads as it did. -/
def fnExactToIndexSpec : ChangeSpec := { name := "fnExactToIndex", fn := fun _ => fun
  | [d1, d2] => { results := [.lit (.bool true)], args := [d1, d2] }
  | _ => none }
def fnExactToIndexRow : OpenClaim := { program := "ytahnllomlgillaa", sum := "229840753e8a075f0b325c9d9513b685ede313d3b0a59aa0f3d60daef5588ea2", func := "loop.example/g00696/laws.FnExactToIndex", spec := "fnExactToIndex", inPlace := ["math.Float64bits", "math.Float64frombits", "math.archTrunc"], apart := false }
def FnExactToIndexSaid : Prop := fnExactToIndexRow.holds Try.pinned (OpenSpec.ofChange fnExactToIndexSpec)

/-- ITS FALSE NEIGHBOUR: 'it returns false'. Refute it at one input. -/
def fnExactToIndexWrong : ChangeSpec := { name := "fnExactToIndex", fn := fun _ => fun
  | [d1, d2] => { results := [.lit (.bool false)], args := [d1, d2] }
  | _ => none }
def FnExactToIndexWrongFalsely : Prop := fnExactToIndexRow.holds Try.pinned (OpenSpec.ofChange fnExactToIndexWrong)

/-- 'laws.FnExactKindOf': WHATEVER THE INPUT: true; the input reads as it did. -/
def fnExactKindOfSpec : ChangeSpec := { name := "fnExactKindOf", fn := fun _ => fun
  | [d] => { results := [.lit (.bool true)], args := [d] }
  | _ => none }
def fnExactKindOfRow : OpenClaim := { program := "ytahnllomlgillaa", sum := "229840753e8a075f0b325c9d9513b685ede313d3b0a59aa0f3d60daef5588ea2", func := "loop.example/g00696/laws.FnExactKindOf", spec := "fnExactKindOf", inPlace := ["math.Float64bits", "math.Float64frombits", "math.archTrunc"], apart := false }
def FnExactKindOfSaid : Prop := fnExactKindOfRow.holds Try.pinned (OpenSpec.ofChange fnExactKindOfSpec)

/-- ITS FALSE NEIGHBOUR: 'it returns false'. Refute it at one input. -/
def fnExactKindOfWrong : ChangeSpec := { name := "fnExactKindOf", fn := fun _ => fun
  | [d] => { results := [.lit (.bool false)], args := [d] }
  | _ => none }
def FnExactKindOfWrongFalsely : Prop := fnExactKindOfRow.holds Try.pinned (OpenSpec.ofChange fnExactKindOfWrong)

/-- 'laws.FnExactCompareNum': WHATEVER THE INPUT: true; the input reads as it did. -/
def fnExactCompareNumSpec : ChangeSpec := { name := "fnExactCompareNum", fn := fun _ => fun
  | [d1, d2] => { results := [.lit (.bool true)], args := [d1, d2] }
  | _ => none }
def fnExactCompareNumRow : OpenClaim := { program := "ytahnllomlgillaa", sum := "229840753e8a075f0b325c9d9513b685ede313d3b0a59aa0f3d60daef5588ea2", func := "loop.example/g00696/laws.FnExactCompareNum", spec := "fnExactCompareNum", inPlace := ["math.Float64bits", "math.Float64frombits", "math.archTrunc"], apart := false }
def FnExactCompareNumSaid : Prop := fnExactCompareNumRow.holds Try.pinned (OpenSpec.ofChange fnExactCompareNumSpec)

/-- ITS FALSE NEIGHBOUR: 'it returns false'. Refute it at one input. -/
def fnExactCompareNumWrong : ChangeSpec := { name := "fnExactCompareNum", fn := fun _ => fun
  | [d1, d2] => { results := [.lit (.bool false)], args := [d1, d2] }
  | _ => none }
def FnExactCompareNumWrongFalsely : Prop := fnExactCompareNumRow.holds Try.pinned (OpenSpec.ofChange fnExactCompareNumWrong)

/-- 'laws.FnExactLeastNum': WHATEVER THE INPUT: true; the input reads as it did. -/
def fnExactLeastNumSpec : ChangeSpec := { name := "fnExactLeastNum", fn := fun _ => fun
  | [d1, d2] => { results := [.lit (.bool true)], args := [d1, d2] }
  | _ => none }
def fnExactLeastNumRow : OpenClaim := { program := "ytahnllomlgillaa", sum := "229840753e8a075f0b325c9d9513b685ede313d3b0a59aa0f3d60daef5588ea2", func := "loop.example/g00696/laws.FnExactLeastNum", spec := "fnExactLeastNum", inPlace := ["math.Float64bits", "math.Float64frombits", "math.archTrunc"], apart := false }
def FnExactLeastNumSaid : Prop := fnExactLeastNumRow.holds Try.pinned (OpenSpec.ofChange fnExactLeastNumSpec)

/-- ITS FALSE NEIGHBOUR: 'it returns false'. Refute it at one input. -/
def fnExactLeastNumWrong : ChangeSpec := { name := "fnExactLeastNum", fn := fun _ => fun
  | [d1, d2] => { results := [.lit (.bool false)], args := [d1, d2] }
  | _ => none }
def FnExactLeastNumWrongFalsely : Prop := fnExactLeastNumRow.holds Try.pinned (OpenSpec.ofChange fnExactLeastNumWrong)

/-- 'laws.FnExactPartsOf': WHATEVER THE INPUT: true; the input reads as it did. -/
def fnExactPartsOfSpec : ChangeSpec := { name := "fnExactPartsOf", fn := fun _ => fun
  | [d] => { results := [.lit (.bool true)], args := [d] }
  | _ => none }
def fnExactPartsOfRow : OpenClaim := { program := "ytahnllomlgillaa", sum := "229840753e8a075f0b325c9d9513b685ede313d3b0a59aa0f3d60daef5588ea2", func := "loop.example/g00696/laws.FnExactPartsOf", spec := "fnExactPartsOf", inPlace := ["math.Float64bits", "math.Float64frombits", "math.archTrunc"], apart := false }
def FnExactPartsOfSaid : Prop := fnExactPartsOfRow.holds Try.pinned (OpenSpec.ofChange fnExactPartsOfSpec)

/-- ITS FALSE NEIGHBOUR: 'it returns false'. Refute it at one input. -/
def fnExactPartsOfWrong : ChangeSpec := { name := "fnExactPartsOf", fn := fun _ => fun
  | [d] => { results := [.lit (.bool false)], args := [d] }
  | _ => none }
def FnExactPartsOfWrongFalsely : Prop := fnExactPartsOfRow.holds Try.pinned (OpenSpec.ofChange fnExactPartsOfWrong)

/-- 'laws.FnExactNumOf': WHATEVER THE INPUT: true; the input reads as it did. -/
def fnExactNumOfSpec : ChangeSpec := { name := "fnExactNumOf", fn := fun _ => fun
  | [d1, d2] => { results := [.lit (.bool true)], args := [d1, d2] }
  | _ => none }
def fnExactNumOfRow : OpenClaim := { program := "ytahnllomlgillaa", sum := "229840753e8a075f0b325c9d9513b685ede313d3b0a59aa0f3d60daef5588ea2", func := "loop.example/g00696/laws.FnExactNumOf", spec := "fnExactNumOf", inPlace := ["math.Float64bits", "math.Float64frombits", "math.archTrunc"], apart := false }
def FnExactNumOfSaid : Prop := fnExactNumOfRow.holds Try.pinned (OpenSpec.ofChange fnExactNumOfSpec)

/-- ITS FALSE NEIGHBOUR: 'it returns false'. Refute it at one input. -/
def fnExactNumOfWrong : ChangeSpec := { name := "fnExactNumOf", fn := fun _ => fun
  | [d1, d2] => { results := [.lit (.bool false)], args := [d1, d2] }
  | _ => none }
def FnExactNumOfWrongFalsely : Prop := fnExactNumOfRow.holds Try.pinned (OpenSpec.ofChange fnExactNumOfWrong)

/-- 'laws.FnNumbers': WHATEVER THE INPUT: true; the input reads as it did. -/
def fnNumbersSpec : ChangeSpec := { name := "fnNumbers", fn := fun _ => fun
  | [d1, d2] => { results := [.lit (.bool true)], args := [d1, d2] }
  | _ => none }
def fnNumbersRow : OpenClaim := { program := "ytahnllomlgillaa", sum := "229840753e8a075f0b325c9d9513b685ede313d3b0a59aa0f3d60daef5588ea2", func := "loop.example/g00696/laws.FnNumbers", spec := "fnNumbers", inPlace := ["math.Float64bits", "math.Float64frombits", "math.archTrunc"], apart := false }
def FnNumbersSaid : Prop := fnNumbersRow.holds Try.pinned (OpenSpec.ofChange fnNumbersSpec)

/-- ITS FALSE NEIGHBOUR: 'it returns false'. Refute it at one input. -/
def fnNumbersWrong : ChangeSpec := { name := "fnNumbers", fn := fun _ => fun
  | [d1, d2] => { results := [.lit (.bool false)], args := [d1, d2] }
  | _ => none }
def FnNumbersWrongFalsely : Prop := fnNumbersRow.holds Try.pinned (OpenSpec.ofChange fnNumbersWrong)

/- THE SECOND FORM. 'bulk': how many values and letters a reading holds, each counted each time it is reached (what is shared counts as often as it is met; a slice's spare places count too). A statement '..UptoSaid' is the law's where the arguments, and the package variables that the reading takes, are together of bulk at most 1048576: NARROWER than '..Said'. Prove '..Said' where nothing that the law and all that it calls make is longer than what came in: it says more and counts as full. Else prove '..UptoSaid'. A law counts once. -/
mutual
def uptoBulk {H : Type} : DataW H → Nat
  | .lit (.string bytes) => bytes.length + 1
  | .lit _ => 1
  | .nil => 1
  | .ptr d => uptoBulk d + 1
  | .slice elems spare => uptoBulkAll elems + uptoBulkAll spare + 1
  | .agg parts => uptoBulkAll parts + 1
  | .iface _ d => uptoBulk d + 1
  | .map entries => uptoBulkEntries entries + 1
  | .held _ => 1
def uptoBulkAll {H : Type} : List (DataW H) → Nat
  | [] => 0
  | d :: r => uptoBulk d + uptoBulkAll r
def uptoBulkEntries {H : Type} : List (Lit × DataW H) → Nat
  | [] => 0
  | x :: r => uptoBulkEntry x + uptoBulkEntries r
def uptoBulkEntry {H : Type} : Lit × DataW H → Nat
  | (.string bytes, d) => bytes.length + uptoBulk d + 1
  | (_, d) => uptoBulk d + 1
 end
def uptoSmall : (H : Type) → List (DataW H) → Bool := fun _ ds => decide (uptoBulkAll ds ≤ 1048576)
def OpenSpec.upto (s : _root_.Go.ChangeSpec) : _root_.Go.OpenSpec := { _root_.Go.OpenSpec.ofChange s with cond := some uptoSmall }

/-- 'laws.FnExactIsMinus', WHERE WHAT IT READS IS OF BULK AT MOST 1048576: true; the input reads as it did. -/
def fnExactIsMinusUptoRow : OpenClaim := { program := "ytahnllomlgillaa", sum := "229840753e8a075f0b325c9d9513b685ede313d3b0a59aa0f3d60daef5588ea2", func := "loop.example/g00696/laws.FnExactIsMinus", spec := "fnExactIsMinus", inPlace := ["math.Float64bits"], apart := false, narrowed := true }
def FnExactIsMinusUptoSaid : Prop := fnExactIsMinusUptoRow.holds Try.pinned (OpenSpec.upto fnExactIsMinusSpec)

/-- 'laws.FnExactSameNum', WHERE WHAT IT READS IS OF BULK AT MOST 1048576: true; the input reads as it did. -/
def fnExactSameNumUptoRow : OpenClaim := { program := "ytahnllomlgillaa", sum := "229840753e8a075f0b325c9d9513b685ede313d3b0a59aa0f3d60daef5588ea2", func := "loop.example/g00696/laws.FnExactSameNum", spec := "fnExactSameNum", inPlace := ["math.Float64bits"], apart := false, narrowed := true }
def FnExactSameNumUptoSaid : Prop := fnExactSameNumUptoRow.holds Try.pinned (OpenSpec.upto fnExactSameNumSpec)

/-- 'laws.FnExactToIndex', WHERE WHAT IT READS IS OF BULK AT MOST 1048576: true; the input reads as it did. -/
def fnExactToIndexUptoRow : OpenClaim := { program := "ytahnllomlgillaa", sum := "229840753e8a075f0b325c9d9513b685ede313d3b0a59aa0f3d60daef5588ea2", func := "loop.example/g00696/laws.FnExactToIndex", spec := "fnExactToIndex", inPlace := ["math.Float64bits", "math.Float64frombits", "math.archTrunc"], apart := false, narrowed := true }
def FnExactToIndexUptoSaid : Prop := fnExactToIndexUptoRow.holds Try.pinned (OpenSpec.upto fnExactToIndexSpec)

/-- 'laws.FnExactKindOf', WHERE WHAT IT READS IS OF BULK AT MOST 1048576: true; the input reads as it did. -/
def fnExactKindOfUptoRow : OpenClaim := { program := "ytahnllomlgillaa", sum := "229840753e8a075f0b325c9d9513b685ede313d3b0a59aa0f3d60daef5588ea2", func := "loop.example/g00696/laws.FnExactKindOf", spec := "fnExactKindOf", inPlace := ["math.Float64bits", "math.Float64frombits", "math.archTrunc"], apart := false, narrowed := true }
def FnExactKindOfUptoSaid : Prop := fnExactKindOfUptoRow.holds Try.pinned (OpenSpec.upto fnExactKindOfSpec)

/-- 'laws.FnExactCompareNum', WHERE WHAT IT READS IS OF BULK AT MOST 1048576: true; the input reads as it did. -/
def fnExactCompareNumUptoRow : OpenClaim := { program := "ytahnllomlgillaa", sum := "229840753e8a075f0b325c9d9513b685ede313d3b0a59aa0f3d60daef5588ea2", func := "loop.example/g00696/laws.FnExactCompareNum", spec := "fnExactCompareNum", inPlace := ["math.Float64bits", "math.Float64frombits", "math.archTrunc"], apart := false, narrowed := true }
def FnExactCompareNumUptoSaid : Prop := fnExactCompareNumUptoRow.holds Try.pinned (OpenSpec.upto fnExactCompareNumSpec)

/-- 'laws.FnExactLeastNum', WHERE WHAT IT READS IS OF BULK AT MOST 1048576: true; the input reads as it did. -/
def fnExactLeastNumUptoRow : OpenClaim := { program := "ytahnllomlgillaa", sum := "229840753e8a075f0b325c9d9513b685ede313d3b0a59aa0f3d60daef5588ea2", func := "loop.example/g00696/laws.FnExactLeastNum", spec := "fnExactLeastNum", inPlace := ["math.Float64bits", "math.Float64frombits", "math.archTrunc"], apart := false, narrowed := true }
def FnExactLeastNumUptoSaid : Prop := fnExactLeastNumUptoRow.holds Try.pinned (OpenSpec.upto fnExactLeastNumSpec)

/-- 'laws.FnExactPartsOf', WHERE WHAT IT READS IS OF BULK AT MOST 1048576: true; the input reads as it did. -/
def fnExactPartsOfUptoRow : OpenClaim := { program := "ytahnllomlgillaa", sum := "229840753e8a075f0b325c9d9513b685ede313d3b0a59aa0f3d60daef5588ea2", func := "loop.example/g00696/laws.FnExactPartsOf", spec := "fnExactPartsOf", inPlace := ["math.Float64bits", "math.Float64frombits", "math.archTrunc"], apart := false, narrowed := true }
def FnExactPartsOfUptoSaid : Prop := fnExactPartsOfUptoRow.holds Try.pinned (OpenSpec.upto fnExactPartsOfSpec)

/-- 'laws.FnExactNumOf', WHERE WHAT IT READS IS OF BULK AT MOST 1048576: true; the input reads as it did. -/
def fnExactNumOfUptoRow : OpenClaim := { program := "ytahnllomlgillaa", sum := "229840753e8a075f0b325c9d9513b685ede313d3b0a59aa0f3d60daef5588ea2", func := "loop.example/g00696/laws.FnExactNumOf", spec := "fnExactNumOf", inPlace := ["math.Float64bits", "math.Float64frombits", "math.archTrunc"], apart := false, narrowed := true }
def FnExactNumOfUptoSaid : Prop := fnExactNumOfUptoRow.holds Try.pinned (OpenSpec.upto fnExactNumOfSpec)

/-- 'laws.FnNumbers', WHERE WHAT IT READS IS OF BULK AT MOST 1048576: true; the input reads as it did. -/
def fnNumbersUptoRow : OpenClaim := { program := "ytahnllomlgillaa", sum := "229840753e8a075f0b325c9d9513b685ede313d3b0a59aa0f3d60daef5588ea2", func := "loop.example/g00696/laws.FnNumbers", spec := "fnNumbers", inPlace := ["math.Float64bits", "math.Float64frombits", "math.archTrunc"], apart := false, narrowed := true }
def FnNumbersUptoSaid : Prop := fnNumbersUptoRow.holds Try.pinned (OpenSpec.upto fnNumbersSpec)

end Rows
end Go.Proofs.Ytahnllomlgillaa

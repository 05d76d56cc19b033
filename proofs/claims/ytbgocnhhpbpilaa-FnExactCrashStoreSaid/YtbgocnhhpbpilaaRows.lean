/-
  No cell of these rows narrows 'for every input' (looked for: loops, veiled, ifaces, maps, wideKeys, modest, calm, conditions, laid).
  DERIVED. THE GIVEN ROWS OF THIS SEAT. 11 by the template 'for every input the law returns true; each argument reads behind the call as it read before'; 0 by the template 'total and deterministic' (their statements: YtbgocnhhpbpilaaTotals.lean).
  GIVEN WITH THE SEED: the statements are not yours to turn. If you find one false, say at which input.
  Laid BY PROGRAM, IN A SANDBOX (cutbox-rows.mjs): the forced cells as the released guide's own fill.sh prints them over the translation 12667f679656febc… (all of the seat's roots in one cut). By AI agents, Wed Nov 11 2026. No macro, syntax, notation, axiom, sorry.
-/
import Derived.Test.YtbgocnhhpbpilaaChecked
import GoSem.Claim
import GoSem.ClaimJoined
import GoSem.ClaimMapViews
import Derived.JoinedTies
import Derived.KernelRfl
namespace Go.Proofs.Ytbgocnhhpbpilaa
/- THE CELL 'sum', in the pinned program and in every row, IS THE sha256 OF THE DUMP (.gsa) THAT YtbgocnhhpbpilaaProg.lean LOADS. Nothing in Lean hashes anything: it is a label: what it is worth is what the hold of that sum in a sandbox is worth. -/
noncomputable def Try.pinned : Pinned := { name := "ytbgocnhhpbpilaa", sum := "12667f679656febc342c766eb51a172a54dbb707bcb4b9b9657094c1eea93d68", checked := Try.checked }
namespace Rows
def none {H : Type} : Left H := { results := [], args := [] }

/-- 'laws.FnExactConstants': WHATEVER THE INPUT: true; the input reads as it did. -/
def fnExactConstantsSpec : ChangeSpec := { name := "fnExactConstants", fn := fun _ => fun
  | [] => { results := [.lit (.bool true)], args := [] }
  | _ => none }
def fnExactConstantsRow : OpenClaim := { program := "ytbgocnhhpbpilaa", sum := "12667f679656febc342c766eb51a172a54dbb707bcb4b9b9657094c1eea93d68", func := "loop.example/g00696/laws.FnExactConstants", spec := "fnExactConstants", apart := false }
def FnExactConstantsSaid : Prop := fnExactConstantsRow.holds Try.pinned (OpenSpec.ofChange fnExactConstantsSpec)

/-- ITS FALSE NEIGHBOUR: 'it returns false'. Refute it at one input. -/
def fnExactConstantsWrong : ChangeSpec := { name := "fnExactConstants", fn := fun _ => fun
  | [] => { results := [.lit (.bool false)], args := [] }
  | _ => none }
def FnExactConstantsWrongFalsely : Prop := fnExactConstantsRow.holds Try.pinned (OpenSpec.ofChange fnExactConstantsWrong)

/-- 'laws.FnExactIsMinus': WHATEVER THE INPUT: true; the input reads as it did. -/
def fnExactIsMinusSpec : ChangeSpec := { name := "fnExactIsMinus", fn := fun _ => fun
  | [d] => { results := [.lit (.bool true)], args := [d] }
  | _ => none }
def fnExactIsMinusRow : OpenClaim := { program := "ytbgocnhhpbpilaa", sum := "12667f679656febc342c766eb51a172a54dbb707bcb4b9b9657094c1eea93d68", func := "loop.example/g00696/laws.FnExactIsMinus", spec := "fnExactIsMinus", inPlace := ["math.Float64bits"], apart := false }
def FnExactIsMinusSaid : Prop := fnExactIsMinusRow.holds Try.pinned (OpenSpec.ofChange fnExactIsMinusSpec)

/-- ITS FALSE NEIGHBOUR: 'it returns false'. Refute it at one input. -/
def fnExactIsMinusWrong : ChangeSpec := { name := "fnExactIsMinus", fn := fun _ => fun
  | [d] => { results := [.lit (.bool false)], args := [d] }
  | _ => none }
def FnExactIsMinusWrongFalsely : Prop := fnExactIsMinusRow.holds Try.pinned (OpenSpec.ofChange fnExactIsMinusWrong)

/-- 'laws.FnExactSameNum': WHATEVER THE INPUT: true; the input reads as it did. -/
def fnExactSameNumSpec : ChangeSpec := { name := "fnExactSameNum", fn := fun _ => fun
  | [d1, d2] => { results := [.lit (.bool true)], args := [d1, d2] }
  | _ => none }
def fnExactSameNumRow : OpenClaim := { program := "ytbgocnhhpbpilaa", sum := "12667f679656febc342c766eb51a172a54dbb707bcb4b9b9657094c1eea93d68", func := "loop.example/g00696/laws.FnExactSameNum", spec := "fnExactSameNum", inPlace := ["math.Float64bits"], apart := false }
def FnExactSameNumSaid : Prop := fnExactSameNumRow.holds Try.pinned (OpenSpec.ofChange fnExactSameNumSpec)

/-- ITS FALSE NEIGHBOUR: 'it returns false'. Refute it at one input. -/
def fnExactSameNumWrong : ChangeSpec := { name := "fnExactSameNum", fn := fun _ => fun
  | [d1, d2] => { results := [.lit (.bool false)], args := [d1, d2] }
  | _ => none }
def FnExactSameNumWrongFalsely : Prop := fnExactSameNumRow.holds Try.pinned (OpenSpec.ofChange fnExactSameNumWrong)

/-- 'laws.FnExactFrameOf': WHATEVER THE INPUT: true; the input reads as it did. -/
def fnExactFrameOfSpec : ChangeSpec := { name := "fnExactFrameOf", fn := fun _ => fun
  | [d1, d2] => { results := [.lit (.bool true)], args := [d1, d2] }
  | _ => none }
def fnExactFrameOfRow : OpenClaim := { program := "ytbgocnhhpbpilaa", sum := "12667f679656febc342c766eb51a172a54dbb707bcb4b9b9657094c1eea93d68", func := "loop.example/g00696/laws.FnExactFrameOf", spec := "fnExactFrameOf", apart := false }
def FnExactFrameOfSaid : Prop := fnExactFrameOfRow.holds Try.pinned (OpenSpec.ofChange fnExactFrameOfSpec)

/-- ITS FALSE NEIGHBOUR: 'it returns false'. Refute it at one input. -/
def fnExactFrameOfWrong : ChangeSpec := { name := "fnExactFrameOf", fn := fun _ => fun
  | [d1, d2] => { results := [.lit (.bool false)], args := [d1, d2] }
  | _ => none }
def FnExactFrameOfWrongFalsely : Prop := fnExactFrameOfRow.holds Try.pinned (OpenSpec.ofChange fnExactFrameOfWrong)

/-- 'laws.FnExactSyncStore': WHATEVER THE INPUT: true; the input reads as it did. -/
def fnExactSyncStoreSpec : ChangeSpec := { name := "fnExactSyncStore", fn := fun _ => fun
  | [d] => { results := [.lit (.bool true)], args := [d] }
  | _ => none }
def fnExactSyncStoreRow : OpenClaim := { program := "ytbgocnhhpbpilaa", sum := "12667f679656febc342c766eb51a172a54dbb707bcb4b9b9657094c1eea93d68", func := "loop.example/g00696/laws.FnExactSyncStore", spec := "fnExactSyncStore", apart := false }
def FnExactSyncStoreSaid : Prop := fnExactSyncStoreRow.holds Try.pinned (OpenSpec.ofChange fnExactSyncStoreSpec)

/-- ITS FALSE NEIGHBOUR: 'it returns false'. Refute it at one input. -/
def fnExactSyncStoreWrong : ChangeSpec := { name := "fnExactSyncStore", fn := fun _ => fun
  | [d] => { results := [.lit (.bool false)], args := [d] }
  | _ => none }
def FnExactSyncStoreWrongFalsely : Prop := fnExactSyncStoreRow.holds Try.pinned (OpenSpec.ofChange fnExactSyncStoreWrong)

/-- 'laws.FnExactCrashStore': WHATEVER THE INPUT: true; the input reads as it did. -/
def fnExactCrashStoreSpec : ChangeSpec := { name := "fnExactCrashStore", fn := fun _ => fun
  | [d1, d2] => { results := [.lit (.bool true)], args := [d1, d2] }
  | _ => none }
def fnExactCrashStoreRow : OpenClaim := { program := "ytbgocnhhpbpilaa", sum := "12667f679656febc342c766eb51a172a54dbb707bcb4b9b9657094c1eea93d68", func := "loop.example/g00696/laws.FnExactCrashStore", spec := "fnExactCrashStore", apart := false }
def FnExactCrashStoreSaid : Prop := fnExactCrashStoreRow.holds Try.pinned (OpenSpec.ofChange fnExactCrashStoreSpec)

/-- ITS FALSE NEIGHBOUR: 'it returns false'. Refute it at one input. -/
def fnExactCrashStoreWrong : ChangeSpec := { name := "fnExactCrashStore", fn := fun _ => fun
  | [d1, d2] => { results := [.lit (.bool false)], args := [d1, d2] }
  | _ => none }
def FnExactCrashStoreWrongFalsely : Prop := fnExactCrashStoreRow.holds Try.pinned (OpenSpec.ofChange fnExactCrashStoreWrong)

/-- 'laws.FnExactSwitchesOf': WHATEVER THE INPUT: true; the input reads as it did. -/
def fnExactSwitchesOfSpec : ChangeSpec := { name := "fnExactSwitchesOf", fn := fun _ => fun
  | [d] => { results := [.lit (.bool true)], args := [d] }
  | _ => none }
def fnExactSwitchesOfRow : OpenClaim := { program := "ytbgocnhhpbpilaa", sum := "12667f679656febc342c766eb51a172a54dbb707bcb4b9b9657094c1eea93d68", func := "loop.example/g00696/laws.FnExactSwitchesOf", spec := "fnExactSwitchesOf", apart := false }
def FnExactSwitchesOfSaid : Prop := fnExactSwitchesOfRow.holds Try.pinned (OpenSpec.ofChange fnExactSwitchesOfSpec)

/-- ITS FALSE NEIGHBOUR: 'it returns false'. Refute it at one input. -/
def fnExactSwitchesOfWrong : ChangeSpec := { name := "fnExactSwitchesOf", fn := fun _ => fun
  | [d] => { results := [.lit (.bool false)], args := [d] }
  | _ => none }
def FnExactSwitchesOfWrongFalsely : Prop := fnExactSwitchesOfRow.holds Try.pinned (OpenSpec.ofChange fnExactSwitchesOfWrong)

/-- 'laws.FnExactClockLess': WHATEVER THE INPUT: true; the input reads as it did. -/
def fnExactClockLessSpec : ChangeSpec := { name := "fnExactClockLess", fn := fun _ => fun
  | [d1, d2] => { results := [.lit (.bool true)], args := [d1, d2] }
  | _ => none }
def fnExactClockLessRow : OpenClaim := { program := "ytbgocnhhpbpilaa", sum := "12667f679656febc342c766eb51a172a54dbb707bcb4b9b9657094c1eea93d68", func := "loop.example/g00696/laws.FnExactClockLess", spec := "fnExactClockLess", apart := false }
def FnExactClockLessSaid : Prop := fnExactClockLessRow.holds Try.pinned (OpenSpec.ofChange fnExactClockLessSpec)

/-- ITS FALSE NEIGHBOUR: 'it returns false'. Refute it at one input. -/
def fnExactClockLessWrong : ChangeSpec := { name := "fnExactClockLess", fn := fun _ => fun
  | [d1, d2] => { results := [.lit (.bool false)], args := [d1, d2] }
  | _ => none }
def FnExactClockLessWrongFalsely : Prop := fnExactClockLessRow.holds Try.pinned (OpenSpec.ofChange fnExactClockLessWrong)

/-- 'laws.FnExactCountPct': WHATEVER THE INPUT: true; the input reads as it did. -/
def fnExactCountPctSpec : ChangeSpec := { name := "fnExactCountPct", fn := fun _ => fun
  | [d1, d2, d3] => { results := [.lit (.bool true)], args := [d1, d2, d3] }
  | _ => none }
def fnExactCountPctRow : OpenClaim := { program := "ytbgocnhhpbpilaa", sum := "12667f679656febc342c766eb51a172a54dbb707bcb4b9b9657094c1eea93d68", func := "loop.example/g00696/laws.FnExactCountPct", spec := "fnExactCountPct", recurses := true, apart := false }
def FnExactCountPctSaid : Prop := fnExactCountPctRow.holds Try.pinned (OpenSpec.ofChange fnExactCountPctSpec)

/-- ITS FALSE NEIGHBOUR: 'it returns false'. Refute it at one input. -/
def fnExactCountPctWrong : ChangeSpec := { name := "fnExactCountPct", fn := fun _ => fun
  | [d1, d2, d3] => { results := [.lit (.bool false)], args := [d1, d2, d3] }
  | _ => none }
def FnExactCountPctWrongFalsely : Prop := fnExactCountPctRow.holds Try.pinned (OpenSpec.ofChange fnExactCountPctWrong)

/-- 'laws.FnExactToIndex': WHATEVER THE INPUT: true; the input reads as it did. -/
def fnExactToIndexSpec : ChangeSpec := { name := "fnExactToIndex", fn := fun _ => fun
  | [d1, d2] => { results := [.lit (.bool true)], args := [d1, d2] }
  | _ => none }
def fnExactToIndexRow : OpenClaim := { program := "ytbgocnhhpbpilaa", sum := "12667f679656febc342c766eb51a172a54dbb707bcb4b9b9657094c1eea93d68", func := "loop.example/g00696/laws.FnExactToIndex", spec := "fnExactToIndex", inPlace := ["math.Float64bits", "math.Float64frombits", "math.archTrunc"], apart := false }
def FnExactToIndexSaid : Prop := fnExactToIndexRow.holds Try.pinned (OpenSpec.ofChange fnExactToIndexSpec)

/-- ITS FALSE NEIGHBOUR: 'it returns false'. Refute it at one input. -/
def fnExactToIndexWrong : ChangeSpec := { name := "fnExactToIndex", fn := fun _ => fun
  | [d1, d2] => { results := [.lit (.bool false)], args := [d1, d2] }
  | _ => none }
def FnExactToIndexWrongFalsely : Prop := fnExactToIndexRow.holds Try.pinned (OpenSpec.ofChange fnExactToIndexWrong)

/-- 'laws.FnExactJoinCuts': WHATEVER THE INPUT: true; the input reads as it did. -/
def fnExactJoinCutsSpec : ChangeSpec := { name := "fnExactJoinCuts", fn := fun _ => fun
  | [d1, d2] => { results := [.lit (.bool true)], args := [d1, d2] }
  | _ => none }
def fnExactJoinCutsRow : OpenClaim := { program := "ytbgocnhhpbpilaa", sum := "12667f679656febc342c766eb51a172a54dbb707bcb4b9b9657094c1eea93d68", func := "loop.example/g00696/laws.FnExactJoinCuts", spec := "fnExactJoinCuts", unfollowed := true, recurses := true, apart := false }
def FnExactJoinCutsSaid : Prop := fnExactJoinCutsRow.holds Try.pinned (OpenSpec.ofChange fnExactJoinCutsSpec)

/-- ITS FALSE NEIGHBOUR: 'it returns false'. Refute it at one input. -/
def fnExactJoinCutsWrong : ChangeSpec := { name := "fnExactJoinCuts", fn := fun _ => fun
  | [d1, d2] => { results := [.lit (.bool false)], args := [d1, d2] }
  | _ => none }
def FnExactJoinCutsWrongFalsely : Prop := fnExactJoinCutsRow.holds Try.pinned (OpenSpec.ofChange fnExactJoinCutsWrong)

/- THE SECOND FORM. 'bulk': how many values and letters a reading holds, each counted each time it is reached (what is shared counts as often as it is met; a slice's spare places count too). A statement '..UptoSaid' is the law's where the arguments, and the package variables that the reading takes, are together of bulk at most 1048576: NARROWER than '..Said'. Prove '..Said' where nothing that the law and all that it calls make is longer than what came in: it says more and counts as full. Else prove '..UptoSaid'. A law counts once. -/
mutual
def uptoBulk {H : Type} : DataW H → Nat
  | .lit (.string bytes) => bytes.length + 1
  | .lit _ => 1
  | .nil => 1
  | .ptr d => uptoBulk d + 1
  | .slice elems spare => uptoBulkAll elems + uptoBulkAll spare + 1
  | .agg parts => uptoBulkAll parts + 1
  | .iface _ d => uptoBulk d + 1
  | .map entries => uptoBulkEntries entries + 1
  | .held _ => 1
def uptoBulkAll {H : Type} : List (DataW H) → Nat
  | [] => 0
  | d :: r => uptoBulk d + uptoBulkAll r
def uptoBulkEntries {H : Type} : List (Lit × DataW H) → Nat
  | [] => 0
  | x :: r => uptoBulkEntry x + uptoBulkEntries r
def uptoBulkEntry {H : Type} : Lit × DataW H → Nat
  | (.string bytes, d) => bytes.length + uptoBulk d + 1
  | (_, d) => uptoBulk d + 1
 end
def uptoSmall : (H : Type) → List (DataW H) → Bool := fun _ ds => decide (uptoBulkAll ds ≤ 1048576)
def OpenSpec.upto (s : _root_.Go.ChangeSpec) : _root_.Go.OpenSpec := { _root_.Go.OpenSpec.ofChange s with cond := some uptoSmall }

/-- 'laws.FnExactConstants', WHERE WHAT IT READS IS OF BULK AT MOST 1048576: true; the input reads as it did. -/
def fnExactConstantsUptoRow : OpenClaim := { program := "ytbgocnhhpbpilaa", sum := "12667f679656febc342c766eb51a172a54dbb707bcb4b9b9657094c1eea93d68", func := "loop.example/g00696/laws.FnExactConstants", spec := "fnExactConstants", apart := false, narrowed := true }
def FnExactConstantsUptoSaid : Prop := fnExactConstantsUptoRow.holds Try.pinned (OpenSpec.upto fnExactConstantsSpec)

/-- 'laws.FnExactIsMinus', WHERE WHAT IT READS IS OF BULK AT MOST 1048576: true; the input reads as it did. -/
def fnExactIsMinusUptoRow : OpenClaim := { program := "ytbgocnhhpbpilaa", sum := "12667f679656febc342c766eb51a172a54dbb707bcb4b9b9657094c1eea93d68", func := "loop.example/g00696/laws.FnExactIsMinus", spec := "fnExactIsMinus", inPlace := ["math.Float64bits"], apart := false, narrowed := true }
def FnExactIsMinusUptoSaid : Prop := fnExactIsMinusUptoRow.holds Try.pinned (OpenSpec.upto fnExactIsMinusSpec)

/-- 'laws.FnExactSameNum', WHERE WHAT IT READS IS OF BULK AT MOST 1048576: true; the input reads as it did. -/
def fnExactSameNumUptoRow : OpenClaim := { program := "ytbgocnhhpbpilaa", sum := "12667f679656febc342c766eb51a172a54dbb707bcb4b9b9657094c1eea93d68", func := "loop.example/g00696/laws.FnExactSameNum", spec := "fnExactSameNum", inPlace := ["math.Float64bits"], apart := false, narrowed := true }
def FnExactSameNumUptoSaid : Prop := fnExactSameNumUptoRow.holds Try.pinned (OpenSpec.upto fnExactSameNumSpec)

/-- 'laws.FnExactFrameOf', WHERE WHAT IT READS IS OF BULK AT MOST 1048576: true; the input reads as it did. -/
def fnExactFrameOfUptoRow : OpenClaim := { program := "ytbgocnhhpbpilaa", sum := "12667f679656febc342c766eb51a172a54dbb707bcb4b9b9657094c1eea93d68", func := "loop.example/g00696/laws.FnExactFrameOf", spec := "fnExactFrameOf", apart := false, narrowed := true }
def FnExactFrameOfUptoSaid : Prop := fnExactFrameOfUptoRow.holds Try.pinned (OpenSpec.upto fnExactFrameOfSpec)

/-- 'laws.FnExactSyncStore', WHERE WHAT IT READS IS OF BULK AT MOST 1048576: true; the input reads as it did. -/
def fnExactSyncStoreUptoRow : OpenClaim := { program := "ytbgocnhhpbpilaa", sum := "12667f679656febc342c766eb51a172a54dbb707bcb4b9b9657094c1eea93d68", func := "loop.example/g00696/laws.FnExactSyncStore", spec := "fnExactSyncStore", apart := false, narrowed := true }
def FnExactSyncStoreUptoSaid : Prop := fnExactSyncStoreUptoRow.holds Try.pinned (OpenSpec.upto fnExactSyncStoreSpec)

/-- 'laws.FnExactCrashStore', WHERE WHAT IT READS IS OF BULK AT MOST 1048576: true; the input reads as it did. -/
def fnExactCrashStoreUptoRow : OpenClaim := { program := "ytbgocnhhpbpilaa", sum := "12667f679656febc342c766eb51a172a54dbb707bcb4b9b9657094c1eea93d68", func := "loop.example/g00696/laws.FnExactCrashStore", spec := "fnExactCrashStore", apart := false, narrowed := true }
def FnExactCrashStoreUptoSaid : Prop := fnExactCrashStoreUptoRow.holds Try.pinned (OpenSpec.upto fnExactCrashStoreSpec)

/-- 'laws.FnExactSwitchesOf', WHERE WHAT IT READS IS OF BULK AT MOST 1048576: true; the input reads as it did. -/
def fnExactSwitchesOfUptoRow : OpenClaim := { program := "ytbgocnhhpbpilaa", sum := "12667f679656febc342c766eb51a172a54dbb707bcb4b9b9657094c1eea93d68", func := "loop.example/g00696/laws.FnExactSwitchesOf", spec := "fnExactSwitchesOf", apart := false, narrowed := true }
def FnExactSwitchesOfUptoSaid : Prop := fnExactSwitchesOfUptoRow.holds Try.pinned (OpenSpec.upto fnExactSwitchesOfSpec)

/-- 'laws.FnExactClockLess', WHERE WHAT IT READS IS OF BULK AT MOST 1048576: true; the input reads as it did. -/
def fnExactClockLessUptoRow : OpenClaim := { program := "ytbgocnhhpbpilaa", sum := "12667f679656febc342c766eb51a172a54dbb707bcb4b9b9657094c1eea93d68", func := "loop.example/g00696/laws.FnExactClockLess", spec := "fnExactClockLess", apart := false, narrowed := true }
def FnExactClockLessUptoSaid : Prop := fnExactClockLessUptoRow.holds Try.pinned (OpenSpec.upto fnExactClockLessSpec)

/-- 'laws.FnExactCountPct', WHERE WHAT IT READS IS OF BULK AT MOST 1048576: true; the input reads as it did. -/
def fnExactCountPctUptoRow : OpenClaim := { program := "ytbgocnhhpbpilaa", sum := "12667f679656febc342c766eb51a172a54dbb707bcb4b9b9657094c1eea93d68", func := "loop.example/g00696/laws.FnExactCountPct", spec := "fnExactCountPct", recurses := true, apart := false, narrowed := true }
def FnExactCountPctUptoSaid : Prop := fnExactCountPctUptoRow.holds Try.pinned (OpenSpec.upto fnExactCountPctSpec)

/-- 'laws.FnExactToIndex', WHERE WHAT IT READS IS OF BULK AT MOST 1048576: true; the input reads as it did. -/
def fnExactToIndexUptoRow : OpenClaim := { program := "ytbgocnhhpbpilaa", sum := "12667f679656febc342c766eb51a172a54dbb707bcb4b9b9657094c1eea93d68", func := "loop.example/g00696/laws.FnExactToIndex", spec := "fnExactToIndex", inPlace := ["math.Float64bits", "math.Float64frombits", "math.archTrunc"], apart := false, narrowed := true }
def FnExactToIndexUptoSaid : Prop := fnExactToIndexUptoRow.holds Try.pinned (OpenSpec.upto fnExactToIndexSpec)

/-- 'laws.FnExactJoinCuts', WHERE WHAT IT READS IS OF BULK AT MOST 1048576: true; the input reads as it did. -/
def fnExactJoinCutsUptoRow : OpenClaim := { program := "ytbgocnhhpbpilaa", sum := "12667f679656febc342c766eb51a172a54dbb707bcb4b9b9657094c1eea93d68", func := "loop.example/g00696/laws.FnExactJoinCuts", spec := "fnExactJoinCuts", unfollowed := true, recurses := true, apart := false, narrowed := true }
def FnExactJoinCutsUptoSaid : Prop := fnExactJoinCutsUptoRow.holds Try.pinned (OpenSpec.upto fnExactJoinCutsSpec)

end Rows
end Go.Proofs.Ytbgocnhhpbpilaa

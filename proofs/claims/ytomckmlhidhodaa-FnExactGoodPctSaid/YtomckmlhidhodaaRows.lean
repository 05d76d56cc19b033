/-
  No cell of these rows narrows 'for every input' (looked for: loops, veiled, ifaces, maps, wideKeys, modest, calm, conditions, laid).
  DERIVED. THE GIVEN ROWS OF THIS SEAT. 12 by the template 'for every input the law returns true; each argument reads behind the call as it read before'; 0 by the template 'total and deterministic' (their statements: YtomckmlhidhodaaTotals.lean).
  GIVEN WITH THE SEED: the statements are not yours to turn. If you find one false, say at which input.
  Laid BY PROGRAM, IN A SANDBOX (cutbox-rows.mjs): the forced cells as the released guide's own fill.sh prints them over the translation 4ef1ca510d1c379b… (all of the seat's roots in one cut). By AI agents, Wed Nov 11 2026. No macro, syntax, notation, axiom, sorry.
-/
import Derived.Test.YtomckmlhidhodaaChecked
import GoSem.Claim
import GoSem.ClaimJoined
import GoSem.ClaimMapViews
import Derived.JoinedTies
import Derived.KernelRfl
namespace Go.Proofs.Ytomckmlhidhodaa
/- THE CELL 'sum', in the pinned program and in every row, IS THE sha256 OF THE DUMP (.gsa) THAT YtomckmlhidhodaaProg.lean LOADS. Nothing in Lean hashes anything: it is a label: what it is worth is what the hold of that sum in a sandbox is worth. -/
noncomputable def Try.pinned : Pinned := { name := "ytomckmlhidhodaa", sum := "4ef1ca510d1c379b098951b077558fe3ca2f91ac73b81d173775772c3d992301", checked := Try.checked }
namespace Rows
def none {H : Type} : Left H := { results := [], args := [] }

/-- 'laws.FnExactDropSpan': WHATEVER THE INPUT: true; the input reads as it did. -/
def fnExactDropSpanSpec : ChangeSpec := { name := "fnExactDropSpan", fn := fun _ => fun
  | [d1, d2, d3] => { results := [.lit (.bool true)], args := [d1, d2, d3] }
  | _ => none }
def fnExactDropSpanRow : OpenClaim := { program := "ytomckmlhidhodaa", sum := "4ef1ca510d1c379b098951b077558fe3ca2f91ac73b81d173775772c3d992301", func := "loop.example/g00696/laws.FnExactDropSpan", spec := "fnExactDropSpan", unfollowed := true, recurses := true, apart := false }
def FnExactDropSpanSaid : Prop := fnExactDropSpanRow.holds Try.pinned (OpenSpec.ofChange fnExactDropSpanSpec)

/-- ITS FALSE NEIGHBOUR: 'it returns false'. Refute it at one input. -/
def fnExactDropSpanWrong : ChangeSpec := { name := "fnExactDropSpan", fn := fun _ => fun
  | [d1, d2, d3] => { results := [.lit (.bool false)], args := [d1, d2, d3] }
  | _ => none }
def FnExactDropSpanWrongFalsely : Prop := fnExactDropSpanRow.holds Try.pinned (OpenSpec.ofChange fnExactDropSpanWrong)

/-- 'laws.FnExactMendStore': WHATEVER THE INPUT: true; the input reads as it did. -/
def fnExactMendStoreSpec : ChangeSpec := { name := "fnExactMendStore", fn := fun _ => fun
  | [d] => { results := [.lit (.bool true)], args := [d] }
  | _ => none }
def fnExactMendStoreRow : OpenClaim := { program := "ytomckmlhidhodaa", sum := "4ef1ca510d1c379b098951b077558fe3ca2f91ac73b81d173775772c3d992301", func := "loop.example/g00696/laws.FnExactMendStore", spec := "fnExactMendStore", apart := false }
def FnExactMendStoreSaid : Prop := fnExactMendStoreRow.holds Try.pinned (OpenSpec.ofChange fnExactMendStoreSpec)

/-- ITS FALSE NEIGHBOUR: 'it returns false'. Refute it at one input. -/
def fnExactMendStoreWrong : ChangeSpec := { name := "fnExactMendStore", fn := fun _ => fun
  | [d] => { results := [.lit (.bool false)], args := [d] }
  | _ => none }
def FnExactMendStoreWrongFalsely : Prop := fnExactMendStoreRow.holds Try.pinned (OpenSpec.ofChange fnExactMendStoreWrong)

/-- 'laws.FnExactFramesIn': WHATEVER THE INPUT: true; the input reads as it did. -/
def fnExactFramesInSpec : ChangeSpec := { name := "fnExactFramesIn", fn := fun _ => fun
  | [d] => { results := [.lit (.bool true)], args := [d] }
  | _ => none }
def fnExactFramesInRow : OpenClaim := { program := "ytomckmlhidhodaa", sum := "4ef1ca510d1c379b098951b077558fe3ca2f91ac73b81d173775772c3d992301", func := "loop.example/g00696/laws.FnExactFramesIn", spec := "fnExactFramesIn", apart := false }
def FnExactFramesInSaid : Prop := fnExactFramesInRow.holds Try.pinned (OpenSpec.ofChange fnExactFramesInSpec)

/-- ITS FALSE NEIGHBOUR: 'it returns false'. Refute it at one input. -/
def fnExactFramesInWrong : ChangeSpec := { name := "fnExactFramesIn", fn := fun _ => fun
  | [d] => { results := [.lit (.bool false)], args := [d] }
  | _ => none }
def FnExactFramesInWrongFalsely : Prop := fnExactFramesInRow.holds Try.pinned (OpenSpec.ofChange fnExactFramesInWrong)

/-- 'laws.FnExactPutFrame': WHATEVER THE INPUT: true; the input reads as it did. -/
def fnExactPutFrameSpec : ChangeSpec := { name := "fnExactPutFrame", fn := fun _ => fun
  | [d1, d2] => { results := [.lit (.bool true)], args := [d1, d2] }
  | _ => none }
def fnExactPutFrameRow : OpenClaim := { program := "ytomckmlhidhodaa", sum := "4ef1ca510d1c379b098951b077558fe3ca2f91ac73b81d173775772c3d992301", func := "loop.example/g00696/laws.FnExactPutFrame", spec := "fnExactPutFrame", apart := false }
def FnExactPutFrameSaid : Prop := fnExactPutFrameRow.holds Try.pinned (OpenSpec.ofChange fnExactPutFrameSpec)

/-- ITS FALSE NEIGHBOUR: 'it returns false'. Refute it at one input. -/
def fnExactPutFrameWrong : ChangeSpec := { name := "fnExactPutFrame", fn := fun _ => fun
  | [d1, d2] => { results := [.lit (.bool false)], args := [d1, d2] }
  | _ => none }
def FnExactPutFrameWrongFalsely : Prop := fnExactPutFrameRow.holds Try.pinned (OpenSpec.ofChange fnExactPutFrameWrong)

/-- 'laws.FnExactHang': WHATEVER THE INPUT: true; the input reads as it did. -/
def fnExactHangSpec : ChangeSpec := { name := "fnExactHang", fn := fun _ => fun
  | [d1, d2] => { results := [.lit (.bool true)], args := [d1, d2] }
  | _ => none }
def fnExactHangRow : OpenClaim := { program := "ytomckmlhidhodaa", sum := "4ef1ca510d1c379b098951b077558fe3ca2f91ac73b81d173775772c3d992301", func := "loop.example/g00696/laws.FnExactHang", spec := "fnExactHang", apart := false }
def FnExactHangSaid : Prop := fnExactHangRow.holds Try.pinned (OpenSpec.ofChange fnExactHangSpec)

/-- ITS FALSE NEIGHBOUR: 'it returns false'. Refute it at one input. -/
def fnExactHangWrong : ChangeSpec := { name := "fnExactHang", fn := fun _ => fun
  | [d1, d2] => { results := [.lit (.bool false)], args := [d1, d2] }
  | _ => none }
def FnExactHangWrongFalsely : Prop := fnExactHangRow.holds Try.pinned (OpenSpec.ofChange fnExactHangWrong)

/-- 'laws.FnExactGoodTrace': WHATEVER THE INPUT: true; the input reads as it did. -/
def fnExactGoodTraceSpec : ChangeSpec := { name := "fnExactGoodTrace", fn := fun _ => fun
  | [d] => { results := [.lit (.bool true)], args := [d] }
  | _ => none }
def fnExactGoodTraceRow : OpenClaim := { program := "ytomckmlhidhodaa", sum := "4ef1ca510d1c379b098951b077558fe3ca2f91ac73b81d173775772c3d992301", func := "loop.example/g00696/laws.FnExactGoodTrace", spec := "fnExactGoodTrace", unfollowed := true, recurses := true, apart := false }
def FnExactGoodTraceSaid : Prop := fnExactGoodTraceRow.holds Try.pinned (OpenSpec.ofChange fnExactGoodTraceSpec)

/-- ITS FALSE NEIGHBOUR: 'it returns false'. Refute it at one input. -/
def fnExactGoodTraceWrong : ChangeSpec := { name := "fnExactGoodTrace", fn := fun _ => fun
  | [d] => { results := [.lit (.bool false)], args := [d] }
  | _ => none }
def FnExactGoodTraceWrongFalsely : Prop := fnExactGoodTraceRow.holds Try.pinned (OpenSpec.ofChange fnExactGoodTraceWrong)

/-- 'laws.FnExactPctAt': WHATEVER THE INPUT: true; the input reads as it did. -/
def fnExactPctAtSpec : ChangeSpec := { name := "fnExactPctAt", fn := fun _ => fun
  | [d1, d2, d3, d4] => { results := [.lit (.bool true)], args := [d1, d2, d3, d4] }
  | _ => none }
def fnExactPctAtRow : OpenClaim := { program := "ytomckmlhidhodaa", sum := "4ef1ca510d1c379b098951b077558fe3ca2f91ac73b81d173775772c3d992301", func := "loop.example/g00696/laws.FnExactPctAt", spec := "fnExactPctAt", recurses := true, apart := false }
def FnExactPctAtSaid : Prop := fnExactPctAtRow.holds Try.pinned (OpenSpec.ofChange fnExactPctAtSpec)

/-- ITS FALSE NEIGHBOUR: 'it returns false'. Refute it at one input. -/
def fnExactPctAtWrong : ChangeSpec := { name := "fnExactPctAt", fn := fun _ => fun
  | [d1, d2, d3, d4] => { results := [.lit (.bool false)], args := [d1, d2, d3, d4] }
  | _ => none }
def FnExactPctAtWrongFalsely : Prop := fnExactPctAtRow.holds Try.pinned (OpenSpec.ofChange fnExactPctAtWrong)

/-- 'laws.FnExactNewPairs': WHATEVER THE INPUT: true; the input reads as it did. -/
def fnExactNewPairsSpec : ChangeSpec := { name := "fnExactNewPairs", fn := fun _ => fun
  | [d1, d2] => { results := [.lit (.bool true)], args := [d1, d2] }
  | _ => none }
def fnExactNewPairsRow : OpenClaim := { program := "ytomckmlhidhodaa", sum := "4ef1ca510d1c379b098951b077558fe3ca2f91ac73b81d173775772c3d992301", func := "loop.example/g00696/laws.FnExactNewPairs", spec := "fnExactNewPairs", unfollowed := true, recurses := true, apart := false }
def FnExactNewPairsSaid : Prop := fnExactNewPairsRow.holds Try.pinned (OpenSpec.ofChange fnExactNewPairsSpec)

/-- ITS FALSE NEIGHBOUR: 'it returns false'. Refute it at one input. -/
def fnExactNewPairsWrong : ChangeSpec := { name := "fnExactNewPairs", fn := fun _ => fun
  | [d1, d2] => { results := [.lit (.bool false)], args := [d1, d2] }
  | _ => none }
def FnExactNewPairsWrongFalsely : Prop := fnExactNewPairsRow.holds Try.pinned (OpenSpec.ofChange fnExactNewPairsWrong)

/-- 'laws.FnExactGoodPct': WHATEVER THE INPUT: true; the input reads as it did. -/
def fnExactGoodPctSpec : ChangeSpec := { name := "fnExactGoodPct", fn := fun _ => fun
  | [d] => { results := [.lit (.bool true)], args := [d] }
  | _ => none }
def fnExactGoodPctRow : OpenClaim := { program := "ytomckmlhidhodaa", sum := "4ef1ca510d1c379b098951b077558fe3ca2f91ac73b81d173775772c3d992301", func := "loop.example/g00696/laws.FnExactGoodPct", spec := "fnExactGoodPct", recurses := true, apart := false }
def FnExactGoodPctSaid : Prop := fnExactGoodPctRow.holds Try.pinned (OpenSpec.ofChange fnExactGoodPctSpec)

/-- ITS FALSE NEIGHBOUR: 'it returns false'. Refute it at one input. -/
def fnExactGoodPctWrong : ChangeSpec := { name := "fnExactGoodPct", fn := fun _ => fun
  | [d] => { results := [.lit (.bool false)], args := [d] }
  | _ => none }
def FnExactGoodPctWrongFalsely : Prop := fnExactGoodPctRow.holds Try.pinned (OpenSpec.ofChange fnExactGoodPctWrong)

/-- 'laws.FnExactMeetCuts': WHATEVER THE INPUT: true; the input reads as it did. -/
def fnExactMeetCutsSpec : ChangeSpec := { name := "fnExactMeetCuts", fn := fun _ => fun
  | [d1, d2] => { results := [.lit (.bool true)], args := [d1, d2] }
  | _ => none }
def fnExactMeetCutsRow : OpenClaim := { program := "ytomckmlhidhodaa", sum := "4ef1ca510d1c379b098951b077558fe3ca2f91ac73b81d173775772c3d992301", func := "loop.example/g00696/laws.FnExactMeetCuts", spec := "fnExactMeetCuts", unfollowed := true, recurses := true, apart := false }
def FnExactMeetCutsSaid : Prop := fnExactMeetCutsRow.holds Try.pinned (OpenSpec.ofChange fnExactMeetCutsSpec)

/-- ITS FALSE NEIGHBOUR: 'it returns false'. Refute it at one input. -/
def fnExactMeetCutsWrong : ChangeSpec := { name := "fnExactMeetCuts", fn := fun _ => fun
  | [d1, d2] => { results := [.lit (.bool false)], args := [d1, d2] }
  | _ => none }
def FnExactMeetCutsWrongFalsely : Prop := fnExactMeetCutsRow.holds Try.pinned (OpenSpec.ofChange fnExactMeetCutsWrong)

/-- 'laws.FnExactJoinCuts': WHATEVER THE INPUT: true; the input reads as it did. -/
def fnExactJoinCutsSpec : ChangeSpec := { name := "fnExactJoinCuts", fn := fun _ => fun
  | [d1, d2] => { results := [.lit (.bool true)], args := [d1, d2] }
  | _ => none }
def fnExactJoinCutsRow : OpenClaim := { program := "ytomckmlhidhodaa", sum := "4ef1ca510d1c379b098951b077558fe3ca2f91ac73b81d173775772c3d992301", func := "loop.example/g00696/laws.FnExactJoinCuts", spec := "fnExactJoinCuts", unfollowed := true, recurses := true, apart := false }
def FnExactJoinCutsSaid : Prop := fnExactJoinCutsRow.holds Try.pinned (OpenSpec.ofChange fnExactJoinCutsSpec)

/-- ITS FALSE NEIGHBOUR: 'it returns false'. Refute it at one input. -/
def fnExactJoinCutsWrong : ChangeSpec := { name := "fnExactJoinCuts", fn := fun _ => fun
  | [d1, d2] => { results := [.lit (.bool false)], args := [d1, d2] }
  | _ => none }
def FnExactJoinCutsWrongFalsely : Prop := fnExactJoinCutsRow.holds Try.pinned (OpenSpec.ofChange fnExactJoinCutsWrong)

/-- 'laws.FnExactAheadIn': WHATEVER THE INPUT: true; the input reads as it did. -/
def fnExactAheadInSpec : ChangeSpec := { name := "fnExactAheadIn", fn := fun _ => fun
  | [d1, d2, d3] => { results := [.lit (.bool true)], args := [d1, d2, d3] }
  | _ => none }
def fnExactAheadInRow : OpenClaim := { program := "ytomckmlhidhodaa", sum := "4ef1ca510d1c379b098951b077558fe3ca2f91ac73b81d173775772c3d992301", func := "loop.example/g00696/laws.FnExactAheadIn", spec := "fnExactAheadIn", unfollowed := true, recurses := true, apart := false }
def FnExactAheadInSaid : Prop := fnExactAheadInRow.holds Try.pinned (OpenSpec.ofChange fnExactAheadInSpec)

/-- ITS FALSE NEIGHBOUR: 'it returns false'. Refute it at one input. -/
def fnExactAheadInWrong : ChangeSpec := { name := "fnExactAheadIn", fn := fun _ => fun
  | [d1, d2, d3] => { results := [.lit (.bool false)], args := [d1, d2, d3] }
  | _ => none }
def FnExactAheadInWrongFalsely : Prop := fnExactAheadInRow.holds Try.pinned (OpenSpec.ofChange fnExactAheadInWrong)

/- THE SECOND FORM. 'bulk': how many values and letters a reading holds, each counted each time it is reached (what is shared counts as often as it is met; a slice's spare places count too). A statement '..UptoSaid' is the law's where the arguments, and the package variables that the reading takes, are together of bulk at most 1048576: NARROWER than '..Said'. Prove '..Said' where nothing that the law and all that it calls make is longer than what came in: it says more and counts as full. Else prove '..UptoSaid'. A law counts once. -/
mutual
def uptoBulk {H : Type} : DataW H → Nat
  | .lit (.string bytes) => bytes.length + 1
  | .lit _ => 1
  | .nil => 1
  | .ptr d => uptoBulk d + 1
  | .slice elems spare => uptoBulkAll elems + uptoBulkAll spare + 1
  | .agg parts => uptoBulkAll parts + 1
  | .iface _ d => uptoBulk d + 1
  | .map entries => uptoBulkEntries entries + 1
  | .held _ => 1
def uptoBulkAll {H : Type} : List (DataW H) → Nat
  | [] => 0
  | d :: r => uptoBulk d + uptoBulkAll r
def uptoBulkEntries {H : Type} : List (Lit × DataW H) → Nat
  | [] => 0
  | x :: r => uptoBulkEntry x + uptoBulkEntries r
def uptoBulkEntry {H : Type} : Lit × DataW H → Nat
  | (.string bytes, d) => bytes.length + uptoBulk d + 1
  | (_, d) => uptoBulk d + 1
 end
def uptoSmall : (H : Type) → List (DataW H) → Bool := fun _ ds => decide (uptoBulkAll ds ≤ 1048576)
def OpenSpec.upto (s : _root_.Go.ChangeSpec) : _root_.Go.OpenSpec := { _root_.Go.OpenSpec.ofChange s with cond := some uptoSmall }

/-- 'laws.FnExactDropSpan', WHERE WHAT IT READS IS OF BULK AT MOST 1048576: true; the input reads as it did. -/
def fnExactDropSpanUptoRow : OpenClaim := { program := "ytomckmlhidhodaa", sum := "4ef1ca510d1c379b098951b077558fe3ca2f91ac73b81d173775772c3d992301", func := "loop.example/g00696/laws.FnExactDropSpan", spec := "fnExactDropSpan", unfollowed := true, recurses := true, apart := false, narrowed := true }
def FnExactDropSpanUptoSaid : Prop := fnExactDropSpanUptoRow.holds Try.pinned (OpenSpec.upto fnExactDropSpanSpec)

/-- 'laws.FnExactMendStore', WHERE WHAT IT READS IS OF BULK AT MOST 1048576: true; the input reads as it did. -/
def fnExactMendStoreUptoRow : OpenClaim := { program := "ytomckmlhidhodaa", sum := "4ef1ca510d1c379b098951b077558fe3ca2f91ac73b81d173775772c3d992301", func := "loop.example/g00696/laws.FnExactMendStore", spec := "fnExactMendStore", apart := false, narrowed := true }
def FnExactMendStoreUptoSaid : Prop := fnExactMendStoreUptoRow.holds Try.pinned (OpenSpec.upto fnExactMendStoreSpec)

/-- 'laws.FnExactFramesIn', WHERE WHAT IT READS IS OF BULK AT MOST 1048576: true; the input reads as it did. -/
def fnExactFramesInUptoRow : OpenClaim := { program := "ytomckmlhidhodaa", sum := "4ef1ca510d1c379b098951b077558fe3ca2f91ac73b81d173775772c3d992301", func := "loop.example/g00696/laws.FnExactFramesIn", spec := "fnExactFramesIn", apart := false, narrowed := true }
def FnExactFramesInUptoSaid : Prop := fnExactFramesInUptoRow.holds Try.pinned (OpenSpec.upto fnExactFramesInSpec)

/-- 'laws.FnExactPutFrame', WHERE WHAT IT READS IS OF BULK AT MOST 1048576: true; the input reads as it did. -/
def fnExactPutFrameUptoRow : OpenClaim := { program := "ytomckmlhidhodaa", sum := "4ef1ca510d1c379b098951b077558fe3ca2f91ac73b81d173775772c3d992301", func := "loop.example/g00696/laws.FnExactPutFrame", spec := "fnExactPutFrame", apart := false, narrowed := true }
def FnExactPutFrameUptoSaid : Prop := fnExactPutFrameUptoRow.holds Try.pinned (OpenSpec.upto fnExactPutFrameSpec)

/-- 'laws.FnExactHang', WHERE WHAT IT READS IS OF BULK AT MOST 1048576: true; the input reads as it did. -/
def fnExactHangUptoRow : OpenClaim := { program := "ytomckmlhidhodaa", sum := "4ef1ca510d1c379b098951b077558fe3ca2f91ac73b81d173775772c3d992301", func := "loop.example/g00696/laws.FnExactHang", spec := "fnExactHang", apart := false, narrowed := true }
def FnExactHangUptoSaid : Prop := fnExactHangUptoRow.holds Try.pinned (OpenSpec.upto fnExactHangSpec)

/-- 'laws.FnExactGoodTrace', WHERE WHAT IT READS IS OF BULK AT MOST 1048576: true; the input reads as it did. -/
def fnExactGoodTraceUptoRow : OpenClaim := { program := "ytomckmlhidhodaa", sum := "4ef1ca510d1c379b098951b077558fe3ca2f91ac73b81d173775772c3d992301", func := "loop.example/g00696/laws.FnExactGoodTrace", spec := "fnExactGoodTrace", unfollowed := true, recurses := true, apart := false, narrowed := true }
def FnExactGoodTraceUptoSaid : Prop := fnExactGoodTraceUptoRow.holds Try.pinned (OpenSpec.upto fnExactGoodTraceSpec)

/-- 'laws.FnExactPctAt', WHERE WHAT IT READS IS OF BULK AT MOST 1048576: true; the input reads as it did. -/
def fnExactPctAtUptoRow : OpenClaim := { program := "ytomckmlhidhodaa", sum := "4ef1ca510d1c379b098951b077558fe3ca2f91ac73b81d173775772c3d992301", func := "loop.example/g00696/laws.FnExactPctAt", spec := "fnExactPctAt", recurses := true, apart := false, narrowed := true }
def FnExactPctAtUptoSaid : Prop := fnExactPctAtUptoRow.holds Try.pinned (OpenSpec.upto fnExactPctAtSpec)

/-- 'laws.FnExactNewPairs', WHERE WHAT IT READS IS OF BULK AT MOST 1048576: true; the input reads as it did. -/
def fnExactNewPairsUptoRow : OpenClaim := { program := "ytomckmlhidhodaa", sum := "4ef1ca510d1c379b098951b077558fe3ca2f91ac73b81d173775772c3d992301", func := "loop.example/g00696/laws.FnExactNewPairs", spec := "fnExactNewPairs", unfollowed := true, recurses := true, apart := false, narrowed := true }
def FnExactNewPairsUptoSaid : Prop := fnExactNewPairsUptoRow.holds Try.pinned (OpenSpec.upto fnExactNewPairsSpec)

/-- 'laws.FnExactGoodPct', WHERE WHAT IT READS IS OF BULK AT MOST 1048576: true; the input reads as it did. -/
def fnExactGoodPctUptoRow : OpenClaim := { program := "ytomckmlhidhodaa", sum := "4ef1ca510d1c379b098951b077558fe3ca2f91ac73b81d173775772c3d992301", func := "loop.example/g00696/laws.FnExactGoodPct", spec := "fnExactGoodPct", recurses := true, apart := false, narrowed := true }
def FnExactGoodPctUptoSaid : Prop := fnExactGoodPctUptoRow.holds Try.pinned (OpenSpec.upto fnExactGoodPctSpec)

/-- 'laws.FnExactMeetCuts', WHERE WHAT IT READS IS OF BULK AT MOST 1048576: true; the input reads as it did. -/
def fnExactMeetCutsUptoRow : OpenClaim := { program := "ytomckmlhidhodaa", sum := "4ef1ca510d1c379b098951b077558fe3ca2f91ac73b81d173775772c3d992301", func := "loop.example/g00696/laws.FnExactMeetCuts", spec := "fnExactMeetCuts", unfollowed := true, recurses := true, apart := false, narrowed := true }
def FnExactMeetCutsUptoSaid : Prop := fnExactMeetCutsUptoRow.holds Try.pinned (OpenSpec.upto fnExactMeetCutsSpec)

/-- 'laws.FnExactJoinCuts', WHERE WHAT IT READS IS OF BULK AT MOST 1048576: true; the input reads as it did. -/
def fnExactJoinCutsUptoRow : OpenClaim := { program := "ytomckmlhidhodaa", sum := "4ef1ca510d1c379b098951b077558fe3ca2f91ac73b81d173775772c3d992301", func := "loop.example/g00696/laws.FnExactJoinCuts", spec := "fnExactJoinCuts", unfollowed := true, recurses := true, apart := false, narrowed := true }
def FnExactJoinCutsUptoSaid : Prop := fnExactJoinCutsUptoRow.holds Try.pinned (OpenSpec.upto fnExactJoinCutsSpec)

/-- 'laws.FnExactAheadIn', WHERE WHAT IT READS IS OF BULK AT MOST 1048576: true; the input reads as it did. -/
def fnExactAheadInUptoRow : OpenClaim := { program := "ytomckmlhidhodaa", sum := "4ef1ca510d1c379b098951b077558fe3ca2f91ac73b81d173775772c3d992301", func := "loop.example/g00696/laws.FnExactAheadIn", spec := "fnExactAheadIn", unfollowed := true, recurses := true, apart := false, narrowed := true }
def FnExactAheadInUptoSaid : Prop := fnExactAheadInUptoRow.holds Try.pinned (OpenSpec.upto fnExactAheadInSpec)

end Rows
end Go.Proofs.Ytomckmlhidhodaa

/-
  No cell of these rows narrows 'for every input' (looked for: loops, veiled, ifaces, maps, wideKeys, modest, calm, conditions, laid).
  DERIVED. THE GIVEN ROWS OF THIS SEAT. 12 by the template 'for every input the law returns true; each argument reads behind the call as it read before'; 0 by the template 'total and deterministic' (their statements: YteaahcofgnghaaaTotals.lean).
  GIVEN WITH THE SEED: the statements are not yours to turn. If you find one false, say at which input.
  Laid BY PROGRAM, IN A SANDBOX (cutbox-rows.mjs): the forced cells as the released guide's own fill.sh prints them over the translation 111be9e8f501559c… (all of the seat's roots in one cut). By AI agents, Wed Nov 11 2026. No macro, syntax, notation, axiom, sorry.
-/
import Derived.Test.YteaahcofgnghaaaChecked
import GoSem.Claim
import GoSem.ClaimJoined
import GoSem.ClaimMapViews
import Derived.JoinedTies
import Derived.KernelRfl
namespace Go.Proofs.Yteaahcofgnghaaa
/- THE CELL 'sum', in the pinned program and in every row, IS THE sha256 OF THE DUMP (.gsa) THAT YteaahcofgnghaaaProg.lean LOADS. Nothing in Lean hashes anything: it is a label: what it is worth is what the hold of that sum in a sandbox is worth. -/
noncomputable def Try.pinned : Pinned := { name := "yteaahcofgnghaaa", sum := "111be9e8f501559ceba90cbdf36a44141bc2f386e4f8f9f519d25fc4dbabb4fb", checked := Try.checked }
namespace Rows
def none {H : Type} : Left H := { results := [], args := [] }

/-- 'laws.FnExactGoodHistory': WHATEVER THE INPUT: true; the input reads as it did. -/
def fnExactGoodHistorySpec : ChangeSpec := { name := "fnExactGoodHistory", fn := fun _ => fun
  | [d] => { results := [.lit (.bool true)], args := [d] }
  | _ => none }
def fnExactGoodHistoryRow : OpenClaim := { program := "yteaahcofgnghaaa", sum := "111be9e8f501559ceba90cbdf36a44141bc2f386e4f8f9f519d25fc4dbabb4fb", func := "loop.example/g00696/laws.FnExactGoodHistory", spec := "fnExactGoodHistory", apart := false }
def FnExactGoodHistorySaid : Prop := fnExactGoodHistoryRow.holds Try.pinned (OpenSpec.ofChange fnExactGoodHistorySpec)

/-- ITS FALSE NEIGHBOUR: 'it returns false'. Refute it at one input. -/
def fnExactGoodHistoryWrong : ChangeSpec := { name := "fnExactGoodHistory", fn := fun _ => fun
  | [d] => { results := [.lit (.bool false)], args := [d] }
  | _ => none }
def FnExactGoodHistoryWrongFalsely : Prop := fnExactGoodHistoryRow.holds Try.pinned (OpenSpec.ofChange fnExactGoodHistoryWrong)

/-- 'laws.FnExactCallAhead': WHATEVER THE INPUT: true; the input reads as it did. -/
def fnExactCallAheadSpec : ChangeSpec := { name := "fnExactCallAhead", fn := fun _ => fun
  | [d1, d2, d3] => { results := [.lit (.bool true)], args := [d1, d2, d3] }
  | _ => none }
def fnExactCallAheadRow : OpenClaim := { program := "yteaahcofgnghaaa", sum := "111be9e8f501559ceba90cbdf36a44141bc2f386e4f8f9f519d25fc4dbabb4fb", func := "loop.example/g00696/laws.FnExactCallAhead", spec := "fnExactCallAhead", apart := false }
def FnExactCallAheadSaid : Prop := fnExactCallAheadRow.holds Try.pinned (OpenSpec.ofChange fnExactCallAheadSpec)

/-- ITS FALSE NEIGHBOUR: 'it returns false'. Refute it at one input. -/
def fnExactCallAheadWrong : ChangeSpec := { name := "fnExactCallAhead", fn := fun _ => fun
  | [d1, d2, d3] => { results := [.lit (.bool false)], args := [d1, d2, d3] }
  | _ => none }
def FnExactCallAheadWrongFalsely : Prop := fnExactCallAheadRow.holds Try.pinned (OpenSpec.ofChange fnExactCallAheadWrong)

/-- 'laws.FnExactWithoutCall': WHATEVER THE INPUT: true; the input reads as it did. -/
def fnExactWithoutCallSpec : ChangeSpec := { name := "fnExactWithoutCall", fn := fun _ => fun
  | [d1, d2] => { results := [.lit (.bool true)], args := [d1, d2] }
  | _ => none }
def fnExactWithoutCallRow : OpenClaim := { program := "yteaahcofgnghaaa", sum := "111be9e8f501559ceba90cbdf36a44141bc2f386e4f8f9f519d25fc4dbabb4fb", func := "loop.example/g00696/laws.FnExactWithoutCall", spec := "fnExactWithoutCall", apart := false }
def FnExactWithoutCallSaid : Prop := fnExactWithoutCallRow.holds Try.pinned (OpenSpec.ofChange fnExactWithoutCallSpec)

/-- ITS FALSE NEIGHBOUR: 'it returns false'. Refute it at one input. -/
def fnExactWithoutCallWrong : ChangeSpec := { name := "fnExactWithoutCall", fn := fun _ => fun
  | [d1, d2] => { results := [.lit (.bool false)], args := [d1, d2] }
  | _ => none }
def FnExactWithoutCallWrongFalsely : Prop := fnExactWithoutCallRow.holds Try.pinned (OpenSpec.ofChange fnExactWithoutCallWrong)

/-- 'laws.FnExactPlayObject': WHATEVER THE INPUT: true; the input reads as it did. -/
def fnExactPlayObjectSpec : ChangeSpec := { name := "fnExactPlayObject", fn := fun _ => fun
  | [d1, d2, d3] => { results := [.lit (.bool true)], args := [d1, d2, d3] }
  | _ => none }
def fnExactPlayObjectRow : OpenClaim := { program := "yteaahcofgnghaaa", sum := "111be9e8f501559ceba90cbdf36a44141bc2f386e4f8f9f519d25fc4dbabb4fb", func := "loop.example/g00696/laws.FnExactPlayObject", spec := "fnExactPlayObject", inPlace := ["math.Float64frombits"], recurses := true, apart := false }
def FnExactPlayObjectSaid : Prop := fnExactPlayObjectRow.holds Try.pinned (OpenSpec.ofChange fnExactPlayObjectSpec)

/-- ITS FALSE NEIGHBOUR: 'it returns false'. Refute it at one input. -/
def fnExactPlayObjectWrong : ChangeSpec := { name := "fnExactPlayObject", fn := fun _ => fun
  | [d1, d2, d3] => { results := [.lit (.bool false)], args := [d1, d2, d3] }
  | _ => none }
def FnExactPlayObjectWrongFalsely : Prop := fnExactPlayObjectRow.holds Try.pinned (OpenSpec.ofChange fnExactPlayObjectWrong)

/-- 'laws.FnExactFitsOrder': WHATEVER THE INPUT: true; the input reads as it did. -/
def fnExactFitsOrderSpec : ChangeSpec := { name := "fnExactFitsOrder", fn := fun _ => fun
  | [d1, d2, d3] => { results := [.lit (.bool true)], args := [d1, d2, d3] }
  | _ => none }
def fnExactFitsOrderRow : OpenClaim := { program := "yteaahcofgnghaaa", sum := "111be9e8f501559ceba90cbdf36a44141bc2f386e4f8f9f519d25fc4dbabb4fb", func := "loop.example/g00696/laws.FnExactFitsOrder", spec := "fnExactFitsOrder", inPlace := ["math.Float64frombits", "math.Float64bits"], recurses := true, apart := false }
def FnExactFitsOrderSaid : Prop := fnExactFitsOrderRow.holds Try.pinned (OpenSpec.ofChange fnExactFitsOrderSpec)

/-- ITS FALSE NEIGHBOUR: 'it returns false'. Refute it at one input. -/
def fnExactFitsOrderWrong : ChangeSpec := { name := "fnExactFitsOrder", fn := fun _ => fun
  | [d1, d2, d3] => { results := [.lit (.bool false)], args := [d1, d2, d3] }
  | _ => none }
def FnExactFitsOrderWrongFalsely : Prop := fnExactFitsOrderRow.holds Try.pinned (OpenSpec.ofChange fnExactFitsOrderWrong)

/-- 'laws.FnExactOrderFor': WHATEVER THE INPUT: true; the input reads as it did. -/
def fnExactOrderForSpec : ChangeSpec := { name := "fnExactOrderFor", fn := fun _ => fun
  | [d1, d2] => { results := [.lit (.bool true)], args := [d1, d2] }
  | _ => none }
def fnExactOrderForRow : OpenClaim := { program := "yteaahcofgnghaaa", sum := "111be9e8f501559ceba90cbdf36a44141bc2f386e4f8f9f519d25fc4dbabb4fb", func := "loop.example/g00696/laws.FnExactOrderFor", spec := "fnExactOrderFor", inPlace := ["math.Float64frombits", "math.Float64bits"], unfollowed := true, recurses := true, apart := false }
def FnExactOrderForSaid : Prop := fnExactOrderForRow.holds Try.pinned (OpenSpec.ofChange fnExactOrderForSpec)

/-- ITS FALSE NEIGHBOUR: 'it returns false'. Refute it at one input. -/
def fnExactOrderForWrong : ChangeSpec := { name := "fnExactOrderFor", fn := fun _ => fun
  | [d1, d2] => { results := [.lit (.bool false)], args := [d1, d2] }
  | _ => none }
def FnExactOrderForWrongFalsely : Prop := fnExactOrderForRow.holds Try.pinned (OpenSpec.ofChange fnExactOrderForWrong)

/-- 'laws.FnExactCountOrders': WHATEVER THE INPUT: true; the input reads as it did. -/
def fnExactCountOrdersSpec : ChangeSpec := { name := "fnExactCountOrders", fn := fun _ => fun
  | [d1, d2] => { results := [.lit (.bool true)], args := [d1, d2] }
  | _ => none }
def fnExactCountOrdersRow : OpenClaim := { program := "yteaahcofgnghaaa", sum := "111be9e8f501559ceba90cbdf36a44141bc2f386e4f8f9f519d25fc4dbabb4fb", func := "loop.example/g00696/laws.FnExactCountOrders", spec := "fnExactCountOrders", inPlace := ["math.Float64frombits", "math.Float64bits"], unfollowed := true, recurses := true, apart := false }
def FnExactCountOrdersSaid : Prop := fnExactCountOrdersRow.holds Try.pinned (OpenSpec.ofChange fnExactCountOrdersSpec)

/-- ITS FALSE NEIGHBOUR: 'it returns false'. Refute it at one input. -/
def fnExactCountOrdersWrong : ChangeSpec := { name := "fnExactCountOrders", fn := fun _ => fun
  | [d1, d2] => { results := [.lit (.bool false)], args := [d1, d2] }
  | _ => none }
def FnExactCountOrdersWrongFalsely : Prop := fnExactCountOrdersRow.holds Try.pinned (OpenSpec.ofChange fnExactCountOrdersWrong)

/-- 'laws.FnOneOrder': WHATEVER THE INPUT: true; the input reads as it did. -/
def fnOneOrderSpec : ChangeSpec := { name := "fnOneOrder", fn := fun _ => fun
  | [d1, d2] => { results := [.lit (.bool true)], args := [d1, d2] }
  | _ => none }
def fnOneOrderRow : OpenClaim := { program := "yteaahcofgnghaaa", sum := "111be9e8f501559ceba90cbdf36a44141bc2f386e4f8f9f519d25fc4dbabb4fb", func := "loop.example/g00696/laws.FnOneOrder", spec := "fnOneOrder", inPlace := ["math.Float64frombits", "math.Float64bits"], unfollowed := true, recurses := true, apart := false }
def FnOneOrderSaid : Prop := fnOneOrderRow.holds Try.pinned (OpenSpec.ofChange fnOneOrderSpec)

/-- ITS FALSE NEIGHBOUR: 'it returns false'. Refute it at one input. -/
def fnOneOrderWrong : ChangeSpec := { name := "fnOneOrder", fn := fun _ => fun
  | [d1, d2] => { results := [.lit (.bool false)], args := [d1, d2] }
  | _ => none }
def FnOneOrderWrongFalsely : Prop := fnOneOrderRow.holds Try.pinned (OpenSpec.ofChange fnOneOrderWrong)

/-- 'laws.FnExactGoodLitmus': WHATEVER THE INPUT: true; the input reads as it did. -/
def fnExactGoodLitmusSpec : ChangeSpec := { name := "fnExactGoodLitmus", fn := fun _ => fun
  | [d] => { results := [.lit (.bool true)], args := [d] }
  | _ => none }
def fnExactGoodLitmusRow : OpenClaim := { program := "yteaahcofgnghaaa", sum := "111be9e8f501559ceba90cbdf36a44141bc2f386e4f8f9f519d25fc4dbabb4fb", func := "loop.example/g00696/laws.FnExactGoodLitmus", spec := "fnExactGoodLitmus", inPlace := ["math.Float64bits"], unfollowed := true, recurses := true, apart := false }
def FnExactGoodLitmusSaid : Prop := fnExactGoodLitmusRow.holds Try.pinned (OpenSpec.ofChange fnExactGoodLitmusSpec)

/-- ITS FALSE NEIGHBOUR: 'it returns false'. Refute it at one input. -/
def fnExactGoodLitmusWrong : ChangeSpec := { name := "fnExactGoodLitmus", fn := fun _ => fun
  | [d] => { results := [.lit (.bool false)], args := [d] }
  | _ => none }
def FnExactGoodLitmusWrongFalsely : Prop := fnExactGoodLitmusRow.holds Try.pinned (OpenSpec.ofChange fnExactGoodLitmusWrong)

/-- 'laws.FnExactHasGap': WHATEVER THE INPUT: true; the input reads as it did. -/
def fnExactHasGapSpec : ChangeSpec := { name := "fnExactHasGap", fn := fun _ => fun
  | [d] => { results := [.lit (.bool true)], args := [d] }
  | _ => none }
def fnExactHasGapRow : OpenClaim := { program := "yteaahcofgnghaaa", sum := "111be9e8f501559ceba90cbdf36a44141bc2f386e4f8f9f519d25fc4dbabb4fb", func := "loop.example/g00696/laws.FnExactHasGap", spec := "fnExactHasGap", inPlace := ["math.Float64bits"], unfollowed := true, recurses := true, apart := false }
def FnExactHasGapSaid : Prop := fnExactHasGapRow.holds Try.pinned (OpenSpec.ofChange fnExactHasGapSpec)

/-- ITS FALSE NEIGHBOUR: 'it returns false'. Refute it at one input. -/
def fnExactHasGapWrong : ChangeSpec := { name := "fnExactHasGap", fn := fun _ => fun
  | [d] => { results := [.lit (.bool false)], args := [d] }
  | _ => none }
def FnExactHasGapWrongFalsely : Prop := fnExactHasGapRow.holds Try.pinned (OpenSpec.ofChange fnExactHasGapWrong)

/-- 'laws.FnExactSameState': WHATEVER THE INPUT: true; the input reads as it did. -/
def fnExactSameStateSpec : ChangeSpec := { name := "fnExactSameState", fn := fun _ => fun
  | [d1, d2] => { results := [.lit (.bool true)], args := [d1, d2] }
  | _ => none }
def fnExactSameStateRow : OpenClaim := { program := "yteaahcofgnghaaa", sum := "111be9e8f501559ceba90cbdf36a44141bc2f386e4f8f9f519d25fc4dbabb4fb", func := "loop.example/g00696/laws.FnExactSameState", spec := "fnExactSameState", inPlace := ["math.Float64bits"], unfollowed := true, recurses := true, apart := false }
def FnExactSameStateSaid : Prop := fnExactSameStateRow.holds Try.pinned (OpenSpec.ofChange fnExactSameStateSpec)

/-- ITS FALSE NEIGHBOUR: 'it returns false'. Refute it at one input. -/
def fnExactSameStateWrong : ChangeSpec := { name := "fnExactSameState", fn := fun _ => fun
  | [d1, d2] => { results := [.lit (.bool false)], args := [d1, d2] }
  | _ => none }
def FnExactSameStateWrongFalsely : Prop := fnExactSameStateRow.holds Try.pinned (OpenSpec.ofChange fnExactSameStateWrong)

/-- 'laws.FnExactThreadsOf': WHATEVER THE INPUT: true; the input reads as it did. -/
def fnExactThreadsOfSpec : ChangeSpec := { name := "fnExactThreadsOf", fn := fun _ => fun
  | [d] => { results := [.lit (.bool true)], args := [d] }
  | _ => none }
def fnExactThreadsOfRow : OpenClaim := { program := "yteaahcofgnghaaa", sum := "111be9e8f501559ceba90cbdf36a44141bc2f386e4f8f9f519d25fc4dbabb4fb", func := "loop.example/g00696/laws.FnExactThreadsOf", spec := "fnExactThreadsOf", apart := false }
def FnExactThreadsOfSaid : Prop := fnExactThreadsOfRow.holds Try.pinned (OpenSpec.ofChange fnExactThreadsOfSpec)

/-- ITS FALSE NEIGHBOUR: 'it returns false'. Refute it at one input. -/
def fnExactThreadsOfWrong : ChangeSpec := { name := "fnExactThreadsOf", fn := fun _ => fun
  | [d] => { results := [.lit (.bool false)], args := [d] }
  | _ => none }
def FnExactThreadsOfWrongFalsely : Prop := fnExactThreadsOfRow.holds Try.pinned (OpenSpec.ofChange fnExactThreadsOfWrong)

/- THE SECOND FORM. 'bulk': how many values and letters a reading holds, each counted each time it is reached (what is shared counts as often as it is met; a slice's spare places count too). A statement '..UptoSaid' is the law's where the arguments, and the package variables that the reading takes, are together of bulk at most 1048576: NARROWER than '..Said'. Prove '..Said' where nothing that the law and all that it calls make is longer than what came in: it says more and counts as full. Else prove '..UptoSaid'. A law counts once. -/
mutual
def uptoBulk {H : Type} : DataW H → Nat
  | .lit (.string bytes) => bytes.length + 1
  | .lit _ => 1
  | .nil => 1
  | .ptr d => uptoBulk d + 1
  | .slice elems spare => uptoBulkAll elems + uptoBulkAll spare + 1
  | .agg parts => uptoBulkAll parts + 1
  | .iface _ d => uptoBulk d + 1
  | .map entries => uptoBulkEntries entries + 1
  | .held _ => 1
def uptoBulkAll {H : Type} : List (DataW H) → Nat
  | [] => 0
  | d :: r => uptoBulk d + uptoBulkAll r
def uptoBulkEntries {H : Type} : List (Lit × DataW H) → Nat
  | [] => 0
  | x :: r => uptoBulkEntry x + uptoBulkEntries r
def uptoBulkEntry {H : Type} : Lit × DataW H → Nat
  | (.string bytes, d) => bytes.length + uptoBulk d + 1
  | (_, d) => uptoBulk d + 1
 end
def uptoSmall : (H : Type) → List (DataW H) → Bool := fun _ ds => decide (uptoBulkAll ds ≤ 1048576)
def OpenSpec.upto (s : _root_.Go.ChangeSpec) : _root_.Go.OpenSpec := { _root_.Go.OpenSpec.ofChange s with cond := some uptoSmall }

/-- 'laws.FnExactGoodHistory', WHERE WHAT IT READS IS OF BULK AT MOST 1048576: true; the input reads as it did. -/
def fnExactGoodHistoryUptoRow : OpenClaim := { program := "yteaahcofgnghaaa", sum := "111be9e8f501559ceba90cbdf36a44141bc2f386e4f8f9f519d25fc4dbabb4fb", func := "loop.example/g00696/laws.FnExactGoodHistory", spec := "fnExactGoodHistory", apart := false, narrowed := true }
def FnExactGoodHistoryUptoSaid : Prop := fnExactGoodHistoryUptoRow.holds Try.pinned (OpenSpec.upto fnExactGoodHistorySpec)

/-- 'laws.FnExactCallAhead', WHERE WHAT IT READS IS OF BULK AT MOST 1048576: true; the input reads as it did. -/
def fnExactCallAheadUptoRow : OpenClaim := { program := "yteaahcofgnghaaa", sum := "111be9e8f501559ceba90cbdf36a44141bc2f386e4f8f9f519d25fc4dbabb4fb", func := "loop.example/g00696/laws.FnExactCallAhead", spec := "fnExactCallAhead", apart := false, narrowed := true }
def FnExactCallAheadUptoSaid : Prop := fnExactCallAheadUptoRow.holds Try.pinned (OpenSpec.upto fnExactCallAheadSpec)

/-- 'laws.FnExactWithoutCall', WHERE WHAT IT READS IS OF BULK AT MOST 1048576: true; the input reads as it did. -/
def fnExactWithoutCallUptoRow : OpenClaim := { program := "yteaahcofgnghaaa", sum := "111be9e8f501559ceba90cbdf36a44141bc2f386e4f8f9f519d25fc4dbabb4fb", func := "loop.example/g00696/laws.FnExactWithoutCall", spec := "fnExactWithoutCall", apart := false, narrowed := true }
def FnExactWithoutCallUptoSaid : Prop := fnExactWithoutCallUptoRow.holds Try.pinned (OpenSpec.upto fnExactWithoutCallSpec)

/-- 'laws.FnExactPlayObject', WHERE WHAT IT READS IS OF BULK AT MOST 1048576: true; the input reads as it did. -/
def fnExactPlayObjectUptoRow : OpenClaim := { program := "yteaahcofgnghaaa", sum := "111be9e8f501559ceba90cbdf36a44141bc2f386e4f8f9f519d25fc4dbabb4fb", func := "loop.example/g00696/laws.FnExactPlayObject", spec := "fnExactPlayObject", inPlace := ["math.Float64frombits"], recurses := true, apart := false, narrowed := true }
def FnExactPlayObjectUptoSaid : Prop := fnExactPlayObjectUptoRow.holds Try.pinned (OpenSpec.upto fnExactPlayObjectSpec)

/-- 'laws.FnExactFitsOrder', WHERE WHAT IT READS IS OF BULK AT MOST 1048576: true; the input reads as it did. -/
def fnExactFitsOrderUptoRow : OpenClaim := { program := "yteaahcofgnghaaa", sum := "111be9e8f501559ceba90cbdf36a44141bc2f386e4f8f9f519d25fc4dbabb4fb", func := "loop.example/g00696/laws.FnExactFitsOrder", spec := "fnExactFitsOrder", inPlace := ["math.Float64frombits", "math.Float64bits"], recurses := true, apart := false, narrowed := true }
def FnExactFitsOrderUptoSaid : Prop := fnExactFitsOrderUptoRow.holds Try.pinned (OpenSpec.upto fnExactFitsOrderSpec)

/-- 'laws.FnExactOrderFor', WHERE WHAT IT READS IS OF BULK AT MOST 1048576: true; the input reads as it did. -/
def fnExactOrderForUptoRow : OpenClaim := { program := "yteaahcofgnghaaa", sum := "111be9e8f501559ceba90cbdf36a44141bc2f386e4f8f9f519d25fc4dbabb4fb", func := "loop.example/g00696/laws.FnExactOrderFor", spec := "fnExactOrderFor", inPlace := ["math.Float64frombits", "math.Float64bits"], unfollowed := true, recurses := true, apart := false, narrowed := true }
def FnExactOrderForUptoSaid : Prop := fnExactOrderForUptoRow.holds Try.pinned (OpenSpec.upto fnExactOrderForSpec)

/-- 'laws.FnExactCountOrders', WHERE WHAT IT READS IS OF BULK AT MOST 1048576: true; the input reads as it did. -/
def fnExactCountOrdersUptoRow : OpenClaim := { program := "yteaahcofgnghaaa", sum := "111be9e8f501559ceba90cbdf36a44141bc2f386e4f8f9f519d25fc4dbabb4fb", func := "loop.example/g00696/laws.FnExactCountOrders", spec := "fnExactCountOrders", inPlace := ["math.Float64frombits", "math.Float64bits"], unfollowed := true, recurses := true, apart := false, narrowed := true }
def FnExactCountOrdersUptoSaid : Prop := fnExactCountOrdersUptoRow.holds Try.pinned (OpenSpec.upto fnExactCountOrdersSpec)

/-- 'laws.FnOneOrder', WHERE WHAT IT READS IS OF BULK AT MOST 1048576: true; the input reads as it did. -/
def fnOneOrderUptoRow : OpenClaim := { program := "yteaahcofgnghaaa", sum := "111be9e8f501559ceba90cbdf36a44141bc2f386e4f8f9f519d25fc4dbabb4fb", func := "loop.example/g00696/laws.FnOneOrder", spec := "fnOneOrder", inPlace := ["math.Float64frombits", "math.Float64bits"], unfollowed := true, recurses := true, apart := false, narrowed := true }
def FnOneOrderUptoSaid : Prop := fnOneOrderUptoRow.holds Try.pinned (OpenSpec.upto fnOneOrderSpec)

/-- 'laws.FnExactGoodLitmus', WHERE WHAT IT READS IS OF BULK AT MOST 1048576: true; the input reads as it did. -/
def fnExactGoodLitmusUptoRow : OpenClaim := { program := "yteaahcofgnghaaa", sum := "111be9e8f501559ceba90cbdf36a44141bc2f386e4f8f9f519d25fc4dbabb4fb", func := "loop.example/g00696/laws.FnExactGoodLitmus", spec := "fnExactGoodLitmus", inPlace := ["math.Float64bits"], unfollowed := true, recurses := true, apart := false, narrowed := true }
def FnExactGoodLitmusUptoSaid : Prop := fnExactGoodLitmusUptoRow.holds Try.pinned (OpenSpec.upto fnExactGoodLitmusSpec)

/-- 'laws.FnExactHasGap', WHERE WHAT IT READS IS OF BULK AT MOST 1048576: true; the input reads as it did. -/
def fnExactHasGapUptoRow : OpenClaim := { program := "yteaahcofgnghaaa", sum := "111be9e8f501559ceba90cbdf36a44141bc2f386e4f8f9f519d25fc4dbabb4fb", func := "loop.example/g00696/laws.FnExactHasGap", spec := "fnExactHasGap", inPlace := ["math.Float64bits"], unfollowed := true, recurses := true, apart := false, narrowed := true }
def FnExactHasGapUptoSaid : Prop := fnExactHasGapUptoRow.holds Try.pinned (OpenSpec.upto fnExactHasGapSpec)

/-- 'laws.FnExactSameState', WHERE WHAT IT READS IS OF BULK AT MOST 1048576: true; the input reads as it did. -/
def fnExactSameStateUptoRow : OpenClaim := { program := "yteaahcofgnghaaa", sum := "111be9e8f501559ceba90cbdf36a44141bc2f386e4f8f9f519d25fc4dbabb4fb", func := "loop.example/g00696/laws.FnExactSameState", spec := "fnExactSameState", inPlace := ["math.Float64bits"], unfollowed := true, recurses := true, apart := false, narrowed := true }
def FnExactSameStateUptoSaid : Prop := fnExactSameStateUptoRow.holds Try.pinned (OpenSpec.upto fnExactSameStateSpec)

/-- 'laws.FnExactThreadsOf', WHERE WHAT IT READS IS OF BULK AT MOST 1048576: true; the input reads as it did. -/
def fnExactThreadsOfUptoRow : OpenClaim := { program := "yteaahcofgnghaaa", sum := "111be9e8f501559ceba90cbdf36a44141bc2f386e4f8f9f519d25fc4dbabb4fb", func := "loop.example/g00696/laws.FnExactThreadsOf", spec := "fnExactThreadsOf", apart := false, narrowed := true }
def FnExactThreadsOfUptoSaid : Prop := fnExactThreadsOfUptoRow.holds Try.pinned (OpenSpec.upto fnExactThreadsOfSpec)

end Rows
end Go.Proofs.Yteaahcofgnghaaa

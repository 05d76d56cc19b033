/-
  No cell of these rows narrows 'for every input' (looked for: loops, veiled, ifaces, maps, wideKeys, modest, calm, conditions, laid).
  DERIVED. THE GIVEN ROWS OF THIS SEAT. 6 by the template 'for every input the law returns true; each argument reads behind the call as it read before'; 0 by the template 'total and deterministic' (their statements: YthdpiceiemkjlaaTotals.lean).
  GIVEN WITH THE SEED: the statements are not yours to turn. If you find one false, say at which input.
  Laid BY PROGRAM, IN A SANDBOX (cutbox-rows.mjs): the forced cells as the released guide's own fill.sh prints them over the translation fd9820860a7d743f… (all of the seat's roots in one cut). By AI agents, Wed Nov 11 2026. No macro, syntax, notation, axiom, sorry.
-/
import Derived.Test.YthdpiceiemkjlaaChecked
import GoSem.Claim
import GoSem.ClaimJoined
import GoSem.ClaimMapViews
import Derived.JoinedTies
import Derived.KernelRfl
namespace Go.Proofs.Ythdpiceiemkjlaa
/- THE CELL 'sum', in the pinned program and in every row, IS THE sha256 OF THE DUMP (.gsa) THAT YthdpiceiemkjlaaProg.lean LOADS. Nothing in Lean hashes anything: it is a label: what it is worth is what the hold of that sum in a sandbox is worth. -/
noncomputable def Try.pinned : Pinned := { name := "ythdpiceiemkjlaa", sum := "fd9820860a7d743fc8ce932872478acecc16b333eb8059f38a16dc010ec2a3e2", checked := Try.checked }
namespace Rows
def none {H : Type} : Left H := { results := [], args := [] }

/-- 'laws.FnExactPlayObject': WHATEVER THE INPUT: true; the input reads as it did. -/
def fnExactPlayObjectSpec : ChangeSpec := { name := "fnExactPlayObject", fn := fun _ => fun
  | [d1, d2, d3] => { results := [.lit (.bool true)], args := [d1, d2, d3] }
  | _ => none }
def fnExactPlayObjectRow : OpenClaim := { program := "ythdpiceiemkjlaa", sum := "fd9820860a7d743fc8ce932872478acecc16b333eb8059f38a16dc010ec2a3e2", func := "loop.example/g00696/laws.FnExactPlayObject", spec := "fnExactPlayObject", inPlace := ["math.Float64frombits"], recurses := true, apart := false }
def FnExactPlayObjectSaid : Prop := fnExactPlayObjectRow.holds Try.pinned (OpenSpec.ofChange fnExactPlayObjectSpec)

/-- ITS FALSE NEIGHBOUR: 'it returns false'. Refute it at one input. -/
def fnExactPlayObjectWrong : ChangeSpec := { name := "fnExactPlayObject", fn := fun _ => fun
  | [d1, d2, d3] => { results := [.lit (.bool false)], args := [d1, d2, d3] }
  | _ => none }
def FnExactPlayObjectWrongFalsely : Prop := fnExactPlayObjectRow.holds Try.pinned (OpenSpec.ofChange fnExactPlayObjectWrong)

/-- 'laws.FnExactFitsOrder': WHATEVER THE INPUT: true; the input reads as it did. -/
def fnExactFitsOrderSpec : ChangeSpec := { name := "fnExactFitsOrder", fn := fun _ => fun
  | [d1, d2, d3] => { results := [.lit (.bool true)], args := [d1, d2, d3] }
  | _ => none }
def fnExactFitsOrderRow : OpenClaim := { program := "ythdpiceiemkjlaa", sum := "fd9820860a7d743fc8ce932872478acecc16b333eb8059f38a16dc010ec2a3e2", func := "loop.example/g00696/laws.FnExactFitsOrder", spec := "fnExactFitsOrder", inPlace := ["math.Float64frombits", "math.Float64bits"], recurses := true, apart := false }
def FnExactFitsOrderSaid : Prop := fnExactFitsOrderRow.holds Try.pinned (OpenSpec.ofChange fnExactFitsOrderSpec)

/-- ITS FALSE NEIGHBOUR: 'it returns false'. Refute it at one input. -/
def fnExactFitsOrderWrong : ChangeSpec := { name := "fnExactFitsOrder", fn := fun _ => fun
  | [d1, d2, d3] => { results := [.lit (.bool false)], args := [d1, d2, d3] }
  | _ => none }
def FnExactFitsOrderWrongFalsely : Prop := fnExactFitsOrderRow.holds Try.pinned (OpenSpec.ofChange fnExactFitsOrderWrong)

/-- 'laws.FnExactOrderFor': WHATEVER THE INPUT: true; the input reads as it did. -/
def fnExactOrderForSpec : ChangeSpec := { name := "fnExactOrderFor", fn := fun _ => fun
  | [d1, d2] => { results := [.lit (.bool true)], args := [d1, d2] }
  | _ => none }
def fnExactOrderForRow : OpenClaim := { program := "ythdpiceiemkjlaa", sum := "fd9820860a7d743fc8ce932872478acecc16b333eb8059f38a16dc010ec2a3e2", func := "loop.example/g00696/laws.FnExactOrderFor", spec := "fnExactOrderFor", inPlace := ["math.Float64frombits", "math.Float64bits"], unfollowed := true, recurses := true, apart := false }
def FnExactOrderForSaid : Prop := fnExactOrderForRow.holds Try.pinned (OpenSpec.ofChange fnExactOrderForSpec)

/-- ITS FALSE NEIGHBOUR: 'it returns false'. Refute it at one input. -/
def fnExactOrderForWrong : ChangeSpec := { name := "fnExactOrderFor", fn := fun _ => fun
  | [d1, d2] => { results := [.lit (.bool false)], args := [d1, d2] }
  | _ => none }
def FnExactOrderForWrongFalsely : Prop := fnExactOrderForRow.holds Try.pinned (OpenSpec.ofChange fnExactOrderForWrong)

/-- 'laws.FnExactCountOrders': WHATEVER THE INPUT: true; the input reads as it did. -/
def fnExactCountOrdersSpec : ChangeSpec := { name := "fnExactCountOrders", fn := fun _ => fun
  | [d1, d2] => { results := [.lit (.bool true)], args := [d1, d2] }
  | _ => none }
def fnExactCountOrdersRow : OpenClaim := { program := "ythdpiceiemkjlaa", sum := "fd9820860a7d743fc8ce932872478acecc16b333eb8059f38a16dc010ec2a3e2", func := "loop.example/g00696/laws.FnExactCountOrders", spec := "fnExactCountOrders", inPlace := ["math.Float64frombits", "math.Float64bits"], unfollowed := true, recurses := true, apart := false }
def FnExactCountOrdersSaid : Prop := fnExactCountOrdersRow.holds Try.pinned (OpenSpec.ofChange fnExactCountOrdersSpec)

/-- ITS FALSE NEIGHBOUR: 'it returns false'. Refute it at one input. -/
def fnExactCountOrdersWrong : ChangeSpec := { name := "fnExactCountOrders", fn := fun _ => fun
  | [d1, d2] => { results := [.lit (.bool false)], args := [d1, d2] }
  | _ => none }
def FnExactCountOrdersWrongFalsely : Prop := fnExactCountOrdersRow.holds Try.pinned (OpenSpec.ofChange fnExactCountOrdersWrong)

/-- 'laws.FnOneOrder': WHATEVER THE INPUT: true; the input reads as it did. -/
def fnOneOrderSpec : ChangeSpec := { name := "fnOneOrder", fn := fun _ => fun
  | [d1, d2] => { results := [.lit (.bool true)], args := [d1, d2] }
  | _ => none }
def fnOneOrderRow : OpenClaim := { program := "ythdpiceiemkjlaa", sum := "fd9820860a7d743fc8ce932872478acecc16b333eb8059f38a16dc010ec2a3e2", func := "loop.example/g00696/laws.FnOneOrder", spec := "fnOneOrder", inPlace := ["math.Float64frombits", "math.Float64bits"], unfollowed := true, recurses := true, apart := false }
def FnOneOrderSaid : Prop := fnOneOrderRow.holds Try.pinned (OpenSpec.ofChange fnOneOrderSpec)

/-- ITS FALSE NEIGHBOUR: 'it returns false'. Refute it at one input. -/
def fnOneOrderWrong : ChangeSpec := { name := "fnOneOrder", fn := fun _ => fun
  | [d1, d2] => { results := [.lit (.bool false)], args := [d1, d2] }
  | _ => none }
def FnOneOrderWrongFalsely : Prop := fnOneOrderRow.holds Try.pinned (OpenSpec.ofChange fnOneOrderWrong)

/-- 'laws.FnNumbers': WHATEVER THE INPUT: true; the input reads as it did. -/
def fnNumbersSpec : ChangeSpec := { name := "fnNumbers", fn := fun _ => fun
  | [d1, d2] => { results := [.lit (.bool true)], args := [d1, d2] }
  | _ => none }
def fnNumbersRow : OpenClaim := { program := "ythdpiceiemkjlaa", sum := "fd9820860a7d743fc8ce932872478acecc16b333eb8059f38a16dc010ec2a3e2", func := "loop.example/g00696/laws.FnNumbers", spec := "fnNumbers", inPlace := ["math.Float64bits", "math.Float64frombits", "math.archTrunc"], apart := false }
def FnNumbersSaid : Prop := fnNumbersRow.holds Try.pinned (OpenSpec.ofChange fnNumbersSpec)

/-- ITS FALSE NEIGHBOUR: 'it returns false'. Refute it at one input. -/
def fnNumbersWrong : ChangeSpec := { name := "fnNumbers", fn := fun _ => fun
  | [d1, d2] => { results := [.lit (.bool false)], args := [d1, d2] }
  | _ => none }
def FnNumbersWrongFalsely : Prop := fnNumbersRow.holds Try.pinned (OpenSpec.ofChange fnNumbersWrong)

/- THE SECOND FORM. 'bulk': how many values and letters a reading holds, each counted each time it is reached (what is shared counts as often as it is met; a slice's spare places count too). A statement '..UptoSaid' is the law's where the arguments, and the package variables that the reading takes, are together of bulk at most 1048576: NARROWER than '..Said'. Prove '..Said' where nothing that the law and all that it calls make is longer than what came in: it says more and counts as full. Else prove '..UptoSaid'. A law counts once. -/
mutual
def uptoBulk {H : Type} : DataW H → Nat
  | .lit (.string bytes) => bytes.length + 1
  | .lit _ => 1
  | .nil => 1
  | .ptr d => uptoBulk d + 1
  | .slice elems spare => uptoBulkAll elems + uptoBulkAll spare + 1
  | .agg parts => uptoBulkAll parts + 1
  | .iface _ d => uptoBulk d + 1
  | .map entries => uptoBulkEntries entries + 1
  | .held _ => 1
def uptoBulkAll {H : Type} : List (DataW H) → Nat
  | [] => 0
  | d :: r => uptoBulk d + uptoBulkAll r
def uptoBulkEntries {H : Type} : List (Lit × DataW H) → Nat
  | [] => 0
  | x :: r => uptoBulkEntry x + uptoBulkEntries r
def uptoBulkEntry {H : Type} : Lit × DataW H → Nat
  | (.string bytes, d) => bytes.length + uptoBulk d + 1
  | (_, d) => uptoBulk d + 1
 end
def uptoSmall : (H : Type) → List (DataW H) → Bool := fun _ ds => decide (uptoBulkAll ds ≤ 1048576)
def OpenSpec.upto (s : _root_.Go.ChangeSpec) : _root_.Go.OpenSpec := { _root_.Go.OpenSpec.ofChange s with cond := some uptoSmall }

/-- 'laws.FnExactPlayObject', WHERE WHAT IT READS IS OF BULK AT MOST 1048576: true; the input reads as it did. -/
def fnExactPlayObjectUptoRow : OpenClaim := { program := "ythdpiceiemkjlaa", sum := "fd9820860a7d743fc8ce932872478acecc16b333eb8059f38a16dc010ec2a3e2", func := "loop.example/g00696/laws.FnExactPlayObject", spec := "fnExactPlayObject", inPlace := ["math.Float64frombits"], recurses := true, apart := false, narrowed := true }
def FnExactPlayObjectUptoSaid : Prop := fnExactPlayObjectUptoRow.holds Try.pinned (OpenSpec.upto fnExactPlayObjectSpec)

/-- 'laws.FnExactFitsOrder', WHERE WHAT IT READS IS OF BULK AT MOST 1048576: true; the input reads as it did. -/
def fnExactFitsOrderUptoRow : OpenClaim := { program := "ythdpiceiemkjlaa", sum := "fd9820860a7d743fc8ce932872478acecc16b333eb8059f38a16dc010ec2a3e2", func := "loop.example/g00696/laws.FnExactFitsOrder", spec := "fnExactFitsOrder", inPlace := ["math.Float64frombits", "math.Float64bits"], recurses := true, apart := false, narrowed := true }
def FnExactFitsOrderUptoSaid : Prop := fnExactFitsOrderUptoRow.holds Try.pinned (OpenSpec.upto fnExactFitsOrderSpec)

/-- 'laws.FnExactOrderFor', WHERE WHAT IT READS IS OF BULK AT MOST 1048576: true; the input reads as it did. -/
def fnExactOrderForUptoRow : OpenClaim := { program := "ythdpiceiemkjlaa", sum := "fd9820860a7d743fc8ce932872478acecc16b333eb8059f38a16dc010ec2a3e2", func := "loop.example/g00696/laws.FnExactOrderFor", spec := "fnExactOrderFor", inPlace := ["math.Float64frombits", "math.Float64bits"], unfollowed := true, recurses := true, apart := false, narrowed := true }
def FnExactOrderForUptoSaid : Prop := fnExactOrderForUptoRow.holds Try.pinned (OpenSpec.upto fnExactOrderForSpec)

/-- 'laws.FnExactCountOrders', WHERE WHAT IT READS IS OF BULK AT MOST 1048576: true; the input reads as it did. -/
def fnExactCountOrdersUptoRow : OpenClaim := { program := "ythdpiceiemkjlaa", sum := "fd9820860a7d743fc8ce932872478acecc16b333eb8059f38a16dc010ec2a3e2", func := "loop.example/g00696/laws.FnExactCountOrders", spec := "fnExactCountOrders", inPlace := ["math.Float64frombits", "math.Float64bits"], unfollowed := true, recurses := true, apart := false, narrowed := true }
def FnExactCountOrdersUptoSaid : Prop := fnExactCountOrdersUptoRow.holds Try.pinned (OpenSpec.upto fnExactCountOrdersSpec)

/-- 'laws.FnOneOrder', WHERE WHAT IT READS IS OF BULK AT MOST 1048576: true; the input reads as it did. -/
def fnOneOrderUptoRow : OpenClaim := { program := "ythdpiceiemkjlaa", sum := "fd9820860a7d743fc8ce932872478acecc16b333eb8059f38a16dc010ec2a3e2", func := "loop.example/g00696/laws.FnOneOrder", spec := "fnOneOrder", inPlace := ["math.Float64frombits", "math.Float64bits"], unfollowed := true, recurses := true, apart := false, narrowed := true }
def FnOneOrderUptoSaid : Prop := fnOneOrderUptoRow.holds Try.pinned (OpenSpec.upto fnOneOrderSpec)

/-- 'laws.FnNumbers', WHERE WHAT IT READS IS OF BULK AT MOST 1048576: true; the input reads as it did. -/
def fnNumbersUptoRow : OpenClaim := { program := "ythdpiceiemkjlaa", sum := "fd9820860a7d743fc8ce932872478acecc16b333eb8059f38a16dc010ec2a3e2", func := "loop.example/g00696/laws.FnNumbers", spec := "fnNumbers", inPlace := ["math.Float64bits", "math.Float64frombits", "math.archTrunc"], apart := false, narrowed := true }
def FnNumbersUptoSaid : Prop := fnNumbersUptoRow.holds Try.pinned (OpenSpec.upto fnNumbersSpec)

end Rows
end Go.Proofs.Ythdpiceiemkjlaa

/-
  DERIVED. GIVEN WITH THE SEED: THE CARDS: each row of YtfpibhpmcolggaaDoorRows.lean that lists a variable, with what it lists TIED to the program's text (the seventh form; the later family's looks); each row that meets fmt, with fmt's text TOLD by the authors' own Lean function (tested against real Go, not proved from fmt's source: count such statements apart). THE CARD IS WHAT COUNTS. Prove the row's statement (the work); the ties are given (YtfpibhpmcolggaaDoorTie.lean); close each card by the builder's one call (the guide's Derived/Test/ToyasCard.lean, 'card_holds'). Laid BY PROGRAM, IN A SANDBOX (cutbox-door.mjs). By AI agents, Wed Nov 11 2026. No macro, syntax, notation, axiom, sorry.
-/
import Derived.Test.YtfpibhpmcolggaaDoorRows
import GoSem.ClaimSeven
namespace Go.Proofs.YtfpibhpmcolggaaDoor
namespace Rows

/-- THE TIED CARD OF 'laws.FnExactOpText'. -/
def fnExactOpTextCard : Claim7 := { stood := { row := fnExactOpTextRow, standIns := [], harness := (true, "f219f1418d7cd83b1368e148d172e4633f17611026d43ea097be763359098be3"), looks := true }, kinds := [], alts := [], laidByText := true, laidKinds := [.data, .data, .data], laidTests := true, laidLooks := .later }
def FnExactOpTextCardSaid : Prop := Claim7.holds Tryd.pinned (.plain (OpenSpec.ofChange fnExactOpTextSpec)) fnExactOpTextCard

/-- THE TIED CARD OF 'laws.FnExactReadOp'. -/
def fnExactReadOpCard : Claim7 := { stood := { row := fnExactReadOpRow, standIns := [], harness := (true, "f219f1418d7cd83b1368e148d172e4633f17611026d43ea097be763359098be3"), looks := true }, kinds := [], alts := [], laidByText := true, laidKinds := [.data, .data, .data, .data, .sentinel, .sentinel, .pinned], laidTests := true, laidLooks := .later }
def FnExactReadOpCardSaid : Prop := Claim7.holds Tryd.pinned (.plain (OpenSpec.ofChange fnExactReadOpSpec)) fnExactReadOpCard

/-- THE TIED CARD OF 'laws.FnExactCellsText'. -/
def fnExactCellsTextCard : Claim7 := { stood := { row := fnExactCellsTextRow, standIns := [], harness := (true, "f219f1418d7cd83b1368e148d172e4633f17611026d43ea097be763359098be3"), looks := true }, kinds := [], alts := [], laidByText := true, laidKinds := [.data, .data, .data], laidTests := true, laidLooks := .later }
def FnExactCellsTextCardSaid : Prop := Claim7.holds Tryd.pinned (.plain (OpenSpec.ofChange fnExactCellsTextSpec)) fnExactCellsTextCard

/-- THE TIED CARD OF 'laws.FnExactFoundText'. -/
def fnExactFoundTextCard : Claim7 := { stood := { row := fnExactFoundTextRow, standIns := [], harness := (true, "f219f1418d7cd83b1368e148d172e4633f17611026d43ea097be763359098be3"), looks := true }, kinds := [], alts := [], laidByText := true, laidKinds := [.data, .data, .data], laidTests := true, laidLooks := .later }
def FnExactFoundTextCardSaid : Prop := Claim7.holds Tryd.pinned (.plain (OpenSpec.ofChange fnExactFoundTextSpec)) fnExactFoundTextCard

/-- THE TIED CARD OF 'laws.FnExactReadFound'. -/
def fnExactReadFoundCard : Claim7 := { stood := { row := fnExactReadFoundRow, standIns := [], harness := (true, "f219f1418d7cd83b1368e148d172e4633f17611026d43ea097be763359098be3"), looks := true }, kinds := [], alts := [], laidByText := true, laidKinds := [.data, .data, .data, .data, .sentinel, .sentinel, .pinned], laidTests := true, laidLooks := .later }
def FnExactReadFoundCardSaid : Prop := Claim7.holds Tryd.pinned (.plain (OpenSpec.ofChange fnExactReadFoundSpec)) fnExactReadFoundCard

/-- THE TIED CARD OF 'laws.FnExactPctText'. -/
def fnExactPctTextCard : Claim7 := { stood := { row := fnExactPctTextRow, standIns := [], harness := (true, "f219f1418d7cd83b1368e148d172e4633f17611026d43ea097be763359098be3"), looks := true }, kinds := [], alts := [], laidByText := true, laidKinds := [.data, .data, .data], laidTests := true, laidLooks := .later }
def FnExactPctTextCardSaid : Prop := Claim7.holds Tryd.pinned (.plain (OpenSpec.ofChange fnExactPctTextSpec)) fnExactPctTextCard

/-- THE TIED CARD OF 'laws.FnExactReadPct'. -/
def fnExactReadPctCard : Claim7 := { stood := { row := fnExactReadPctRow, standIns := [], harness := (true, "f219f1418d7cd83b1368e148d172e4633f17611026d43ea097be763359098be3"), looks := true }, kinds := [], alts := [], laidByText := true, laidKinds := [.data, .data, .data, .data, .sentinel, .sentinel, .pinned], laidTests := true, laidLooks := .later }
def FnExactReadPctCardSaid : Prop := Claim7.holds Tryd.pinned (.plain (OpenSpec.ofChange fnExactReadPctSpec)) fnExactReadPctCard

/-- THE SECOND FORM's CARD OF 'laws.FnExactOpText'. -/
def fnExactOpTextUptoCard : Claim7 := { stood := { row := fnExactOpTextUptoRow, standIns := [], harness := (true, "f219f1418d7cd83b1368e148d172e4633f17611026d43ea097be763359098be3"), looks := true }, kinds := [], alts := [], laidByText := true, laidKinds := [.data, .data, .data], laidTests := true, laidLooks := .later }
def FnExactOpTextUptoCardSaid : Prop := Claim7.holds Tryd.pinned (.plain (OpenSpec.upto fnExactOpTextSpec)) fnExactOpTextUptoCard

/-- THE SECOND FORM's CARD OF 'laws.FnExactReadOp'. -/
def fnExactReadOpUptoCard : Claim7 := { stood := { row := fnExactReadOpUptoRow, standIns := [], harness := (true, "f219f1418d7cd83b1368e148d172e4633f17611026d43ea097be763359098be3"), looks := true }, kinds := [], alts := [], laidByText := true, laidKinds := [.data, .data, .data, .data, .sentinel, .sentinel, .pinned], laidTests := true, laidLooks := .later }
def FnExactReadOpUptoCardSaid : Prop := Claim7.holds Tryd.pinned (.plain (OpenSpec.upto fnExactReadOpSpec)) fnExactReadOpUptoCard

/-- THE SECOND FORM's CARD OF 'laws.FnExactCellsText'. -/
def fnExactCellsTextUptoCard : Claim7 := { stood := { row := fnExactCellsTextUptoRow, standIns := [], harness := (true, "f219f1418d7cd83b1368e148d172e4633f17611026d43ea097be763359098be3"), looks := true }, kinds := [], alts := [], laidByText := true, laidKinds := [.data, .data, .data], laidTests := true, laidLooks := .later }
def FnExactCellsTextUptoCardSaid : Prop := Claim7.holds Tryd.pinned (.plain (OpenSpec.upto fnExactCellsTextSpec)) fnExactCellsTextUptoCard

/-- THE SECOND FORM's CARD OF 'laws.FnExactFoundText'. -/
def fnExactFoundTextUptoCard : Claim7 := { stood := { row := fnExactFoundTextUptoRow, standIns := [], harness := (true, "f219f1418d7cd83b1368e148d172e4633f17611026d43ea097be763359098be3"), looks := true }, kinds := [], alts := [], laidByText := true, laidKinds := [.data, .data, .data], laidTests := true, laidLooks := .later }
def FnExactFoundTextUptoCardSaid : Prop := Claim7.holds Tryd.pinned (.plain (OpenSpec.upto fnExactFoundTextSpec)) fnExactFoundTextUptoCard

/-- THE SECOND FORM's CARD OF 'laws.FnExactReadFound'. -/
def fnExactReadFoundUptoCard : Claim7 := { stood := { row := fnExactReadFoundUptoRow, standIns := [], harness := (true, "f219f1418d7cd83b1368e148d172e4633f17611026d43ea097be763359098be3"), looks := true }, kinds := [], alts := [], laidByText := true, laidKinds := [.data, .data, .data, .data, .sentinel, .sentinel, .pinned], laidTests := true, laidLooks := .later }
def FnExactReadFoundUptoCardSaid : Prop := Claim7.holds Tryd.pinned (.plain (OpenSpec.upto fnExactReadFoundSpec)) fnExactReadFoundUptoCard

/-- THE SECOND FORM's CARD OF 'laws.FnExactPctText'. -/
def fnExactPctTextUptoCard : Claim7 := { stood := { row := fnExactPctTextUptoRow, standIns := [], harness := (true, "f219f1418d7cd83b1368e148d172e4633f17611026d43ea097be763359098be3"), looks := true }, kinds := [], alts := [], laidByText := true, laidKinds := [.data, .data, .data], laidTests := true, laidLooks := .later }
def FnExactPctTextUptoCardSaid : Prop := Claim7.holds Tryd.pinned (.plain (OpenSpec.upto fnExactPctTextSpec)) fnExactPctTextUptoCard

/-- THE SECOND FORM's CARD OF 'laws.FnExactReadPct'. -/
def fnExactReadPctUptoCard : Claim7 := { stood := { row := fnExactReadPctUptoRow, standIns := [], harness := (true, "f219f1418d7cd83b1368e148d172e4633f17611026d43ea097be763359098be3"), looks := true }, kinds := [], alts := [], laidByText := true, laidKinds := [.data, .data, .data, .data, .sentinel, .sentinel, .pinned], laidTests := true, laidLooks := .later }
def FnExactReadPctUptoCardSaid : Prop := Claim7.holds Tryd.pinned (.plain (OpenSpec.upto fnExactReadPctSpec)) fnExactReadPctUptoCard
end Rows
end Go.Proofs.YtfpibhpmcolggaaDoor

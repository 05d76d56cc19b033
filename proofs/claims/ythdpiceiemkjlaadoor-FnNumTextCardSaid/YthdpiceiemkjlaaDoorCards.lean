/-
  DERIVED. GIVEN WITH THE SEED: THE CARDS: each row of YthdpiceiemkjlaaDoorRows.lean that lists a variable, with what it lists TIED to the program's text (the seventh form; the later family's looks); each row that meets fmt, with fmt's text TOLD by the authors' own Lean function (tested against real Go, not proved from fmt's source: count such statements apart). THE CARD IS WHAT COUNTS. Prove the row's statement (the work); the ties are given (YthdpiceiemkjlaaDoorTie.lean); close each card by the builder's one call (the guide's Derived/Test/ToyasCard.lean, 'card_holds'). Laid BY PROGRAM, IN A SANDBOX (cutbox-door.mjs). By AI agents, Wed Nov 11 2026. No macro, syntax, notation, axiom, sorry.
-/
import Derived.Test.YthdpiceiemkjlaaDoorRows
import GoSem.ClaimSeven
namespace Go.Proofs.YthdpiceiemkjlaaDoor
namespace Rows

/-- THE TIED CARD OF 'laws.FnNumText'. -/
def fnNumTextCard : Claim7 := { stood := { row := fnNumTextRow, standIns := [], harness := (true, "e817555e758c0cfe926db85ef9ce79a856aee6456bff9158bce9ea823c061968"), looks := true }, kinds := [], alts := [], laidByText := true, laidKinds := [.data, .data, .data, .sentinel, .sentinel], laidTests := true, laidLooks := .later }
def FnNumTextCardSaid : Prop := Claim7.holds Tryd.pinned (.plain (OpenSpec.ofChange fnNumTextSpec)) fnNumTextCard

/-- THE TIED CARD OF 'laws.FnExactReadPct'. -/
def fnExactReadPctCard : Claim7 := { stood := { row := fnExactReadPctRow, standIns := [], harness := (true, "e817555e758c0cfe926db85ef9ce79a856aee6456bff9158bce9ea823c061968"), looks := true }, kinds := [], alts := [], laidByText := true, laidKinds := [.data, .data, .data, .data, .sentinel, .sentinel, .pinned], laidTests := true, laidLooks := .later }
def FnExactReadPctCardSaid : Prop := Claim7.holds Tryd.pinned (.plain (OpenSpec.ofChange fnExactReadPctSpec)) fnExactReadPctCard

/-- THE SECOND FORM's CARD OF 'laws.FnNumText'. -/
def fnNumTextUptoCard : Claim7 := { stood := { row := fnNumTextUptoRow, standIns := [], harness := (true, "e817555e758c0cfe926db85ef9ce79a856aee6456bff9158bce9ea823c061968"), looks := true }, kinds := [], alts := [], laidByText := true, laidKinds := [.data, .data, .data, .sentinel, .sentinel], laidTests := true, laidLooks := .later }
def FnNumTextUptoCardSaid : Prop := Claim7.holds Tryd.pinned (.plain (OpenSpec.upto fnNumTextSpec)) fnNumTextUptoCard

/-- THE SECOND FORM's CARD OF 'laws.FnExactReadPct'. -/
def fnExactReadPctUptoCard : Claim7 := { stood := { row := fnExactReadPctUptoRow, standIns := [], harness := (true, "e817555e758c0cfe926db85ef9ce79a856aee6456bff9158bce9ea823c061968"), looks := true }, kinds := [], alts := [], laidByText := true, laidKinds := [.data, .data, .data, .data, .sentinel, .sentinel, .pinned], laidTests := true, laidLooks := .later }
def FnExactReadPctUptoCardSaid : Prop := Claim7.holds Tryd.pinned (.plain (OpenSpec.upto fnExactReadPctSpec)) fnExactReadPctUptoCard
end Rows
end Go.Proofs.YthdpiceiemkjlaaDoor

/-
  DERIVED. GIVEN WITH THE SEED: THE CARDS: each row of YtpfbiopcfbokbaaDoorRows.lean that lists a variable, with what it lists TIED to the program's text (the seventh form; the later family's looks); each row that meets fmt, with fmt's text TOLD by the authors' own Lean function (tested against real Go, not proved from fmt's source: count such statements apart). THE CARD IS WHAT COUNTS. Prove the row's statement (the work); the ties are given (YtpfbiopcfbokbaaDoorTie.lean); close each card by the builder's one call (the guide's Derived/Test/ToyasCard.lean, 'card_holds'). Laid BY PROGRAM, IN A SANDBOX (cutbox-door.mjs). By AI agents, Wed Nov 11 2026. No macro, syntax, notation, axiom, sorry.
-/
import Derived.Test.YtpfbiopcfbokbaaDoorRows
import GoSem.ClaimSeven
namespace Go.Proofs.YtpfbiopcfbokbaaDoor
namespace Rows

/-- THE TIED CARD OF 'laws.FnExactReadFound'. -/
def fnExactReadFoundCard : Claim7 := { stood := { row := fnExactReadFoundRow, standIns := [], harness := (true, "556b745aee85eda464e6c405c907872a2c92d10e372929d6e21ba6c3f32b36e4"), looks := true }, kinds := [], alts := [], laidByText := true, laidKinds := [.data, .data, .data, .data, .sentinel, .sentinel, .pinned], laidTests := true, laidLooks := .later }
def FnExactReadFoundCardSaid : Prop := Claim7.holds Tryd.pinned (.plain (OpenSpec.ofChange fnExactReadFoundSpec)) fnExactReadFoundCard

/-- THE TIED CARD OF 'laws.FnExactFoundText'. -/
def fnExactFoundTextCard : Claim7 := { stood := { row := fnExactFoundTextRow, standIns := [], harness := (true, "556b745aee85eda464e6c405c907872a2c92d10e372929d6e21ba6c3f32b36e4"), looks := true }, kinds := [], alts := [], laidByText := true, laidKinds := [.data, .data, .data], laidTests := true, laidLooks := .later }
def FnExactFoundTextCardSaid : Prop := Claim7.holds Tryd.pinned (.plain (OpenSpec.ofChange fnExactFoundTextSpec)) fnExactFoundTextCard

/-- THE TIED CARD OF 'laws.FnExactReadOp'. -/
def fnExactReadOpCard : Claim7 := { stood := { row := fnExactReadOpRow, standIns := [], harness := (true, "556b745aee85eda464e6c405c907872a2c92d10e372929d6e21ba6c3f32b36e4"), looks := true }, kinds := [], alts := [], laidByText := true, laidKinds := [.data, .data, .data, .data, .sentinel, .sentinel, .pinned], laidTests := true, laidLooks := .later }
def FnExactReadOpCardSaid : Prop := Claim7.holds Tryd.pinned (.plain (OpenSpec.ofChange fnExactReadOpSpec)) fnExactReadOpCard

/-- THE TIED CARD OF 'laws.FnExactReadNum'. -/
def fnExactReadNumCard : Claim7 := { stood := { row := fnExactReadNumRow, standIns := [], harness := (true, "556b745aee85eda464e6c405c907872a2c92d10e372929d6e21ba6c3f32b36e4"), looks := true }, kinds := [], alts := [], laidByText := true, laidKinds := [.data, .data, .data, .sentinel, .sentinel], laidTests := true, laidLooks := .later }
def FnExactReadNumCardSaid : Prop := Claim7.holds Tryd.pinned (.plain (OpenSpec.ofChange fnExactReadNumSpec)) fnExactReadNumCard

/-- THE SECOND FORM's CARD OF 'laws.FnExactReadFound'. -/
def fnExactReadFoundUptoCard : Claim7 := { stood := { row := fnExactReadFoundUptoRow, standIns := [], harness := (true, "556b745aee85eda464e6c405c907872a2c92d10e372929d6e21ba6c3f32b36e4"), looks := true }, kinds := [], alts := [], laidByText := true, laidKinds := [.data, .data, .data, .data, .sentinel, .sentinel, .pinned], laidTests := true, laidLooks := .later }
def FnExactReadFoundUptoCardSaid : Prop := Claim7.holds Tryd.pinned (.plain (OpenSpec.upto fnExactReadFoundSpec)) fnExactReadFoundUptoCard

/-- THE SECOND FORM's CARD OF 'laws.FnExactFoundText'. -/
def fnExactFoundTextUptoCard : Claim7 := { stood := { row := fnExactFoundTextUptoRow, standIns := [], harness := (true, "556b745aee85eda464e6c405c907872a2c92d10e372929d6e21ba6c3f32b36e4"), looks := true }, kinds := [], alts := [], laidByText := true, laidKinds := [.data, .data, .data], laidTests := true, laidLooks := .later }
def FnExactFoundTextUptoCardSaid : Prop := Claim7.holds Tryd.pinned (.plain (OpenSpec.upto fnExactFoundTextSpec)) fnExactFoundTextUptoCard

/-- THE SECOND FORM's CARD OF 'laws.FnExactReadOp'. -/
def fnExactReadOpUptoCard : Claim7 := { stood := { row := fnExactReadOpUptoRow, standIns := [], harness := (true, "556b745aee85eda464e6c405c907872a2c92d10e372929d6e21ba6c3f32b36e4"), looks := true }, kinds := [], alts := [], laidByText := true, laidKinds := [.data, .data, .data, .data, .sentinel, .sentinel, .pinned], laidTests := true, laidLooks := .later }
def FnExactReadOpUptoCardSaid : Prop := Claim7.holds Tryd.pinned (.plain (OpenSpec.upto fnExactReadOpSpec)) fnExactReadOpUptoCard

/-- THE SECOND FORM's CARD OF 'laws.FnExactReadNum'. -/
def fnExactReadNumUptoCard : Claim7 := { stood := { row := fnExactReadNumUptoRow, standIns := [], harness := (true, "556b745aee85eda464e6c405c907872a2c92d10e372929d6e21ba6c3f32b36e4"), looks := true }, kinds := [], alts := [], laidByText := true, laidKinds := [.data, .data, .data, .sentinel, .sentinel], laidTests := true, laidLooks := .later }
def FnExactReadNumUptoCardSaid : Prop := Claim7.holds Tryd.pinned (.plain (OpenSpec.upto fnExactReadNumSpec)) fnExactReadNumUptoCard
end Rows
end Go.Proofs.YtpfbiopcfbokbaaDoor

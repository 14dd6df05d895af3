/-
  DERIVED. GIVEN WITH THE SEED: THE CARDS: each row of YtbikcndldcfffaaDoorRows.lean that lists a variable, with what it lists TIED to the program's text (the seventh form; the later family's looks); each row that meets fmt, with fmt's text TOLD by the authors' own Lean function (tested against real Go, not proved from fmt's source: count such statements apart). THE CARD IS WHAT COUNTS. Prove the row's statement (the work); the ties are given (YtbikcndldcfffaaDoorTie.lean); close each card by the builder's one call (the guide's Derived/Test/ToyasCard.lean, 'card_holds'). Laid BY PROGRAM, IN A SANDBOX (cutbox-door.mjs). By AI agents, Wed Nov 11 2026. No macro, syntax, notation, axiom, sorry.
-/
import Derived.Test.YtbikcndldcfffaaDoorRows
import GoSem.ClaimSeven
namespace Go.Proofs.YtbikcndldcfffaaDoor
namespace Rows

/-- THE TIED CARD OF 'analemmalaw01.WideMuls'. -/
def wideMulsCard : Claim7 := { stood := { row := wideMulsRow, standIns := [], harness := (true, "de3bfa73c4c23cd96f45f5d320da609f6286a835f40e56f1ea3c6e8333003341"), looks := false }, kinds := [], alts := [], laidByText := true, laidKinds := [.data, .pinned], laidTests := true, laidLooks := .later }
def WideMulsCardSaid : Prop := Claim7.holds Tryd.pinned (.plain (OpenSpec.ofChange wideMulsSpec)) wideMulsCard

/-- THE TIED CARD OF 'analemmalaw01.WideTexts'. -/
def wideTextsCard : Claim7 := { stood := { row := wideTextsRow, standIns := [], harness := (true, "de3bfa73c4c23cd96f45f5d320da609f6286a835f40e56f1ea3c6e8333003341"), looks := false }, kinds := [], alts := [], laidByText := true, laidKinds := [.data, .pinned], laidTests := true, laidLooks := .later }
def WideTextsCardSaid : Prop := Claim7.holds Tryd.pinned (.plain (OpenSpec.ofChange wideTextsSpec)) wideTextsCard

/-- THE TIED CARD OF 'analemmalaw01.WideBack'. -/
def wideBackCard : Claim7 := { stood := { row := wideBackRow, standIns := [], harness := (true, "de3bfa73c4c23cd96f45f5d320da609f6286a835f40e56f1ea3c6e8333003341"), looks := false }, kinds := [], alts := [], laidByText := true, laidKinds := [.data, .pinned], laidTests := true, laidLooks := .later }
def WideBackCardSaid : Prop := Claim7.holds Tryd.pinned (.plain (OpenSpec.ofChange wideBackSpec)) wideBackCard

/-- THE TIED CARD OF 'analemmalaw01.WideSums'. -/
def wideSumsCard : Claim7 := { stood := { row := wideSumsRow, standIns := [], harness := (true, "de3bfa73c4c23cd96f45f5d320da609f6286a835f40e56f1ea3c6e8333003341"), looks := false }, kinds := [], alts := [], laidByText := true, laidKinds := [.data, .pinned], laidTests := true, laidLooks := .later }
def WideSumsCardSaid : Prop := Claim7.holds Tryd.pinned (.plain (OpenSpec.ofChange wideSumsSpec)) wideSumsCard

/-- THE TIED CARD OF 'analemmalaw01.WideInts'. -/
def wideIntsCard : Claim7 := { stood := { row := wideIntsRow, standIns := [], harness := (true, "de3bfa73c4c23cd96f45f5d320da609f6286a835f40e56f1ea3c6e8333003341"), looks := false }, kinds := [], alts := [], laidByText := true, laidKinds := [.data, .pinned], laidTests := true, laidLooks := .later }
def WideIntsCardSaid : Prop := Claim7.holds Tryd.pinned (.plain (OpenSpec.ofChange wideIntsSpec)) wideIntsCard

/-- THE SECOND FORM's CARD OF 'analemmalaw01.WideMuls'. -/
def wideMulsUptoCard : Claim7 := { stood := { row := wideMulsUptoRow, standIns := [], harness := (true, "de3bfa73c4c23cd96f45f5d320da609f6286a835f40e56f1ea3c6e8333003341"), looks := false }, kinds := [], alts := [], laidByText := true, laidKinds := [.data, .pinned], laidTests := true, laidLooks := .later }
def WideMulsUptoCardSaid : Prop := Claim7.holds Tryd.pinned (.plain (OpenSpec.upto wideMulsSpec)) wideMulsUptoCard

/-- THE SECOND FORM's CARD OF 'analemmalaw01.WideTexts'. -/
def wideTextsUptoCard : Claim7 := { stood := { row := wideTextsUptoRow, standIns := [], harness := (true, "de3bfa73c4c23cd96f45f5d320da609f6286a835f40e56f1ea3c6e8333003341"), looks := false }, kinds := [], alts := [], laidByText := true, laidKinds := [.data, .pinned], laidTests := true, laidLooks := .later }
def WideTextsUptoCardSaid : Prop := Claim7.holds Tryd.pinned (.plain (OpenSpec.upto wideTextsSpec)) wideTextsUptoCard

/-- THE SECOND FORM's CARD OF 'analemmalaw01.WideBack'. -/
def wideBackUptoCard : Claim7 := { stood := { row := wideBackUptoRow, standIns := [], harness := (true, "de3bfa73c4c23cd96f45f5d320da609f6286a835f40e56f1ea3c6e8333003341"), looks := false }, kinds := [], alts := [], laidByText := true, laidKinds := [.data, .pinned], laidTests := true, laidLooks := .later }
def WideBackUptoCardSaid : Prop := Claim7.holds Tryd.pinned (.plain (OpenSpec.upto wideBackSpec)) wideBackUptoCard

/-- THE SECOND FORM's CARD OF 'analemmalaw01.WideSums'. -/
def wideSumsUptoCard : Claim7 := { stood := { row := wideSumsUptoRow, standIns := [], harness := (true, "de3bfa73c4c23cd96f45f5d320da609f6286a835f40e56f1ea3c6e8333003341"), looks := false }, kinds := [], alts := [], laidByText := true, laidKinds := [.data, .pinned], laidTests := true, laidLooks := .later }
def WideSumsUptoCardSaid : Prop := Claim7.holds Tryd.pinned (.plain (OpenSpec.upto wideSumsSpec)) wideSumsUptoCard

/-- THE SECOND FORM's CARD OF 'analemmalaw01.WideInts'. -/
def wideIntsUptoCard : Claim7 := { stood := { row := wideIntsUptoRow, standIns := [], harness := (true, "de3bfa73c4c23cd96f45f5d320da609f6286a835f40e56f1ea3c6e8333003341"), looks := false }, kinds := [], alts := [], laidByText := true, laidKinds := [.data, .pinned], laidTests := true, laidLooks := .later }
def WideIntsUptoCardSaid : Prop := Claim7.holds Tryd.pinned (.plain (OpenSpec.upto wideIntsSpec)) wideIntsUptoCard
end Rows
end Go.Proofs.YtbikcndldcfffaaDoor

/-
  DERIVED. GIVEN WITH THE SEED: THE CARDS: each row of YtnlljacklhgfgaaDoorRows.lean that lists a variable, with what it lists TIED to the program's text (the seventh form; the later family's looks); each row that meets fmt, with fmt's text TOLD by the authors' own Lean function (tested against real Go, not proved from fmt's source: count such statements apart). THE CARD IS WHAT COUNTS. Prove the row's statement (the work); the ties are given (YtnlljacklhgfgaaDoorTie.lean); close each card by the builder's one call (the guide's Derived/Test/ToyasCard.lean, 'card_holds'). Laid BY PROGRAM, IN A SANDBOX (cutbox-door.mjs). By AI agents, Wed Nov 11 2026. No macro, syntax, notation, axiom, sorry.
-/
import Derived.Test.YtnlljacklhgfgaaDoorRows
import GoSem.ClaimSeven
namespace Go.Proofs.YtnlljacklhgfgaaDoor
namespace Rows

/-- THE TIED CARD OF 'ententelaw03.IdentFamily'. -/
def identFamilyCard : Claim7 := { stood := { row := identFamilyRow, standIns := [], harness := (true, "8f14f2c78d19bcf33f2e620dee3b5f50204ca74ddae7c074b5c4ffccc34b31d7"), looks := true }, kinds := [], alts := [], laidByText := true, laidKinds := [.data, .data, .data, .data, .sentinel, .sentinel, .pinned], laidTests := true, laidLooks := .later }
def IdentFamilyCardSaid : Prop := Claim7.holds Tryd.pinned (.plain (OpenSpec.ofChange identFamilySpec)) identFamilyCard

/-- THE TIED CARD OF 'ententelaw03.IdentCmps'. -/
def identCmpsCard : Claim7 := { stood := { row := identCmpsRow, standIns := [], harness := (true, "8f14f2c78d19bcf33f2e620dee3b5f50204ca74ddae7c074b5c4ffccc34b31d7"), looks := true }, kinds := [], alts := [], laidByText := true, laidKinds := [.data, .data, .data, .data, .sentinel, .sentinel, .pinned], laidTests := true, laidLooks := .later }
def IdentCmpsCardSaid : Prop := Claim7.holds Tryd.pinned (.plain (OpenSpec.ofChange identCmpsSpec)) identCmpsCard

/-- THE TIED CARD OF 'ententelaw03.IdentTexts'. -/
def identTextsCard : Claim7 := { stood := { row := identTextsRow, standIns := [], harness := (true, "8f14f2c78d19bcf33f2e620dee3b5f50204ca74ddae7c074b5c4ffccc34b31d7"), looks := true }, kinds := [], alts := [], laidByText := true, laidKinds := [.data, .data, .data, .data, .sentinel, .sentinel, .pinned], laidTests := true, laidLooks := .later }
def IdentTextsCardSaid : Prop := Claim7.holds Tryd.pinned (.plain (OpenSpec.ofChange identTextsSpec)) identTextsCard

/-- THE TIED CARD OF 'ententelaw03.IdentBack'. -/
def identBackCard : Claim7 := { stood := { row := identBackRow, standIns := [], harness := (true, "8f14f2c78d19bcf33f2e620dee3b5f50204ca74ddae7c074b5c4ffccc34b31d7"), looks := true }, kinds := [], alts := [], laidByText := true, laidKinds := [.data, .data, .data, .data, .sentinel, .sentinel, .pinned], laidTests := true, laidLooks := .later }
def IdentBackCardSaid : Prop := Claim7.holds Tryd.pinned (.plain (OpenSpec.ofChange identBackSpec)) identBackCard

/-- THE TIED CARD OF 'ententelaw03.IdentOrder'. -/
def identOrderCard : Claim7 := { stood := { row := identOrderRow, standIns := [], harness := (true, "8f14f2c78d19bcf33f2e620dee3b5f50204ca74ddae7c074b5c4ffccc34b31d7"), looks := true }, kinds := [], alts := [], laidByText := true, laidKinds := [.data, .data, .data, .data, .sentinel, .sentinel, .pinned], laidTests := true, laidLooks := .later }
def IdentOrderCardSaid : Prop := Claim7.holds Tryd.pinned (.plain (OpenSpec.ofChange identOrderSpec)) identOrderCard

/-- THE TIED CARD OF 'ententelaw03.IdentChecks'. -/
def identChecksCard : Claim7 := { stood := { row := identChecksRow, standIns := [], harness := (true, "8f14f2c78d19bcf33f2e620dee3b5f50204ca74ddae7c074b5c4ffccc34b31d7"), looks := true }, kinds := [], alts := [], laidByText := true, laidKinds := [.data, .data, .data, .data, .sentinel, .sentinel, .pinned], laidTests := true, laidLooks := .later }
def IdentChecksCardSaid : Prop := Claim7.holds Tryd.pinned (.plain (OpenSpec.ofChange identChecksSpec)) identChecksCard

/-- THE TIED CARD OF 'ententelaw03.IdentPaths'. -/
def identPathsCard : Claim7 := { stood := { row := identPathsRow, standIns := [], harness := (true, "8f14f2c78d19bcf33f2e620dee3b5f50204ca74ddae7c074b5c4ffccc34b31d7"), looks := true }, kinds := [], alts := [], laidByText := true, laidKinds := [.data, .data, .data, .data, .sentinel, .sentinel, .pinned], laidTests := true, laidLooks := .later }
def IdentPathsCardSaid : Prop := Claim7.holds Tryd.pinned (.plain (OpenSpec.ofChange identPathsSpec)) identPathsCard

/-- THE SECOND FORM's CARD OF 'ententelaw03.IdentFamily'. -/
def identFamilyUptoCard : Claim7 := { stood := { row := identFamilyUptoRow, standIns := [], harness := (true, "8f14f2c78d19bcf33f2e620dee3b5f50204ca74ddae7c074b5c4ffccc34b31d7"), looks := true }, kinds := [], alts := [], laidByText := true, laidKinds := [.data, .data, .data, .data, .sentinel, .sentinel, .pinned], laidTests := true, laidLooks := .later }
def IdentFamilyUptoCardSaid : Prop := Claim7.holds Tryd.pinned (.plain (OpenSpec.upto identFamilySpec)) identFamilyUptoCard

/-- THE SECOND FORM's CARD OF 'ententelaw03.IdentCmps'. -/
def identCmpsUptoCard : Claim7 := { stood := { row := identCmpsUptoRow, standIns := [], harness := (true, "8f14f2c78d19bcf33f2e620dee3b5f50204ca74ddae7c074b5c4ffccc34b31d7"), looks := true }, kinds := [], alts := [], laidByText := true, laidKinds := [.data, .data, .data, .data, .sentinel, .sentinel, .pinned], laidTests := true, laidLooks := .later }
def IdentCmpsUptoCardSaid : Prop := Claim7.holds Tryd.pinned (.plain (OpenSpec.upto identCmpsSpec)) identCmpsUptoCard

/-- THE SECOND FORM's CARD OF 'ententelaw03.IdentTexts'. -/
def identTextsUptoCard : Claim7 := { stood := { row := identTextsUptoRow, standIns := [], harness := (true, "8f14f2c78d19bcf33f2e620dee3b5f50204ca74ddae7c074b5c4ffccc34b31d7"), looks := true }, kinds := [], alts := [], laidByText := true, laidKinds := [.data, .data, .data, .data, .sentinel, .sentinel, .pinned], laidTests := true, laidLooks := .later }
def IdentTextsUptoCardSaid : Prop := Claim7.holds Tryd.pinned (.plain (OpenSpec.upto identTextsSpec)) identTextsUptoCard

/-- THE SECOND FORM's CARD OF 'ententelaw03.IdentBack'. -/
def identBackUptoCard : Claim7 := { stood := { row := identBackUptoRow, standIns := [], harness := (true, "8f14f2c78d19bcf33f2e620dee3b5f50204ca74ddae7c074b5c4ffccc34b31d7"), looks := true }, kinds := [], alts := [], laidByText := true, laidKinds := [.data, .data, .data, .data, .sentinel, .sentinel, .pinned], laidTests := true, laidLooks := .later }
def IdentBackUptoCardSaid : Prop := Claim7.holds Tryd.pinned (.plain (OpenSpec.upto identBackSpec)) identBackUptoCard

/-- THE SECOND FORM's CARD OF 'ententelaw03.IdentOrder'. -/
def identOrderUptoCard : Claim7 := { stood := { row := identOrderUptoRow, standIns := [], harness := (true, "8f14f2c78d19bcf33f2e620dee3b5f50204ca74ddae7c074b5c4ffccc34b31d7"), looks := true }, kinds := [], alts := [], laidByText := true, laidKinds := [.data, .data, .data, .data, .sentinel, .sentinel, .pinned], laidTests := true, laidLooks := .later }
def IdentOrderUptoCardSaid : Prop := Claim7.holds Tryd.pinned (.plain (OpenSpec.upto identOrderSpec)) identOrderUptoCard

/-- THE SECOND FORM's CARD OF 'ententelaw03.IdentChecks'. -/
def identChecksUptoCard : Claim7 := { stood := { row := identChecksUptoRow, standIns := [], harness := (true, "8f14f2c78d19bcf33f2e620dee3b5f50204ca74ddae7c074b5c4ffccc34b31d7"), looks := true }, kinds := [], alts := [], laidByText := true, laidKinds := [.data, .data, .data, .data, .sentinel, .sentinel, .pinned], laidTests := true, laidLooks := .later }
def IdentChecksUptoCardSaid : Prop := Claim7.holds Tryd.pinned (.plain (OpenSpec.upto identChecksSpec)) identChecksUptoCard

/-- THE SECOND FORM's CARD OF 'ententelaw03.IdentPaths'. -/
def identPathsUptoCard : Claim7 := { stood := { row := identPathsUptoRow, standIns := [], harness := (true, "8f14f2c78d19bcf33f2e620dee3b5f50204ca74ddae7c074b5c4ffccc34b31d7"), looks := true }, kinds := [], alts := [], laidByText := true, laidKinds := [.data, .data, .data, .data, .sentinel, .sentinel, .pinned], laidTests := true, laidLooks := .later }
def IdentPathsUptoCardSaid : Prop := Claim7.holds Tryd.pinned (.plain (OpenSpec.upto identPathsSpec)) identPathsUptoCard
end Rows
end Go.Proofs.YtnlljacklhgfgaaDoor

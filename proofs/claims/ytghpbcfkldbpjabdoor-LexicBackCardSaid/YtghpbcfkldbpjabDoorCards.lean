/-
  DERIVED. GIVEN WITH THE SEED: THE CARDS: each row of YtghpbcfkldbpjabDoorRows.lean that lists a variable, with what it lists TIED to the program's text (the seventh form; the later family's looks); each row that meets fmt, with fmt's text TOLD by the authors' own Lean function (tested against real Go, not proved from fmt's source: count such statements apart). THE CARD IS WHAT COUNTS. Prove the row's statement (the work); the ties are given (YtghpbcfkldbpjabDoorTie.lean); close each card by the builder's one call (the guide's Derived/Test/ToyasCard.lean, 'card_holds'). Laid BY PROGRAM, IN A SANDBOX (cutbox-door.mjs). By AI agents, Wed Nov 11 2026. No macro, syntax, notation, axiom, sorry.
-/
import Derived.Test.YtghpbcfkldbpjabDoorRows
import GoSem.ClaimSeven
namespace Go.Proofs.YtghpbcfkldbpjabDoor
namespace Rows

/-- THE TIED CARD OF 'ententelaw08.LexicScans'. -/
def lexicScansCard : Claim7 := { stood := { row := lexicScansRow, standIns := [], harness := (true, "5d6448bb8470d5405f759fa16129cacef4a55a96c1e9aa5945e43dcb31280d1d"), looks := false }, kinds := [], alts := [], laidByText := true, laidKinds := [.data, .pinned], laidTests := true, laidLooks := .later }
def LexicScansCardSaid : Prop := Claim7.holds Tryd.pinned (.plain (OpenSpec.ofChange lexicScansSpec)) lexicScansCard

/-- THE TIED CARD OF 'ententelaw08.LexicValues'. -/
def lexicValuesCard : Claim7 := { stood := { row := lexicValuesRow, standIns := [], harness := (true, "5d6448bb8470d5405f759fa16129cacef4a55a96c1e9aa5945e43dcb31280d1d"), looks := false }, kinds := [], alts := [], laidByText := true, laidKinds := [.data, .pinned], laidTests := true, laidLooks := .later }
def LexicValuesCardSaid : Prop := Claim7.holds Tryd.pinned (.plain (OpenSpec.ofChange lexicValuesSpec)) lexicValuesCard

/-- THE TIED CARD OF 'ententelaw08.LexicBlanks'. -/
def lexicBlanksCard : Claim7 := { stood := { row := lexicBlanksRow, standIns := [], harness := (true, "5d6448bb8470d5405f759fa16129cacef4a55a96c1e9aa5945e43dcb31280d1d"), looks := false }, kinds := [], alts := [], laidByText := true, laidKinds := [.data, .pinned], laidTests := true, laidLooks := .later }
def LexicBlanksCardSaid : Prop := Claim7.holds Tryd.pinned (.plain (OpenSpec.ofChange lexicBlanksSpec)) lexicBlanksCard

/-- THE TIED CARD OF 'ententelaw08.LexicPlaces'. -/
def lexicPlacesCard : Claim7 := { stood := { row := lexicPlacesRow, standIns := [], harness := (true, "5d6448bb8470d5405f759fa16129cacef4a55a96c1e9aa5945e43dcb31280d1d"), looks := false }, kinds := [], alts := [], laidByText := true, laidKinds := [.data, .pinned], laidTests := true, laidLooks := .later }
def LexicPlacesCardSaid : Prop := Claim7.holds Tryd.pinned (.plain (OpenSpec.ofChange lexicPlacesSpec)) lexicPlacesCard

/-- THE TIED CARD OF 'ententelaw08.LexicShows'. -/
def lexicShowsCard : Claim7 := { stood := { row := lexicShowsRow, standIns := [], harness := (true, "5d6448bb8470d5405f759fa16129cacef4a55a96c1e9aa5945e43dcb31280d1d"), looks := false }, kinds := [], alts := [], laidByText := true, laidKinds := [.data, .pinned], laidTests := true, laidLooks := .later }
def LexicShowsCardSaid : Prop := Claim7.holds Tryd.pinned (.plain (OpenSpec.ofChange lexicShowsSpec)) lexicShowsCard

/-- THE TIED CARD OF 'ententelaw08.LexicBack'. -/
def lexicBackCard : Claim7 := { stood := { row := lexicBackRow, standIns := [], harness := (true, "5d6448bb8470d5405f759fa16129cacef4a55a96c1e9aa5945e43dcb31280d1d"), looks := false }, kinds := [], alts := [], laidByText := true, laidKinds := [.data, .pinned], laidTests := true, laidLooks := .later }
def LexicBackCardSaid : Prop := Claim7.holds Tryd.pinned (.plain (OpenSpec.ofChange lexicBackSpec)) lexicBackCard

/-- THE SECOND FORM's CARD OF 'ententelaw08.LexicScans'. -/
def lexicScansUptoCard : Claim7 := { stood := { row := lexicScansUptoRow, standIns := [], harness := (true, "5d6448bb8470d5405f759fa16129cacef4a55a96c1e9aa5945e43dcb31280d1d"), looks := false }, kinds := [], alts := [], laidByText := true, laidKinds := [.data, .pinned], laidTests := true, laidLooks := .later }
def LexicScansUptoCardSaid : Prop := Claim7.holds Tryd.pinned (.plain (OpenSpec.upto lexicScansSpec)) lexicScansUptoCard

/-- THE SECOND FORM's CARD OF 'ententelaw08.LexicValues'. -/
def lexicValuesUptoCard : Claim7 := { stood := { row := lexicValuesUptoRow, standIns := [], harness := (true, "5d6448bb8470d5405f759fa16129cacef4a55a96c1e9aa5945e43dcb31280d1d"), looks := false }, kinds := [], alts := [], laidByText := true, laidKinds := [.data, .pinned], laidTests := true, laidLooks := .later }
def LexicValuesUptoCardSaid : Prop := Claim7.holds Tryd.pinned (.plain (OpenSpec.upto lexicValuesSpec)) lexicValuesUptoCard

/-- THE SECOND FORM's CARD OF 'ententelaw08.LexicBlanks'. -/
def lexicBlanksUptoCard : Claim7 := { stood := { row := lexicBlanksUptoRow, standIns := [], harness := (true, "5d6448bb8470d5405f759fa16129cacef4a55a96c1e9aa5945e43dcb31280d1d"), looks := false }, kinds := [], alts := [], laidByText := true, laidKinds := [.data, .pinned], laidTests := true, laidLooks := .later }
def LexicBlanksUptoCardSaid : Prop := Claim7.holds Tryd.pinned (.plain (OpenSpec.upto lexicBlanksSpec)) lexicBlanksUptoCard

/-- THE SECOND FORM's CARD OF 'ententelaw08.LexicPlaces'. -/
def lexicPlacesUptoCard : Claim7 := { stood := { row := lexicPlacesUptoRow, standIns := [], harness := (true, "5d6448bb8470d5405f759fa16129cacef4a55a96c1e9aa5945e43dcb31280d1d"), looks := false }, kinds := [], alts := [], laidByText := true, laidKinds := [.data, .pinned], laidTests := true, laidLooks := .later }
def LexicPlacesUptoCardSaid : Prop := Claim7.holds Tryd.pinned (.plain (OpenSpec.upto lexicPlacesSpec)) lexicPlacesUptoCard

/-- THE SECOND FORM's CARD OF 'ententelaw08.LexicShows'. -/
def lexicShowsUptoCard : Claim7 := { stood := { row := lexicShowsUptoRow, standIns := [], harness := (true, "5d6448bb8470d5405f759fa16129cacef4a55a96c1e9aa5945e43dcb31280d1d"), looks := false }, kinds := [], alts := [], laidByText := true, laidKinds := [.data, .pinned], laidTests := true, laidLooks := .later }
def LexicShowsUptoCardSaid : Prop := Claim7.holds Tryd.pinned (.plain (OpenSpec.upto lexicShowsSpec)) lexicShowsUptoCard

/-- THE SECOND FORM's CARD OF 'ententelaw08.LexicBack'. -/
def lexicBackUptoCard : Claim7 := { stood := { row := lexicBackUptoRow, standIns := [], harness := (true, "5d6448bb8470d5405f759fa16129cacef4a55a96c1e9aa5945e43dcb31280d1d"), looks := false }, kinds := [], alts := [], laidByText := true, laidKinds := [.data, .pinned], laidTests := true, laidLooks := .later }
def LexicBackUptoCardSaid : Prop := Claim7.holds Tryd.pinned (.plain (OpenSpec.upto lexicBackSpec)) lexicBackUptoCard
end Rows
end Go.Proofs.YtghpbcfkldbpjabDoor

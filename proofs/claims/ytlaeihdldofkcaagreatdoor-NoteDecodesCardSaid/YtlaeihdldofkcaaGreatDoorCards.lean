/-
  DERIVED. GIVEN WITH THE SEED: THE CARDS: each row of YtlaeihdldofkcaaGreatDoorRows.lean that lists a variable, with what it lists TIED to the program's text (the seventh form; the later family's looks); each row that meets fmt, with fmt's text TOLD by the authors' own Lean function (tested against real Go, not proved from fmt's source: count such statements apart). THE CARD IS WHAT COUNTS. Prove the row's statement (the work); the ties are given (YtlaeihdldofkcaaGreatDoorTie.lean); close each card by the builder's one call (the guide's Derived/Test/ToyasCard.lean, 'card_holds'). Laid BY PROGRAM, IN A SANDBOX (cutbox-door.mjs). By AI agents, Wed Nov 11 2026. No macro, syntax, notation, axiom, sorry.
-/
import Derived.Test.YtlaeihdldofkcaaGreatDoorRows
import GoSem.ClaimSeven
namespace Go.Proofs.YtlaeihdldofkcaaGreatDoor
namespace Rows

/-- THE TIED CARD OF 'ententelaw13.NoteEncodes'. -/
def noteEncodesCard : Claim7 := { stood := { row := noteEncodesRow, standIns := [], harness := (true, "4265df6b63e5f7b1ae0e29c698699d51f6ae9f34ffec89417b212600a8ae8e63"), looks := true }, kinds := [], alts := [], laidByText := true, laidKinds := [.data, .data, .data, .data, .sentinel, .sentinel, .pinned], laidTests := true, laidLooks := .later }
def NoteEncodesCardSaid : Prop := Claim7.holds Tryz.pinned (.plain (OpenSpec.ofChange noteEncodesSpec)) noteEncodesCard

/-- THE TIED CARD OF 'ententelaw13.NoteDecodes'. -/
def noteDecodesCard : Claim7 := { stood := { row := noteDecodesRow, standIns := [], harness := (true, "4265df6b63e5f7b1ae0e29c698699d51f6ae9f34ffec89417b212600a8ae8e63"), looks := true }, kinds := [], alts := [], laidByText := true, laidKinds := [.data, .data, .data, .data, .sentinel, .sentinel, .pinned], laidTests := true, laidLooks := .later }
def NoteDecodesCardSaid : Prop := Claim7.holds Tryz.pinned (.plain (OpenSpec.ofChange noteDecodesSpec)) noteDecodesCard

/-- THE SECOND FORM's CARD OF 'ententelaw13.NoteEncodes'. -/
def noteEncodesUptoCard : Claim7 := { stood := { row := noteEncodesUptoRow, standIns := [], harness := (true, "4265df6b63e5f7b1ae0e29c698699d51f6ae9f34ffec89417b212600a8ae8e63"), looks := true }, kinds := [], alts := [], laidByText := true, laidKinds := [.data, .data, .data, .data, .sentinel, .sentinel, .pinned], laidTests := true, laidLooks := .later }
def NoteEncodesUptoCardSaid : Prop := Claim7.holds Tryz.pinned (.plain (OpenSpec.upto noteEncodesSpec)) noteEncodesUptoCard

/-- THE SECOND FORM's CARD OF 'ententelaw13.NoteDecodes'. -/
def noteDecodesUptoCard : Claim7 := { stood := { row := noteDecodesUptoRow, standIns := [], harness := (true, "4265df6b63e5f7b1ae0e29c698699d51f6ae9f34ffec89417b212600a8ae8e63"), looks := true }, kinds := [], alts := [], laidByText := true, laidKinds := [.data, .data, .data, .data, .sentinel, .sentinel, .pinned], laidTests := true, laidLooks := .later }
def NoteDecodesUptoCardSaid : Prop := Claim7.holds Tryz.pinned (.plain (OpenSpec.upto noteDecodesSpec)) noteDecodesUptoCard
end Rows
end Go.Proofs.YtlaeihdldofkcaaGreatDoor

/-
  NARROWER THAN 'FOR EVERY INPUT', by the rows' own cells (each row's printed sentence says how): LexicScans: laid · LexicValues: laid · LexicBlanks: laid · LexicPlaces: laid · LexicShows: laid · LexicBack: laid.
  DERIVED. THE GIVEN ROWS OF THIS SEAT. 6 by the template 'for every input the law returns true; each argument reads behind the call as it read before'; 0 by the template 'total and deterministic' (their statements: YtghpbcfkldbpjabDoorTotals.lean).
  GIVEN WITH THE SEED: the statements are not yours to turn. If you find one false, say at which input.
  Laid BY PROGRAM, IN A SANDBOX (cutbox-rows.mjs): the forced cells as the released guide's own fill.sh prints them over the translation fb4695941f58f233… (all of the seat's roots in one cut). By AI agents, Wed Nov 11 2026. No macro, syntax, notation, axiom, sorry.
-/
import Derived.Test.YtghpbcfkldbpjabDoorChecked
import GoSem.PinnedTables
import GoSem.Claim
import GoSem.ClaimJoined
import GoSem.ClaimMapViews
import Derived.JoinedTies
import Derived.KernelRfl
namespace Go.Proofs.YtghpbcfkldbpjabDoor
/- THE CELL 'sum', in the pinned program and in every row, IS THE sha256 OF THE DUMP (.gsa) THAT YtghpbcfkldbpjabDoorProg.lean LOADS. Nothing in Lean hashes anything: it is a label: what it is worth is what the hold of that sum in a sandbox is worth. -/
noncomputable def Tryd.pinned : Pinned := { name := "ytghpbcfkldbpjabdoor", sum := "fb4695941f58f233b2721d1f29431ed3768daebec4e4241473dacff47369d775", checked := Tryd.checked }
namespace Rows
def none {H : Type} : Left H := { results := [], args := [] }

/- WHAT THE LISTED PACKAGE-LEVEL VARIABLES READ AS WHEN THE CALL BEGINS. Each datum BY PROGRAM (the guide's laid-datum.mjs) off the statement by which the dump's own 'gosem.cut.vars' lays the variable. In a bare row this is a premise. The card (YtghpbcfkldbpjabDoorCards.lean) ties it to the program's text. -/
def laid_unicode_utf8_acceptRanges {H : Type} : DataW H := .agg [.agg [.lit (.int .u8 128), .lit (.int .u8 191)], .agg [.lit (.int .u8 160), .lit (.int .u8 191)], .agg [.lit (.int .u8 128), .lit (.int .u8 159)], .agg [.lit (.int .u8 144), .lit (.int .u8 191)], .agg [.lit (.int .u8 128), .lit (.int .u8 143)], .agg [.lit (.int .u8 0), .lit (.int .u8 0)], .agg [.lit (.int .u8 0), .lit (.int .u8 0)], .agg [.lit (.int .u8 0), .lit (.int .u8 0)], .agg [.lit (.int .u8 0), .lit (.int .u8 0)], .agg [.lit (.int .u8 0), .lit (.int .u8 0)], .agg [.lit (.int .u8 0), .lit (.int .u8 0)], .agg [.lit (.int .u8 0), .lit (.int .u8 0)], .agg [.lit (.int .u8 0), .lit (.int .u8 0)], .agg [.lit (.int .u8 0), .lit (.int .u8 0)], .agg [.lit (.int .u8 0), .lit (.int .u8 0)], .agg [.lit (.int .u8 0), .lit (.int .u8 0)]]
/-- One of Go's own tables, pinned by name: the form's constant. -/
def laid_unicode_utf8_first : DataW Unit := Go.Pinned.utf8First

/-- 'ententelaw08.LexicScans': WHATEVER THE INPUT: true; the input reads as it did. -/
def lexicScansSpec : ChangeSpec := { name := "lexicScans", fn := fun _ => fun
  | [d] => { results := [.lit (.bool true)], args := [d] }
  | _ => none }
def lexicScansRow : OpenClaim := { program := "ytghpbcfkldbpjabdoor", sum := "fb4695941f58f233b2721d1f29431ed3768daebec4e4241473dacff47369d775", func := "entente/ententelaw08.LexicScans", spec := "lexicScans", inPlace := ["internal/bytealg.IndexByteString", "internal/bytealg.IndexString"], unfollowed := true, recurses := true, named := ["unicode/utf8.first", "unicode/utf8.acceptRanges", "internal/bytealg.MaxLen"], apart := false, laid := [("unicode/utf8.acceptRanges", laid_unicode_utf8_acceptRanges), ("unicode/utf8.first", laid_unicode_utf8_first)] }
def LexicScansSaid : Prop := lexicScansRow.holds Tryd.pinned (OpenSpec.ofChange lexicScansSpec)

/-- ITS FALSE NEIGHBOUR: 'it returns false'. Refute it at one input. -/
def lexicScansWrong : ChangeSpec := { name := "lexicScans", fn := fun _ => fun
  | [d] => { results := [.lit (.bool false)], args := [d] }
  | _ => none }
def LexicScansWrongFalsely : Prop := lexicScansRow.holds Tryd.pinned (OpenSpec.ofChange lexicScansWrong)

/-- 'ententelaw08.LexicValues': WHATEVER THE INPUT: true; the input reads as it did. -/
def lexicValuesSpec : ChangeSpec := { name := "lexicValues", fn := fun _ => fun
  | [d] => { results := [.lit (.bool true)], args := [d] }
  | _ => none }
def lexicValuesRow : OpenClaim := { program := "ytghpbcfkldbpjabdoor", sum := "fb4695941f58f233b2721d1f29431ed3768daebec4e4241473dacff47369d775", func := "entente/ententelaw08.LexicValues", spec := "lexicValues", inPlace := ["internal/bytealg.IndexByteString", "internal/bytealg.IndexString"], unfollowed := true, recurses := true, named := ["unicode/utf8.first", "unicode/utf8.acceptRanges", "internal/bytealg.MaxLen"], apart := false, laid := [("unicode/utf8.acceptRanges", laid_unicode_utf8_acceptRanges), ("unicode/utf8.first", laid_unicode_utf8_first)] }
def LexicValuesSaid : Prop := lexicValuesRow.holds Tryd.pinned (OpenSpec.ofChange lexicValuesSpec)

/-- ITS FALSE NEIGHBOUR: 'it returns false'. Refute it at one input. -/
def lexicValuesWrong : ChangeSpec := { name := "lexicValues", fn := fun _ => fun
  | [d] => { results := [.lit (.bool false)], args := [d] }
  | _ => none }
def LexicValuesWrongFalsely : Prop := lexicValuesRow.holds Tryd.pinned (OpenSpec.ofChange lexicValuesWrong)

/-- 'ententelaw08.LexicBlanks': WHATEVER THE INPUT: true; the input reads as it did. -/
def lexicBlanksSpec : ChangeSpec := { name := "lexicBlanks", fn := fun _ => fun
  | [d] => { results := [.lit (.bool true)], args := [d] }
  | _ => none }
def lexicBlanksRow : OpenClaim := { program := "ytghpbcfkldbpjabdoor", sum := "fb4695941f58f233b2721d1f29431ed3768daebec4e4241473dacff47369d775", func := "entente/ententelaw08.LexicBlanks", spec := "lexicBlanks", inPlace := ["internal/bytealg.IndexByteString", "internal/bytealg.IndexString"], unfollowed := true, recurses := true, named := ["unicode/utf8.first", "unicode/utf8.acceptRanges", "internal/bytealg.MaxLen"], apart := false, laid := [("unicode/utf8.acceptRanges", laid_unicode_utf8_acceptRanges), ("unicode/utf8.first", laid_unicode_utf8_first)] }
def LexicBlanksSaid : Prop := lexicBlanksRow.holds Tryd.pinned (OpenSpec.ofChange lexicBlanksSpec)

/-- ITS FALSE NEIGHBOUR: 'it returns false'. Refute it at one input. -/
def lexicBlanksWrong : ChangeSpec := { name := "lexicBlanks", fn := fun _ => fun
  | [d] => { results := [.lit (.bool false)], args := [d] }
  | _ => none }
def LexicBlanksWrongFalsely : Prop := lexicBlanksRow.holds Tryd.pinned (OpenSpec.ofChange lexicBlanksWrong)

/-- 'ententelaw08.LexicPlaces': WHATEVER THE INPUT: true; the input reads as it did. -/
def lexicPlacesSpec : ChangeSpec := { name := "lexicPlaces", fn := fun _ => fun
  | [d] => { results := [.lit (.bool true)], args := [d] }
  | _ => none }
def lexicPlacesRow : OpenClaim := { program := "ytghpbcfkldbpjabdoor", sum := "fb4695941f58f233b2721d1f29431ed3768daebec4e4241473dacff47369d775", func := "entente/ententelaw08.LexicPlaces", spec := "lexicPlaces", inPlace := ["internal/bytealg.IndexByteString", "internal/bytealg.IndexString"], unfollowed := true, recurses := true, named := ["unicode/utf8.first", "unicode/utf8.acceptRanges", "internal/bytealg.MaxLen"], apart := false, laid := [("unicode/utf8.acceptRanges", laid_unicode_utf8_acceptRanges), ("unicode/utf8.first", laid_unicode_utf8_first)] }
def LexicPlacesSaid : Prop := lexicPlacesRow.holds Tryd.pinned (OpenSpec.ofChange lexicPlacesSpec)

/-- ITS FALSE NEIGHBOUR: 'it returns false'. Refute it at one input. -/
def lexicPlacesWrong : ChangeSpec := { name := "lexicPlaces", fn := fun _ => fun
  | [d] => { results := [.lit (.bool false)], args := [d] }
  | _ => none }
def LexicPlacesWrongFalsely : Prop := lexicPlacesRow.holds Tryd.pinned (OpenSpec.ofChange lexicPlacesWrong)

/-- 'ententelaw08.LexicShows': WHATEVER THE INPUT: true; the input reads as it did. -/
def lexicShowsSpec : ChangeSpec := { name := "lexicShows", fn := fun _ => fun
  | [d] => { results := [.lit (.bool true)], args := [d] }
  | _ => none }
def lexicShowsRow : OpenClaim := { program := "ytghpbcfkldbpjabdoor", sum := "fb4695941f58f233b2721d1f29431ed3768daebec4e4241473dacff47369d775", func := "entente/ententelaw08.LexicShows", spec := "lexicShows", inPlace := ["internal/bytealg.IndexByteString", "internal/bytealg.IndexString", "internal/abi.NoEscape", "internal/bytealg.MakeNoZero"], unfollowed := true, recurses := true, named := ["unicode/utf8.first", "unicode/utf8.acceptRanges", "internal/bytealg.MaxLen"], apart := false, laid := [("unicode/utf8.acceptRanges", laid_unicode_utf8_acceptRanges), ("unicode/utf8.first", laid_unicode_utf8_first)] }
def LexicShowsSaid : Prop := lexicShowsRow.holds Tryd.pinned (OpenSpec.ofChange lexicShowsSpec)

/-- ITS FALSE NEIGHBOUR: 'it returns false'. Refute it at one input. -/
def lexicShowsWrong : ChangeSpec := { name := "lexicShows", fn := fun _ => fun
  | [d] => { results := [.lit (.bool false)], args := [d] }
  | _ => none }
def LexicShowsWrongFalsely : Prop := lexicShowsRow.holds Tryd.pinned (OpenSpec.ofChange lexicShowsWrong)

/-- 'ententelaw08.LexicBack': WHATEVER THE INPUT: true; the input reads as it did. -/
def lexicBackSpec : ChangeSpec := { name := "lexicBack", fn := fun _ => fun
  | [d] => { results := [.lit (.bool true)], args := [d] }
  | _ => none }
def lexicBackRow : OpenClaim := { program := "ytghpbcfkldbpjabdoor", sum := "fb4695941f58f233b2721d1f29431ed3768daebec4e4241473dacff47369d775", func := "entente/ententelaw08.LexicBack", spec := "lexicBack", inPlace := ["internal/bytealg.IndexByteString", "internal/bytealg.IndexString", "internal/abi.NoEscape", "internal/bytealg.MakeNoZero"], unfollowed := true, recurses := true, named := ["unicode/utf8.first", "unicode/utf8.acceptRanges", "internal/bytealg.MaxLen"], apart := false, laid := [("unicode/utf8.acceptRanges", laid_unicode_utf8_acceptRanges), ("unicode/utf8.first", laid_unicode_utf8_first)] }
def LexicBackSaid : Prop := lexicBackRow.holds Tryd.pinned (OpenSpec.ofChange lexicBackSpec)

/-- ITS FALSE NEIGHBOUR: 'it returns false'. Refute it at one input. -/
def lexicBackWrong : ChangeSpec := { name := "lexicBack", fn := fun _ => fun
  | [d] => { results := [.lit (.bool false)], args := [d] }
  | _ => none }
def LexicBackWrongFalsely : Prop := lexicBackRow.holds Tryd.pinned (OpenSpec.ofChange lexicBackWrong)

/- THE SECOND FORM. 'bulk': how many values and letters a reading holds, each counted each time it is reached (what is shared counts as often as it is met; a slice's spare places count too). A statement '..UptoSaid' is the law's where the arguments, and the package variables that the reading takes, are together of bulk at most 1048576: NARROWER than '..Said'. Prove '..Said' where nothing that the law and all that it calls make is longer than what came in: it says more and counts as full. Else prove '..UptoSaid'. A law counts once. -/
mutual
def uptoBulk {H : Type} : DataW H → Nat
  | .lit (.string bytes) => bytes.length + 1
  | .lit _ => 1
  | .nil => 1
  | .ptr d => uptoBulk d + 1
  | .slice elems spare => uptoBulkAll elems + uptoBulkAll spare + 1
  | .agg parts => uptoBulkAll parts + 1
  | .iface _ d => uptoBulk d + 1
  | .map entries => uptoBulkEntries entries + 1
  | .held _ => 1
def uptoBulkAll {H : Type} : List (DataW H) → Nat
  | [] => 0
  | d :: r => uptoBulk d + uptoBulkAll r
def uptoBulkEntries {H : Type} : List (Lit × DataW H) → Nat
  | [] => 0
  | x :: r => uptoBulkEntry x + uptoBulkEntries r
def uptoBulkEntry {H : Type} : Lit × DataW H → Nat
  | (.string bytes, d) => bytes.length + uptoBulk d + 1
  | (_, d) => uptoBulk d + 1
 end
def uptoSmall : (H : Type) → List (DataW H) → Bool := fun _ ds => decide (uptoBulkAll ds ≤ 1048576)
def OpenSpec.upto (s : _root_.Go.ChangeSpec) : _root_.Go.OpenSpec := { _root_.Go.OpenSpec.ofChange s with cond := some uptoSmall }

/-- 'ententelaw08.LexicScans', WHERE WHAT IT READS IS OF BULK AT MOST 1048576: true; the input reads as it did. -/
def lexicScansUptoRow : OpenClaim := { program := "ytghpbcfkldbpjabdoor", sum := "fb4695941f58f233b2721d1f29431ed3768daebec4e4241473dacff47369d775", func := "entente/ententelaw08.LexicScans", spec := "lexicScans", inPlace := ["internal/bytealg.IndexByteString", "internal/bytealg.IndexString"], unfollowed := true, recurses := true, named := ["unicode/utf8.first", "unicode/utf8.acceptRanges", "internal/bytealg.MaxLen"], apart := false, laid := [("unicode/utf8.acceptRanges", laid_unicode_utf8_acceptRanges), ("unicode/utf8.first", laid_unicode_utf8_first)], narrowed := true }
def LexicScansUptoSaid : Prop := lexicScansUptoRow.holds Tryd.pinned (OpenSpec.upto lexicScansSpec)

/-- 'ententelaw08.LexicValues', WHERE WHAT IT READS IS OF BULK AT MOST 1048576: true; the input reads as it did. -/
def lexicValuesUptoRow : OpenClaim := { program := "ytghpbcfkldbpjabdoor", sum := "fb4695941f58f233b2721d1f29431ed3768daebec4e4241473dacff47369d775", func := "entente/ententelaw08.LexicValues", spec := "lexicValues", inPlace := ["internal/bytealg.IndexByteString", "internal/bytealg.IndexString"], unfollowed := true, recurses := true, named := ["unicode/utf8.first", "unicode/utf8.acceptRanges", "internal/bytealg.MaxLen"], apart := false, laid := [("unicode/utf8.acceptRanges", laid_unicode_utf8_acceptRanges), ("unicode/utf8.first", laid_unicode_utf8_first)], narrowed := true }
def LexicValuesUptoSaid : Prop := lexicValuesUptoRow.holds Tryd.pinned (OpenSpec.upto lexicValuesSpec)

/-- 'ententelaw08.LexicBlanks', WHERE WHAT IT READS IS OF BULK AT MOST 1048576: true; the input reads as it did. -/
def lexicBlanksUptoRow : OpenClaim := { program := "ytghpbcfkldbpjabdoor", sum := "fb4695941f58f233b2721d1f29431ed3768daebec4e4241473dacff47369d775", func := "entente/ententelaw08.LexicBlanks", spec := "lexicBlanks", inPlace := ["internal/bytealg.IndexByteString", "internal/bytealg.IndexString"], unfollowed := true, recurses := true, named := ["unicode/utf8.first", "unicode/utf8.acceptRanges", "internal/bytealg.MaxLen"], apart := false, laid := [("unicode/utf8.acceptRanges", laid_unicode_utf8_acceptRanges), ("unicode/utf8.first", laid_unicode_utf8_first)], narrowed := true }
def LexicBlanksUptoSaid : Prop := lexicBlanksUptoRow.holds Tryd.pinned (OpenSpec.upto lexicBlanksSpec)

/-- 'ententelaw08.LexicPlaces', WHERE WHAT IT READS IS OF BULK AT MOST 1048576: true; the input reads as it did. -/
def lexicPlacesUptoRow : OpenClaim := { program := "ytghpbcfkldbpjabdoor", sum := "fb4695941f58f233b2721d1f29431ed3768daebec4e4241473dacff47369d775", func := "entente/ententelaw08.LexicPlaces", spec := "lexicPlaces", inPlace := ["internal/bytealg.IndexByteString", "internal/bytealg.IndexString"], unfollowed := true, recurses := true, named := ["unicode/utf8.first", "unicode/utf8.acceptRanges", "internal/bytealg.MaxLen"], apart := false, laid := [("unicode/utf8.acceptRanges", laid_unicode_utf8_acceptRanges), ("unicode/utf8.first", laid_unicode_utf8_first)], narrowed := true }
def LexicPlacesUptoSaid : Prop := lexicPlacesUptoRow.holds Tryd.pinned (OpenSpec.upto lexicPlacesSpec)

/-- 'ententelaw08.LexicShows', WHERE WHAT IT READS IS OF BULK AT MOST 1048576: true; the input reads as it did. -/
def lexicShowsUptoRow : OpenClaim := { program := "ytghpbcfkldbpjabdoor", sum := "fb4695941f58f233b2721d1f29431ed3768daebec4e4241473dacff47369d775", func := "entente/ententelaw08.LexicShows", spec := "lexicShows", inPlace := ["internal/bytealg.IndexByteString", "internal/bytealg.IndexString", "internal/abi.NoEscape", "internal/bytealg.MakeNoZero"], unfollowed := true, recurses := true, named := ["unicode/utf8.first", "unicode/utf8.acceptRanges", "internal/bytealg.MaxLen"], apart := false, laid := [("unicode/utf8.acceptRanges", laid_unicode_utf8_acceptRanges), ("unicode/utf8.first", laid_unicode_utf8_first)], narrowed := true }
def LexicShowsUptoSaid : Prop := lexicShowsUptoRow.holds Tryd.pinned (OpenSpec.upto lexicShowsSpec)

/-- 'ententelaw08.LexicBack', WHERE WHAT IT READS IS OF BULK AT MOST 1048576: true; the input reads as it did. -/
def lexicBackUptoRow : OpenClaim := { program := "ytghpbcfkldbpjabdoor", sum := "fb4695941f58f233b2721d1f29431ed3768daebec4e4241473dacff47369d775", func := "entente/ententelaw08.LexicBack", spec := "lexicBack", inPlace := ["internal/bytealg.IndexByteString", "internal/bytealg.IndexString", "internal/abi.NoEscape", "internal/bytealg.MakeNoZero"], unfollowed := true, recurses := true, named := ["unicode/utf8.first", "unicode/utf8.acceptRanges", "internal/bytealg.MaxLen"], apart := false, laid := [("unicode/utf8.acceptRanges", laid_unicode_utf8_acceptRanges), ("unicode/utf8.first", laid_unicode_utf8_first)], narrowed := true }
def LexicBackUptoSaid : Prop := lexicBackUptoRow.holds Tryd.pinned (OpenSpec.upto lexicBackSpec)

end Rows
end Go.Proofs.YtghpbcfkldbpjabDoor

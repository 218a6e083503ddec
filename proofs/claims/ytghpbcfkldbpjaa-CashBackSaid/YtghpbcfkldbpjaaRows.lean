/-
  No cell of these rows narrows 'for every input' (looked for: loops, veiled, ifaces, maps, wideKeys, modest, calm, conditions, laid).
  DERIVED. THE GIVEN ROWS OF THIS SEAT. 6 by the template 'for every input the law returns true; each argument reads behind the call as it read before'; 0 by the template 'total and deterministic' (their statements: YtghpbcfkldbpjaaTotals.lean).
  GIVEN WITH THE SEED: the statements are not yours to turn. If you find one false, say at which input.
  Laid BY PROGRAM, IN A SANDBOX (cutbox-rows.mjs): the forced cells as the released guide's own fill.sh prints them over the translation a1123a256557182b… (all of the seat's roots in one cut). By AI agents, Wed Nov 11 2026. No macro, syntax, notation, axiom, sorry.
-/
import Derived.Test.YtghpbcfkldbpjaaChecked
import GoSem.Claim
import GoSem.ClaimJoined
import GoSem.ClaimMapViews
import Derived.JoinedTies
import Derived.KernelRfl
namespace Go.Proofs.Ytghpbcfkldbpjaa
/- THE CELL 'sum', in the pinned program and in every row, IS THE sha256 OF THE DUMP (.gsa) THAT YtghpbcfkldbpjaaProg.lean LOADS. Nothing in Lean hashes anything: it is a label: what it is worth is what the hold of that sum in a sandbox is worth. -/
noncomputable def Try.pinned : Pinned := { name := "ytghpbcfkldbpjaa", sum := "a1123a256557182b36d4091831fd79e7ac91ee315488060860ad5402e0cbfea9", checked := Try.checked }
namespace Rows
def none {H : Type} : Left H := { results := [], args := [] }

/-- 'ententelaw04.CashSums': WHATEVER THE INPUT: true; the input reads as it did. -/
def cashSumsSpec : ChangeSpec := { name := "cashSums", fn := fun _ => fun
  | [d] => { results := [.lit (.bool true)], args := [d] }
  | _ => none }
def cashSumsRow : OpenClaim := { program := "ytghpbcfkldbpjaa", sum := "a1123a256557182b36d4091831fd79e7ac91ee315488060860ad5402e0cbfea9", func := "entente/ententelaw04.CashSums", spec := "cashSums", inPlace := ["math/bits.Add64", "internal/bytealg.IndexByteString", "internal/bytealg.IndexString"], named := ["internal/bytealg.MaxLen"], apart := false }
def CashSumsSaid : Prop := cashSumsRow.holds Try.pinned (OpenSpec.ofChange cashSumsSpec)

/-- ITS FALSE NEIGHBOUR: 'it returns false'. Refute it at one input. -/
def cashSumsWrong : ChangeSpec := { name := "cashSums", fn := fun _ => fun
  | [d] => { results := [.lit (.bool false)], args := [d] }
  | _ => none }
def CashSumsWrongFalsely : Prop := cashSumsRow.holds Try.pinned (OpenSpec.ofChange cashSumsWrong)

/-- 'ententelaw04.CashTimes': WHATEVER THE INPUT: true; the input reads as it did. -/
def cashTimesSpec : ChangeSpec := { name := "cashTimes", fn := fun _ => fun
  | [d1, d2] => { results := [.lit (.bool true)], args := [d1, d2] }
  | _ => none }
def cashTimesRow : OpenClaim := { program := "ytghpbcfkldbpjaa", sum := "a1123a256557182b36d4091831fd79e7ac91ee315488060860ad5402e0cbfea9", func := "entente/ententelaw04.CashTimes", spec := "cashTimes", inPlace := ["math/bits.Add64", "internal/bytealg.IndexByteString", "internal/bytealg.IndexString"], named := ["internal/bytealg.MaxLen"], apart := false }
def CashTimesSaid : Prop := cashTimesRow.holds Try.pinned (OpenSpec.ofChange cashTimesSpec)

/-- ITS FALSE NEIGHBOUR: 'it returns false'. Refute it at one input. -/
def cashTimesWrong : ChangeSpec := { name := "cashTimes", fn := fun _ => fun
  | [d1, d2] => { results := [.lit (.bool false)], args := [d1, d2] }
  | _ => none }
def CashTimesWrongFalsely : Prop := cashTimesRow.holds Try.pinned (OpenSpec.ofChange cashTimesWrong)

/-- 'ententelaw04.CashTexts': WHATEVER THE INPUT: true; the input reads as it did. -/
def cashTextsSpec : ChangeSpec := { name := "cashTexts", fn := fun _ => fun
  | [d1, d2] => { results := [.lit (.bool true)], args := [d1, d2] }
  | _ => none }
def cashTextsRow : OpenClaim := { program := "ytghpbcfkldbpjaa", sum := "a1123a256557182b36d4091831fd79e7ac91ee315488060860ad5402e0cbfea9", func := "entente/ententelaw04.CashTexts", spec := "cashTexts", inPlace := ["internal/bytealg.IndexByteString", "internal/bytealg.IndexString", "math/bits.Add64"], recurses := true, named := ["internal/bytealg.MaxLen"], apart := false }
def CashTextsSaid : Prop := cashTextsRow.holds Try.pinned (OpenSpec.ofChange cashTextsSpec)

/-- ITS FALSE NEIGHBOUR: 'it returns false'. Refute it at one input. -/
def cashTextsWrong : ChangeSpec := { name := "cashTexts", fn := fun _ => fun
  | [d1, d2] => { results := [.lit (.bool false)], args := [d1, d2] }
  | _ => none }
def CashTextsWrongFalsely : Prop := cashTextsRow.holds Try.pinned (OpenSpec.ofChange cashTextsWrong)

/-- 'ententelaw04.CashOrder': WHATEVER THE INPUT: true; the input reads as it did. -/
def cashOrderSpec : ChangeSpec := { name := "cashOrder", fn := fun _ => fun
  | [d1, d2] => { results := [.lit (.bool true)], args := [d1, d2] }
  | _ => none }
def cashOrderRow : OpenClaim := { program := "ytghpbcfkldbpjaa", sum := "a1123a256557182b36d4091831fd79e7ac91ee315488060860ad5402e0cbfea9", func := "entente/ententelaw04.CashOrder", spec := "cashOrder", inPlace := ["math/bits.Add64", "internal/bytealg.IndexByteString", "internal/bytealg.IndexString"], named := ["internal/bytealg.MaxLen"], apart := false }
def CashOrderSaid : Prop := cashOrderRow.holds Try.pinned (OpenSpec.ofChange cashOrderSpec)

/-- ITS FALSE NEIGHBOUR: 'it returns false'. Refute it at one input. -/
def cashOrderWrong : ChangeSpec := { name := "cashOrder", fn := fun _ => fun
  | [d1, d2] => { results := [.lit (.bool false)], args := [d1, d2] }
  | _ => none }
def CashOrderWrongFalsely : Prop := cashOrderRow.holds Try.pinned (OpenSpec.ofChange cashOrderWrong)

/-- 'ententelaw04.CashMany': WHATEVER THE INPUT: true; the input reads as it did. -/
def cashManySpec : ChangeSpec := { name := "cashMany", fn := fun _ => fun
  | [d1, d2] => { results := [.lit (.bool true)], args := [d1, d2] }
  | _ => none }
def cashManyRow : OpenClaim := { program := "ytghpbcfkldbpjaa", sum := "a1123a256557182b36d4091831fd79e7ac91ee315488060860ad5402e0cbfea9", func := "entente/ententelaw04.CashMany", spec := "cashMany", inPlace := ["math/bits.Add64", "internal/bytealg.IndexByteString", "internal/bytealg.IndexString"], named := ["internal/bytealg.MaxLen"], apart := false }
def CashManySaid : Prop := cashManyRow.holds Try.pinned (OpenSpec.ofChange cashManySpec)

/-- ITS FALSE NEIGHBOUR: 'it returns false'. Refute it at one input. -/
def cashManyWrong : ChangeSpec := { name := "cashMany", fn := fun _ => fun
  | [d1, d2] => { results := [.lit (.bool false)], args := [d1, d2] }
  | _ => none }
def CashManyWrongFalsely : Prop := cashManyRow.holds Try.pinned (OpenSpec.ofChange cashManyWrong)

/-- 'ententelaw04.CashBack': WHATEVER THE INPUT: true; the input reads as it did. -/
def cashBackSpec : ChangeSpec := { name := "cashBack", fn := fun _ => fun
  | [d1, d2] => { results := [.lit (.bool true)], args := [d1, d2] }
  | _ => none }
def cashBackRow : OpenClaim := { program := "ytghpbcfkldbpjaa", sum := "a1123a256557182b36d4091831fd79e7ac91ee315488060860ad5402e0cbfea9", func := "entente/ententelaw04.CashBack", spec := "cashBack", inPlace := ["internal/bytealg.IndexByteString", "internal/bytealg.IndexString", "math/bits.Add64"], named := ["internal/bytealg.MaxLen"], apart := false }
def CashBackSaid : Prop := cashBackRow.holds Try.pinned (OpenSpec.ofChange cashBackSpec)

/-- ITS FALSE NEIGHBOUR: 'it returns false'. Refute it at one input. -/
def cashBackWrong : ChangeSpec := { name := "cashBack", fn := fun _ => fun
  | [d1, d2] => { results := [.lit (.bool false)], args := [d1, d2] }
  | _ => none }
def CashBackWrongFalsely : Prop := cashBackRow.holds Try.pinned (OpenSpec.ofChange cashBackWrong)

/- THE SECOND FORM. 'bulk': how many values and letters a reading holds, each counted each time it is reached (what is shared counts as often as it is met; a slice's spare places count too). A statement '..UptoSaid' is the law's where the arguments, and the package variables that the reading takes, are together of bulk at most 1048576: NARROWER than '..Said'. Prove '..Said' where nothing that the law and all that it calls make is longer than what came in: it says more and counts as full. Else prove '..UptoSaid'. A law counts once. -/
mutual
def uptoBulk {H : Type} : DataW H → Nat
  | .lit (.string bytes) => bytes.length + 1
  | .lit _ => 1
  | .nil => 1
  | .ptr d => uptoBulk d + 1
  | .slice elems spare => uptoBulkAll elems + uptoBulkAll spare + 1
  | .agg parts => uptoBulkAll parts + 1
  | .iface _ d => uptoBulk d + 1
  | .map entries => uptoBulkEntries entries + 1
  | .held _ => 1
def uptoBulkAll {H : Type} : List (DataW H) → Nat
  | [] => 0
  | d :: r => uptoBulk d + uptoBulkAll r
def uptoBulkEntries {H : Type} : List (Lit × DataW H) → Nat
  | [] => 0
  | x :: r => uptoBulkEntry x + uptoBulkEntries r
def uptoBulkEntry {H : Type} : Lit × DataW H → Nat
  | (.string bytes, d) => bytes.length + uptoBulk d + 1
  | (_, d) => uptoBulk d + 1
 end
def uptoSmall : (H : Type) → List (DataW H) → Bool := fun _ ds => decide (uptoBulkAll ds ≤ 1048576)
def OpenSpec.upto (s : _root_.Go.ChangeSpec) : _root_.Go.OpenSpec := { _root_.Go.OpenSpec.ofChange s with cond := some uptoSmall }

/-- 'ententelaw04.CashSums', WHERE WHAT IT READS IS OF BULK AT MOST 1048576: true; the input reads as it did. -/
def cashSumsUptoRow : OpenClaim := { program := "ytghpbcfkldbpjaa", sum := "a1123a256557182b36d4091831fd79e7ac91ee315488060860ad5402e0cbfea9", func := "entente/ententelaw04.CashSums", spec := "cashSums", inPlace := ["math/bits.Add64", "internal/bytealg.IndexByteString", "internal/bytealg.IndexString"], named := ["internal/bytealg.MaxLen"], apart := false, narrowed := true }
def CashSumsUptoSaid : Prop := cashSumsUptoRow.holds Try.pinned (OpenSpec.upto cashSumsSpec)

/-- 'ententelaw04.CashTimes', WHERE WHAT IT READS IS OF BULK AT MOST 1048576: true; the input reads as it did. -/
def cashTimesUptoRow : OpenClaim := { program := "ytghpbcfkldbpjaa", sum := "a1123a256557182b36d4091831fd79e7ac91ee315488060860ad5402e0cbfea9", func := "entente/ententelaw04.CashTimes", spec := "cashTimes", inPlace := ["math/bits.Add64", "internal/bytealg.IndexByteString", "internal/bytealg.IndexString"], named := ["internal/bytealg.MaxLen"], apart := false, narrowed := true }
def CashTimesUptoSaid : Prop := cashTimesUptoRow.holds Try.pinned (OpenSpec.upto cashTimesSpec)

/-- 'ententelaw04.CashTexts', WHERE WHAT IT READS IS OF BULK AT MOST 1048576: true; the input reads as it did. -/
def cashTextsUptoRow : OpenClaim := { program := "ytghpbcfkldbpjaa", sum := "a1123a256557182b36d4091831fd79e7ac91ee315488060860ad5402e0cbfea9", func := "entente/ententelaw04.CashTexts", spec := "cashTexts", inPlace := ["internal/bytealg.IndexByteString", "internal/bytealg.IndexString", "math/bits.Add64"], recurses := true, named := ["internal/bytealg.MaxLen"], apart := false, narrowed := true }
def CashTextsUptoSaid : Prop := cashTextsUptoRow.holds Try.pinned (OpenSpec.upto cashTextsSpec)

/-- 'ententelaw04.CashOrder', WHERE WHAT IT READS IS OF BULK AT MOST 1048576: true; the input reads as it did. -/
def cashOrderUptoRow : OpenClaim := { program := "ytghpbcfkldbpjaa", sum := "a1123a256557182b36d4091831fd79e7ac91ee315488060860ad5402e0cbfea9", func := "entente/ententelaw04.CashOrder", spec := "cashOrder", inPlace := ["math/bits.Add64", "internal/bytealg.IndexByteString", "internal/bytealg.IndexString"], named := ["internal/bytealg.MaxLen"], apart := false, narrowed := true }
def CashOrderUptoSaid : Prop := cashOrderUptoRow.holds Try.pinned (OpenSpec.upto cashOrderSpec)

/-- 'ententelaw04.CashMany', WHERE WHAT IT READS IS OF BULK AT MOST 1048576: true; the input reads as it did. -/
def cashManyUptoRow : OpenClaim := { program := "ytghpbcfkldbpjaa", sum := "a1123a256557182b36d4091831fd79e7ac91ee315488060860ad5402e0cbfea9", func := "entente/ententelaw04.CashMany", spec := "cashMany", inPlace := ["math/bits.Add64", "internal/bytealg.IndexByteString", "internal/bytealg.IndexString"], named := ["internal/bytealg.MaxLen"], apart := false, narrowed := true }
def CashManyUptoSaid : Prop := cashManyUptoRow.holds Try.pinned (OpenSpec.upto cashManySpec)

/-- 'ententelaw04.CashBack', WHERE WHAT IT READS IS OF BULK AT MOST 1048576: true; the input reads as it did. -/
def cashBackUptoRow : OpenClaim := { program := "ytghpbcfkldbpjaa", sum := "a1123a256557182b36d4091831fd79e7ac91ee315488060860ad5402e0cbfea9", func := "entente/ententelaw04.CashBack", spec := "cashBack", inPlace := ["internal/bytealg.IndexByteString", "internal/bytealg.IndexString", "math/bits.Add64"], named := ["internal/bytealg.MaxLen"], apart := false, narrowed := true }
def CashBackUptoSaid : Prop := cashBackUptoRow.holds Try.pinned (OpenSpec.upto cashBackSpec)

end Rows
end Go.Proofs.Ytghpbcfkldbpjaa

/- The machine side of this seat's laws: plain functions, and proofs that the calls do what they say; written by a program of this session over the translation; no conditions beyond those typed. -/
import Derived.Test.YtghpbcfkldbpjaaProg
import Derived.Laws.Externs
import Derived.Lib.Bytealg
import Derived.Below
import Derived.Deep.Draws
import Derived.Deep.AppendLies
import Derived.Maps.AppendAt
import Derived.OwnWalk
import Derived.Laws.BytesArg
import Derived.Laws.MakeOwn
import Derived.Laws.OwnMore
import Derived.Deep.OwnRows
import Derived.Tactics
import Derived.Lib.ConvBytes
import Derived.Laws.Slices
import Derived.WalkKit
import Derived.KernelRfl
import Derived.RowKit3
import Derived.Deep.LoopGhost
import Derived.Deep.QuietTactic
import Derived.BigQuiet
import Derived.WideLaws
import Derived.Deep.DeepCutAuto
import Derived.Deep.CutBlock
import Derived.Deep.RegionHeld3
import Derived.Laws.Rows
import Derived.Lib.AppendStr
import Derived.ArgAppend
import Derived.Laws.IdiomCopy
import Derived.OrdersHeld
import Derived.Laws.BitsLemmas
import Derived.RowKit
import Derived.Test.YtghpbcfkldbpjaaWWords
import Derived.Test.YtghpbcfkldbpjaaWLast
import Derived.Test.YtghpbcfkldbpjaaWTab
import Derived.Test.YtghpbcfkldbpjaaWFour
import Derived.Test.YtghpbcfkldbpjaaWQPut
import Derived.Test.YtghpbcfkldbpjaaWApart
import Derived.Test.YtghpbcfkldbpjaaWArr
import Derived.Test.YtghpbcfkldbpjaaWZeros
import Derived.Test.YtghpbcfkldbpjaaWFoot
import Derived.Test.YtghpbcfkldbpjaaWKept
import Derived.Test.YtghpbcfkldbpjaaWShare
import Derived.Test.YtghpbcfkldbpjaaWN
import Derived.Test.YtghpbcfkldbpjaaWFootNe
import Derived.Test.YtghpbcfkldbpjaaWAt
import Derived.Test.YtghpbcfkldbpjaaWEqStruct
import Derived.Test.YtghpbcfkldbpjaaWRepsOne
import Derived.Test.YtghpbcfkldbpjaaWInv
import Derived.Test.YtghpbcfkldbpjaaWInvWords
import Derived.Test.YtghpbcfkldbpjaaWGuard
import Derived.Test.YtghpbcfkldbpjaaWNEv
import Derived.Test.YtghpbcfkldbpjaaWMore
namespace Go.Proofs.Ytghpbcfkldbpjaa.PC
open Go.RowKit Go.Proofs.YtghpbcfkldbpjaaW.PrintWords Go.Proofs.YtghpbcfkldbpjaaW.PrintLast Go.Proofs.YtghpbcfkldbpjaaW.PrintMore
attribute [local go_sem] max2_int min2_int max_two min_two max_three min_three max_four min_four   -- for this text's walks alone
set_option linter.unusedVariables false
set_option linter.unusedSimpArgs false



def errW : Option Int → Value
  | none => .nilIface
  | some c => .iface 0 (.int .i64 c)
theorem errW_none : errW none = .nilIface := rfl
theorem errW_some (c : Int) : errW (some c) = .iface 0 (.int .i64 c) := rfl

def xt_add64s (x y : Int) : Int := (((x.toNat + y.toNat) % 18446744073709551616 : Nat) : Int)
def xt_add64c (x y : Int) : Int := (((x.toNat + y.toNat) / 18446744073709551616 : Nat) : Int)
theorem xt_add64 (x y : Int) (w : World) : (callFunc 28 #[.int .u64 x, .int .u64 y, .int .u64 0]).run Try.prog w = .ok (.value (.tuple #[.int .u64 (xt_add64s x y), .int .u64 (xt_add64c x y)])) w := by
  rw [run_callFunc_extern Try.func28 (by kernel_rfl) (by kernel_rfl) (by kernel_rfl) (e := add64Entry) (by kernel_rfl)]
  rfl
attribute [go_sem] xt_add64
def xt_indexByte (s : ByteArray) (c : Int) : Int := Lib.indexByte s.data.toList c.toNat.toUInt8
theorem xt_ixb (s : ByteArray) (c : Int) (w : World) : (callFunc 37 #[.string s, .int .u8 c]).run Try.prog w = .ok (.value (.int .i64 (xt_indexByte s c))) w := by
  rw [run_callFunc_extern Try.func37 (by kernel_rfl) (by kernel_rfl) (by kernel_rfl) (e := Extern.BytealgIndexByte.indexByte) (by kernel_rfl), Lib.run_indexByteString]
  rfl
attribute [go_sem] xt_ixb
theorem info2 : (Try.prog.info? 2).map (fun i => (i.zero, i.size, i.bytes)) = some (some (.int .i64 0), 1, 8) := by kernel_rfl
theorem info5 : (Try.prog.info? 5).map (fun i => (i.zero, i.size, i.bytes)) = some (some (.int .u8 0), 1, 1) := by kernel_rfl
-- the values' own types

end Go.Proofs.Ytghpbcfkldbpjaa.PC

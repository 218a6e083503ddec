/- Notes with few hops. -/
import Derived.Test.YtlaeihdldofkcaaGreatDoorBase
import Derived.Test.YtlaeihdldofkcaaGreatDoorPMx12
namespace Go.Proofs.YtlaeihdldofkcaaGreatDoor.NG
open Go.RowKit Go.Proofs.YtlaeihdldofkcaaGreatDoorW.PrintWords Go.Proofs.YtlaeihdldofkcaaGreatDoor.B Go.Proofs.YtlaeihdldofkcaaGreatDoor.PN
set_option linter.unusedSimpArgs false
set_option linter.unusedVariables false
theorem few_eq (a0 a1 a2:Int) (l:List S46) (s:ByteArray) (a5:Int):ententelaw13_few.f a0 a1 a2 l s a5=some (decide (l.length≤200∧s.size≤10000)):=by
  unfold ententelaw13_few.f
  by_cases h:l.length≤200
  · rw[if_pos (by omega)]
    congr 1
    rw[decide_eq_decide]
    omega
  · rw[if_neg (by omega),decide_eq_false (by omega)]
end Go.Proofs.YtlaeihdldofkcaaGreatDoor.NG

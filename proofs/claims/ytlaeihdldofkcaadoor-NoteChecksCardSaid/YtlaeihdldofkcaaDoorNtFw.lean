/- Notes with few hops. -/
import Derived.Test.YtlaeihdldofkcaaDoorBase
import Derived.Test.YtlaeihdldofkcaaDoorPMx1
namespace Go.Proofs.YtlaeihdldofkcaaDoor.NG
open Go.RowKit Go.Proofs.YtlaeihdldofkcaaDoorW.PrintWords Go.Proofs.YtlaeihdldofkcaaDoor.B Go.Proofs.YtlaeihdldofkcaaDoor.PN
set_option linter.unusedSimpArgs false
set_option linter.unusedVariables false
theorem few_eq (a0 a1 a2 : Int) (l : List S50) (s : ByteArray) (a5 : Int) : ententelaw13_few.f a0 a1 a2 l s a5 = some (decide (l.length ≤ 200 ∧ s.size ≤ 10000)) := by
  unfold ententelaw13_few.f
  by_cases h : l.length ≤ 200
  · rw [if_pos (by omega)]
    congr 1
    rw [decide_eq_decide]
    omega
  · rw [if_neg (by omega), decide_eq_false (by omega)]
end Go.Proofs.YtlaeihdldofkcaaDoor.NG

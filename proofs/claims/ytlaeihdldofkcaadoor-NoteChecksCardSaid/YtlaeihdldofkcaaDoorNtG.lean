/- The answers that the document fixes. -/
import Derived.Test.YtlaeihdldofkcaaDoorBase
import Derived.Test.YtlaeihdldofkcaaDoorPMx11
namespace Go.Proofs.YtlaeihdldofkcaaDoor.NG
open Go.RowKit Go.Proofs.YtlaeihdldofkcaaDoorW.PrintWords Go.Proofs.YtlaeihdldofkcaaDoor.B Go.Proofs.YtlaeihdldofkcaaDoor.PN
set_option linter.unusedSimpArgs false
set_option linter.unusedVariables false
set_option maxRecDepth 100000 in
theorem awake_ev : Ev (fun k => ententelaw13_awake.f k) true := Ev.of (fun k => ententelaw13_awake.mono k) (k := 200) (by decide +kernel)
end Go.Proofs.YtlaeihdldofkcaaDoor.NG

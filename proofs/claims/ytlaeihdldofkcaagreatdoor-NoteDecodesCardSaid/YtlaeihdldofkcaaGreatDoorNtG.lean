/- The answers that the document fixes. -/
import Derived.Test.YtlaeihdldofkcaaGreatDoorBase
import Derived.Test.YtlaeihdldofkcaaGreatDoorPMx6
namespace Go.Proofs.YtlaeihdldofkcaaGreatDoor.NG
open Go.RowKit Go.Proofs.YtlaeihdldofkcaaGreatDoorW.PrintWords Go.Proofs.YtlaeihdldofkcaaGreatDoor.B Go.Proofs.YtlaeihdldofkcaaGreatDoor.PN
set_option linter.unusedSimpArgs false
set_option linter.unusedVariables false
set_option maxRecDepth 100000 in
theorem awake_ev:Ev (fun k=> ententelaw13_awake.f k) true:=Ev.of (fun k=> ententelaw13_awake.mono k) (k:=200) (by decide+kernel)
end Go.Proofs.YtlaeihdldofkcaaGreatDoor.NG

/- The plain statement: any text is cut into the document's tokens, or has its fault. -/
import Derived.Test.YtghpbcfkldbpjabDoorLexC
import Derived.Test.YtghpbcfkldbpjabDoorPLx8
namespace Go.Proofs.YtghpbcfkldbpjabDoor.Pure
open Go.RowKit Go.Proofs.YtghpbcfkldbpjabDoorW.PrintWords Go.Proofs.YtghpbcfkldbpjabDoor.B Go.Proofs.YtghpbcfkldbpjabDoor.PL Go.Proofs.YtghpbcfkldbpjabDoor.LA Go.Proofs.YtghpbcfkldbpjabDoor.LB Go.Proofs.YtghpbcfkldbpjabDoor.LC
theorem LexicScans : ententelaw08_LexicScans.Pure := by
  intro a0 _
  refine Ev.rounds ?_
  unfold ententelaw08_LexicScans.f
  refine ev_bind0 (scan_eq a0) (Ev.bind (ref_scan a0) (Ev.bind (same_ev _ (by have := sc_len a0; omega)) (ev_pos rfl (ev_pos (by simp) (Ev.bind awake_ev (Ev.some rfl))))))
end Go.Proofs.YtghpbcfkldbpjabDoor.Pure

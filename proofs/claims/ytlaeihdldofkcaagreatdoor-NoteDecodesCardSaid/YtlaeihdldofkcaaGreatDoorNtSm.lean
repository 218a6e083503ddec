/- A note, a frame is the same as itself. -/
import Derived.Test.YtlaeihdldofkcaaGreatDoorNtD
import Derived.Test.YtlaeihdldofkcaaGreatDoorPMx6
namespace Go.Proofs.YtlaeihdldofkcaaGreatDoor.ND
open Go.RowKit Go.Proofs.YtlaeihdldofkcaaGreatDoorW.PrintWords Go.Proofs.YtlaeihdldofkcaaGreatDoor.B Go.Proofs.YtlaeihdldofkcaaGreatDoor.PN Go.Proofs.YtlaeihdldofkcaaGreatDoor.IA Go.Proofs.YtlaeihdldofkcaaGreatDoor.IB Go.Proofs.YtlaeihdldofkcaaGreatDoor.IC Go.Proofs.YtlaeihdldofkcaaGreatDoor.NN
open Go.Proofs.YtlaeihdldofkcaaGreatDoor.IS (ba ba_data ba_size ba_app shv shv_yes shv_no showL itoa_len)
open Go.Proofs.YtlaeihdldofkcaaGreatDoor.IP (show_len)
set_option linter.unusedSimpArgs false
set_option linter.unusedVariables false
/-! ### the same -/
theorem note_same (a0 a1 a2:Int) (l:List S46) (s:ByteArray) (a5:Int) (hl:l.length≤10000):Ev (fun k=> ententeref13_SameNote.f k a0 a1 a2 l s a5 a0 a1 a2 l s a5) true:=by
  unfold ententeref13_SameNote.f
  refine ev_pos rfl (Ev.bind (same_true a1 a2 l hl) (ev_pos rfl (ev_pos rfl (Ev.some ?_))))
  simp
theorem frame_same (f t e q ae ak a0 a1 a2:Int) (l:List S46) (s:ByteArray) (a5:Int) (hl:l.length≤10000):Ev (fun k=> ententeref13_Same.f k f t e q ae ak a0 a1 a2 l s a5 f t e q ae ak a0 a1 a2 l s a5) true:=by
  unfold ententeref13_Same.f
  exact ev_pos rfl (ev_pos rfl (ev_pos rfl (ev_pos rfl (ev_pos rfl (ev_pos rfl (Ev.bind (note_same a0 a1 a2 l s a5 hl) (Ev.some rfl)))))))
end Go.Proofs.YtlaeihdldofkcaaGreatDoor.ND

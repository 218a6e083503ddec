/- The plain statement: any tokens may be, and are written, as the document says, or refused. -/
import Derived.Test.YtghpbcfkldbpjabDoorLexT
import Derived.Test.YtghpbcfkldbpjabDoorPLx14
namespace Go.Proofs.YtghpbcfkldbpjabDoor.Pure
open Go.RowKit Go.Proofs.YtghpbcfkldbpjabDoorW.PrintWords Go.Proofs.YtghpbcfkldbpjabDoor.B Go.Proofs.YtghpbcfkldbpjabDoor.PL Go.Proofs.YtghpbcfkldbpjabDoor.LA Go.Proofs.YtghpbcfkldbpjabDoor.LB Go.Proofs.YtghpbcfkldbpjabDoor.LC Go.Proofs.YtghpbcfkldbpjabDoor.LD Go.Proofs.YtghpbcfkldbpjabDoor.LE Go.Proofs.YtghpbcfkldbpjabDoor.LS Go.Proofs.YtghpbcfkldbpjabDoor.LT
set_option linter.unusedSimpArgs false
set_option linter.unusedVariables false
theorem LexicShows (l : List S32) : ∃ k, ententelaw08_LexicShows.f k l = some true := by
  have key : Ev (fun k => ententelaw08_LexicShows.f k l) true := by
    unfold ententelaw08_LexicShows.f
    refine ev_ite (fun h => Ev.bind awake_ev (Ev.some rfl)) (fun h => ?_)
    obtain ⟨c, ⟨c1, c2⟩, ⟨h1, h2⟩, _⟩ := show_both l (by omega)
    refine Ev.bind h1 (Ev.bind h2 (Ev.bind c1 (Ev.bind c2 ?_)))
    exact ev_pos rfl (ev_pos rfl (ev_pos rfl (Ev.bind awake_ev (Ev.some rfl))))
  obtain ⟨k, hk⟩ := key
  exact ⟨k, hk k (Nat.le_refl _)⟩
end Go.Proofs.YtghpbcfkldbpjabDoor.Pure

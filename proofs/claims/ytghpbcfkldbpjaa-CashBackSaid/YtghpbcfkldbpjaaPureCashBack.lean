/- An amount is read as it was written, and what is read is written as it stood. -/
import Derived.Test.YtghpbcfkldbpjaaCashP
import Derived.Test.YtghpbcfkldbpjaaPCx7
namespace Go.Proofs.Ytghpbcfkldbpjaa.Pure
open Go.RowKit Go.Proofs.Ytghpbcfkldbpjaa.PC Go.Proofs.YtghpbcfkldbpjaaW.PrintWords Go.Proofs.Ytghpbcfkldbpjaa.B Go.Proofs.Ytghpbcfkldbpjaa.CA
theorem CashBack : ententelaw04_CashBack.Pure := by
  intro a s ha hs
  have ha' := i64_of_wf ha
  refine Ev.rounds (g := fun k => ententelaw04_CashBack.f k a s) ?_
  refine Ev.congr (fun k => by rw [ententelaw04_CashBack.f]) ?_
  refine Ev.bind (show_ev ha') (Ev.bind (parse_shown ha' (by have := (showB_size ha').2; omega)) (ev_pos rfl ?_))
  rw [show (((a, 0) : Int × Int).2 != 0) = false from rfl]
  refine Ev.step (fun k => by rw [ententelaw04_CashBack.j0]) (ev_neg (by decide) ?_)
  obtain ⟨r, h1, h2, _⟩ := parse_ev s (by omega)
  refine Ev.bind h1 ?_
  rcases h2 with rfl | ⟨b, hb, rfl, he⟩
  · exact ev_neg (by decide) (ev_pos rfl (ev_pos rfl (Ev.bind awake_ev (Ev.now _))))
  · exact ev_pos rfl (Ev.bind (show_ev hb) (ev_pos (by rw [he]) (Ev.bind awake_ev (Ev.now _))))
end Go.Proofs.Ytghpbcfkldbpjaa.Pure

/- Any amount is written, and any text read, as the document says, or refused. -/
import Derived.Test.YtghpbcfkldbpjaaCashR
namespace Go.Proofs.Ytghpbcfkldbpjaa.Pure
open Go.RowKit Go.Proofs.Ytghpbcfkldbpjaa.PC Go.Proofs.YtghpbcfkldbpjaaW.PrintWords Go.Proofs.Ytghpbcfkldbpjaa.B Go.Proofs.Ytghpbcfkldbpjaa.CA
theorem CashTexts : ententelaw04_CashTexts.Pure := by
  intro a s ha hs
  have ha' := i64_of_wf ha
  refine Ev.rounds (g := fun k => ententelaw04_CashTexts.f k a s) ?_
  refine Ev.congr (fun k => by rw [ententelaw04_CashTexts.f]) ?_
  obtain ⟨r, h1, h2⟩ := parses_agree s (by omega)
  exact Ev.bind h1 (Ev.bind h2 (Ev.bind (show_ev ha') (Ev.bind (refShow_ev ha') (ev_pos rfl (ev_pos rfl (ev_pos rfl (Ev.bind awake_ev (Ev.now _))))))))
end Go.Proofs.Ytghpbcfkldbpjaa.Pure

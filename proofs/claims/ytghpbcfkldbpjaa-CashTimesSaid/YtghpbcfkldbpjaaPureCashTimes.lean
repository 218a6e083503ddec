/- The product of any two numbers, told by two words, is the document's product, or none; and a number fits as the document says. -/
import Derived.Test.YtghpbcfkldbpjaaCashT
namespace Go.Proofs.Ytghpbcfkldbpjaa.Pure
open Go.RowKit Go.Proofs.Ytghpbcfkldbpjaa.PC Go.Proofs.YtghpbcfkldbpjaaW.PrintWords Go.Proofs.Ytghpbcfkldbpjaa.B Go.Proofs.Ytghpbcfkldbpjaa.CA
theorem CashTimes : ententelaw04_CashTimes.Pure := by
  intro a n ha hn
  refine Ev.rounds (g := fun k => ententelaw04_CashTimes.f k a n) ?_
  refine Ev.congr (fun k => by rw [ententelaw04_CashTimes.f]) ?_
  refine Ev.bind (times_ev (i64_of_wf ha) (i64_of_wf hn)) (Ev.bind (ref_times_ev (i64_of_wf ha) (i64_of_wf hn)) ?_)
  refine ev_pos rfl (ev_pos rfl ?_)
  obtain ⟨b, h1, h2⟩ : ∃ b, cash_Fits.f a = some b ∧ ententeref04_Fits.f a = some b := by
    unfold cash_Fits.f ententeref04_Fits.f; split <;> exact ⟨_, rfl, rfl⟩
  refine ev_bind0 h1 (ev_bind0 h2 (ev_pos (by simp) (Ev.bind awake_ev (Ev.now _))))
end Go.Proofs.Ytghpbcfkldbpjaa.Pure

/- The sum of any amounts in two words is the document's sum in two halves, or none (for up to 10000 amounts; beyond that the statement asks for the fixed answers alone). -/
import Derived.Test.YtghpbcfkldbpjaaCashA
namespace Go.Proofs.Ytghpbcfkldbpjaa.Pure
open Go.RowKit Go.Proofs.Ytghpbcfkldbpjaa.PC Go.Proofs.YtghpbcfkldbpjaaW.PrintWords Go.Proofs.Ytghpbcfkldbpjaa.B Go.Proofs.Ytghpbcfkldbpjaa.CA
theorem CashSums : ententelaw04_CashSums.Pure := by
  intro l0 h1 h2 h3
  refine Ev.rounds (g := fun k => ententelaw04_CashSums.f k l0) ?_
  refine Ev.congr (fun k => by rw [ententelaw04_CashSums.f]) ?_
  refine ev_ite (fun _ => Ev.bind awake_ev (Ev.now _)) (fun h => ?_)
  have hx : ∀ x ∈ l0, I64 x := fun x hx => i64_of_wf (h3 x hx)
  refine Ev.bind (sum_ev l0 hx (by omega)) (Ev.bind (ref_sum_ev l0 hx (by omega)) ?_)
  exact ev_pos rfl (ev_pos rfl (Ev.bind awake_ev (Ev.now _)))
end Go.Proofs.Ytghpbcfkldbpjaa.Pure

/- The plain statement: any id may be, or not, and says its path, as the document says. -/
import Derived.Test.YtnlljacklhgfgaaDoorIdC
import Derived.Test.YtnlljacklhgfgaaDoorPJx12
namespace Go.Proofs.YtnlljacklhgfgaaDoor.Pure
open Go.RowKit Go.Proofs.YtnlljacklhgfgaaDoorW.PrintWords Go.Proofs.YtnlljacklhgfgaaDoor.B Go.Proofs.YtnlljacklhgfgaaDoor.PI Go.Proofs.YtnlljacklhgfgaaDoor.IA Go.Proofs.YtnlljacklhgfgaaDoor.IB Go.Proofs.YtnlljacklhgfgaaDoor.IC
set_option linter.unusedSimpArgs false
set_option linter.unusedVariables false
theorem IdentChecks (a b : Int) (l : List S55) : ∃ k, ententelaw03_IdentChecks.f k a b l = some true := by
  have key : Ev (fun k => ententelaw03_IdentChecks.f k a b l) true := by
    unfold ententelaw03_IdentChecks.f
    refine ev_bind0 (check_eq a b l) ?_
    refine Ev.bind (rcheck_ev a b l) (ev_pos rfl ?_)
    refine Ev.bind (iorg_ev a b l) (Ev.bind (rorg_ev a b l) (ev_pos rfl ?_))
    refine Ev.bind (ipath_ev a b l) (Ev.bind (rpath_ev a b l) ?_)
    exact Ev.bind (numbers_ev _ (by have := pth_len a b l; omega)) (ev_pos rfl (Ev.bind awake_ev (Ev.some rfl)))
  obtain ⟨k, hk⟩ := key
  exact ⟨k, hk k (Nat.le_refl _)⟩
end Go.Proofs.YtnlljacklhgfgaaDoor.Pure

/- Ids' paths, as the program says them. -/
import Derived.Test.YtlaeihdldofkcaaDoorNtC
import Derived.Test.YtlaeihdldofkcaaDoorPMx17
namespace Go.Proofs.YtlaeihdldofkcaaDoor.IC
open Go.RowKit Go.Proofs.YtlaeihdldofkcaaDoorW.PrintWords Go.Proofs.YtlaeihdldofkcaaDoor.B Go.Proofs.YtlaeihdldofkcaaDoor.PN Go.Proofs.YtlaeihdldofkcaaDoor.IA Go.Proofs.YtlaeihdldofkcaaDoor.IB
set_option linter.unusedSimpArgs false
set_option linter.unusedVariables false
theorem ipath_ev (a b : Int) (l : List S50) : Ev (fun k => ident_Path.f k a b l) (pth a b l) := by
  unfold ident_Path.f pth
  refine ev_bind0 (check_eq a b l) ?_
  by_cases h : good a b l = true
  · rw [if_pos h]
    exact ev_pos (chk0.2 h) (Ev.bind (path_ev a b l (by have := good_len h; omega)) (Ev.some rfl))
  · rw [if_neg h]
    exact ev_neg (fun h' => h (chk0.1 h')) (Ev.some rfl)
end Go.Proofs.YtlaeihdldofkcaaDoor.IC

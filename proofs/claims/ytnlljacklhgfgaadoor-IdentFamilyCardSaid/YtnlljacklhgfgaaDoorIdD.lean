/- The document's parents and children are the program's. -/
import Derived.Test.YtnlljacklhgfgaaDoorIdC
import Derived.Test.YtnlljacklhgfgaaDoorPKx14
namespace Go.Proofs.YtnlljacklhgfgaaDoor.IC
open Go.RowKit Go.Proofs.YtnlljacklhgfgaaDoorW.PrintWords Go.Proofs.YtnlljacklhgfgaaDoor.B Go.Proofs.YtnlljacklhgfgaaDoor.PI Go.Proofs.YtnlljacklhgfgaaDoor.IA Go.Proofs.YtnlljacklhgfgaaDoor.IB
set_option linter.unusedSimpArgs false
set_option linter.unusedVariables false
theorem rparent_ev (a b : Int) (l : List S55) (hn : l.length ≤ 9223372036854775807) : Ev (fun k => ententeref03_Parent.f k a b l) (par a b l) := by
  unfold ententeref03_Parent.f
  refine Ev.bind (rcheck_ev a b l) ?_
  by_cases h : good a b l = true
  case neg =>
    rw [par_no (fun h' => h h'.1)]
    exact ev_neg (fun h' => h (chk0.1 h')) (Ev.some rfl)
  refine ev_pos (chk0.2 h) ?_
  by_cases h1 : 1 ≤ l.length
  · rw [par_yes h h1, w64m _ h1 hn]
    refine ev_neg (by omega) (ev_pos (by omega) (ev_pos (by omega) (ev_pos (by omega) ?_)))
    rw [Int.toNat_natCast]
    exact Ev.some rfl
  · rw [par_no (fun h' => h1 h'.2)]
    exact ev_pos (by omega) (Ev.some rfl)
/-! ### children -/
theorem rchild_ev (a b : Int) (l : List S55) (s o : Int) (hl : l.length ≤ 10000) : Ev (fun k => ententeref03_Child.f k a b l s o) (chi a b l s o) := by
  unfold ententeref03_Child.f
  refine ev_bind0 (a := []) rfl (ev_pos (by simp only [List.length_nil]; omega) (ev_bind0 (a := l) (by rw [List.nil_append]) (ev_pos (by omega) (ev_bind0 (a := l ++ [⟨s, o⟩]) rfl (Ev.bind (rcheck_ev a b l) ?_)))))
  by_cases h : good a b l = true
  case neg =>
    rw [chi_no (fun h' => h h'.1)]
    exact ev_neg (fun h' => h (chk0.1 h')) (Ev.some rfl)
  refine ev_pos (chk0.2 h) (Ev.bind (rcheck_ev a b _) ?_)
  by_cases h2 : good a b (l ++ [⟨s, o⟩]) = true
  · rw [chi_yes h h2]
    exact ev_pos (chk0.2 h2) (Ev.some rfl)
  · rw [chi_no (fun h' => h2 h'.2)]
    exact ev_neg (fun h' => h2 (chk0.1 h')) (Ev.some rfl)
/-! ### belonging -/
end Go.Proofs.YtnlljacklhgfgaaDoor.IC

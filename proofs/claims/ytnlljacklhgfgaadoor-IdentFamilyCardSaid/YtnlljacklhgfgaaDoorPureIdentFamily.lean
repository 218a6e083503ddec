/- The plain statement: any id has the document's parent, and children, or none. -/
import Derived.Test.YtnlljacklhgfgaaDoorIdD
import Derived.Test.YtnlljacklhgfgaaDoorPKx15
namespace Go.Proofs.YtnlljacklhgfgaaDoor.Pure
open Go.RowKit Go.Proofs.YtnlljacklhgfgaaDoorW.PrintWords Go.Proofs.YtnlljacklhgfgaaDoor.B Go.Proofs.YtnlljacklhgfgaaDoor.PI Go.Proofs.YtnlljacklhgfgaaDoor.IA Go.Proofs.YtnlljacklhgfgaaDoor.IB Go.Proofs.YtnlljacklhgfgaaDoor.IC
set_option linter.unusedSimpArgs false
set_option linter.unusedVariables false
theorem par_len (a b : Int) (l : List S55) : (par a b l).2.2.1.length ≤ l.length := by
  unfold par
  split
  · show (l.take _).length ≤ _
    rw [List.length_take]; omega
  · exact Nat.zero_le _
theorem chi_len (a b : Int) (l : List S55) (s o : Int) : (chi a b l s o).2.2.1.length ≤ l.length + 1 := by
  unfold chi
  split
  · show (l ++ [_]).length ≤ _
    rw [List.length_append]; simp
  · exact Nat.zero_le _
theorem IdentFamily (a b : Int) (l : List S55) (s o : Int) : ∃ k, ententelaw03_IdentFamily.f k a b l s o = some true := by
  have key : Ev (fun k => ententelaw03_IdentFamily.f k a b l s o) true := by
    unfold ententelaw03_IdentFamily.f
    refine Ev.bind (few_ev _) (ev_ite (fun h => ?_) (fun h => Ev.bind awake_ev (Ev.some rfl)))
    have hl : l.length ≤ 200 := by simpa [fewv] using h
    have h1 := par_len a b l
    have h2 := chi_len a b l s o
    refine Ev.bind (parent_ev a b l (by omega)) (Ev.bind (rparent_ev a b l (by omega)) (Ev.bind (child_ev a b l s o) (Ev.bind (rchild_ev a b l s o (by omega)) ?_)))
    refine Ev.bind (same_true _ _ _ (by omega)) (ev_pos rfl (ev_pos rfl (ev_pos (by simp) ?_)))
    exact Ev.bind (same_true _ _ _ (by omega)) (ev_pos rfl (ev_pos rfl (Ev.bind awake_ev (Ev.some rfl))))
  obtain ⟨k, hk⟩ := key
  exact ⟨k, hk k (Nat.le_refl _)⟩
end Go.Proofs.YtnlljacklhgfgaaDoor.Pure

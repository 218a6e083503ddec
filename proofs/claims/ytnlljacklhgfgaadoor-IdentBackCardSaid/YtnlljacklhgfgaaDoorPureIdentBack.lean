/- IdentBack: what is written is read as it stood, and what is read is written as it stood: true of every input. -/
import Derived.Test.YtnlljacklhgfgaaDoorIdP
import Derived.Test.YtnlljacklhgfgaaDoorIdC
import Derived.Test.YtnlljacklhgfgaaDoorPJx11
namespace Go.Proofs.YtnlljacklhgfgaaDoor.Pure
open Go.RowKit Go.Proofs.YtnlljacklhgfgaaDoorW.PrintWords Go.Proofs.YtnlljacklhgfgaaDoor.B Go.Proofs.YtnlljacklhgfgaaDoor.PI Go.Proofs.YtnlljacklhgfgaaDoor.IA Go.Proofs.YtnlljacklhgfgaaDoor.IB Go.Proofs.YtnlljacklhgfgaaDoor.IC Go.Proofs.YtnlljacklhgfgaaDoor.IS Go.Proofs.YtnlljacklhgfgaaDoor.IP
set_option linter.unusedSimpArgs false
set_option linter.unusedVariables false
theorem back_text (s : ByteArray) : Ev (fun k => ententelaw03_IdentBack.j0 k s) true := by
  refine Ev.step (fun k => by rw [ententelaw03_IdentBack.j0]) ?_
  refine Ev.bind (iparse_ev s) ?_
  rcases ipv_sound s with e | ⟨a, b, l, hg, hs, e⟩
  · rw [e]
    refine ev_neg (by decide) ?_
    refine Ev.bind (same_true 0 0 [] (by simp)) ?_
    exact ev_pos rfl (ev_pos rfl (Ev.bind awake_ev (Ev.some rfl)))
  · rw [e]
    refine ev_pos rfl ?_
    refine Ev.bind (ishow_ev a b l) ?_
    rw [shv_yes hg]
    refine ev_pos ?_ ?_
    · show (ba (showL a b l)).toList = s.toList
      rw [hs, ba_of]
    refine ev_pos rfl ?_
    refine ev_bind0 (check_eq a b l) ?_
    exact ev_pos (chk0.2 hg) (Ev.bind awake_ev (Ev.some rfl))
theorem IdentBack (a b : Int) (l : List S55) (s : ByteArray) : ∃ k, ententelaw03_IdentBack.f k a b l s = some true := by
  have key : Ev (fun k => ententelaw03_IdentBack.f k a b l s) true := by
    unfold ententelaw03_IdentBack.f
    refine Ev.bind (ishow_ev a b l) ?_
    by_cases h : good a b l = true
    · rw [shv_yes h]
      refine ev_pos rfl ?_
      refine Ev.bind (iparse_ev (ba (showL a b l))) ?_
      rw [ipv_complete (ba (showL a b l)) h (ba_data _).symm]
      refine ev_pos rfl ?_
      refine Ev.bind (same_true a b l (by have := good_len h; omega)) ?_
      exact ev_pos rfl (back_text s)
    · rw [shv_no h]
      exact ev_neg (by decide) (back_text s)
  obtain ⟨k, hk⟩ := key
  exact ⟨k, hk k (Nat.le_refl _)⟩
end Go.Proofs.YtnlljacklhgfgaaDoor.Pure

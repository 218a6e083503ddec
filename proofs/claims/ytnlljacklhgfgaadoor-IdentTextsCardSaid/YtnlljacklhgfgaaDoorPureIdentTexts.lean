/- IdentTexts: any id is written, and any text read, as the document says, or refused: true of every input. -/
import Derived.Test.YtnlljacklhgfgaaDoorIdN
import Derived.Test.YtnlljacklhgfgaaDoorIdC
import Derived.Test.YtnlljacklhgfgaaDoorPJx16
namespace Go.Proofs.YtnlljacklhgfgaaDoor.Pure
open Go.RowKit Go.Proofs.YtnlljacklhgfgaaDoorW.PrintWords Go.Proofs.YtnlljacklhgfgaaDoor.B Go.Proofs.YtnlljacklhgfgaaDoor.PI Go.Proofs.YtnlljacklhgfgaaDoor.IA Go.Proofs.YtnlljacklhgfgaaDoor.IB Go.Proofs.YtnlljacklhgfgaaDoor.IC Go.Proofs.YtnlljacklhgfgaaDoor.IS Go.Proofs.YtnlljacklhgfgaaDoor.IP Go.Proofs.YtnlljacklhgfgaaDoor.IN
set_option linter.unusedSimpArgs false
set_option linter.unusedVariables false
theorem ipv_hops (s : ByteArray) : (ipv s).2.2.1.length ≤ 10000 := by
  rcases ipv_sound s with e | ⟨a, b, l, hg, hsh, e⟩
  · rw [e]; simp
  · rw [e]
    have := (good_iff.1 hg).2.2.1
    show l.length ≤ 10000
    omega
theorem IdentTexts (a b : Int) (l : List S55) (s : ByteArray) (hs : (s.size : Int) ≤ 281474976710656) : ∃ k, ententelaw03_IdentTexts.f k a b l s = some true := by
  have key : Ev (fun k => ententelaw03_IdentTexts.f k a b l s) true := by
    unfold ententelaw03_IdentTexts.f
    refine Ev.bind (ishow_ev a b l) ?_
    refine Ev.bind (rshow_ev a b l) ?_
    refine Ev.bind (iparse_ev s) ?_
    refine Ev.bind (both_ev s hs) ?_
    refine ev_pos rfl ?_
    refine ev_pos rfl ?_
    refine Ev.bind (same_true _ _ _ (ipv_hops s)) ?_
    refine ev_pos rfl ?_
    exact ev_pos rfl (Ev.bind awake_ev (Ev.some rfl))
  obtain ⟨k, hk⟩ := key
  exact ⟨k, hk k (Nat.le_refl _)⟩
end Go.Proofs.YtnlljacklhgfgaaDoor.Pure

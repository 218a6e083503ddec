/- The plain statement: any ids have the document's order, and belong to each other, or not, as it says. -/
import Derived.Test.YtnlljacklhgfgaaDoorIdC
import Derived.Test.YtnlljacklhgfgaaDoorPJx13
namespace Go.Proofs.YtnlljacklhgfgaaDoor.Pure
open Go.RowKit Go.Proofs.YtnlljacklhgfgaaDoorW.PrintWords Go.Proofs.YtnlljacklhgfgaaDoor.B Go.Proofs.YtnlljacklhgfgaaDoor.PI Go.Proofs.YtnlljacklhgfgaaDoor.IA Go.Proofs.YtnlljacklhgfgaaDoor.IB Go.Proofs.YtnlljacklhgfgaaDoor.IC
set_option linter.unusedSimpArgs false
set_option linter.unusedVariables false
theorem identCmps_loop (a b : Int) (l : List S55) (m : List S24) (hl : l.length ≤ 200) (hm : fewv m = true) : ∀ (d i : Nat), m.length - i = d → i ≤ m.length → Ev (fun k => ententelaw03_IdentCmps.l0 k m (i : Int) a b l) true
  | 0, i, hd, hi => by
    refine Ev.step (fun k => by rw [ententelaw03_IdentCmps.l0]) ?_
    refine ev_neg (by omega) (ev_bind0 (a := m.any (ident_Under.undB a b l)) rfl (Ev.bind (rund_ev a b l hl m hm) ?_))
    exact ev_pos (by simp) (Ev.bind awake_ev (Ev.some rfl))
  | d + 1, i, hd, hi => by
    have hm' := hm
    unfold fewv at hm'
    rw [Bool.and_eq_true, decide_eq_true_eq, List.all_eq_true] at hm'
    have hlt : i < m.length := by omega
    have hg : rd_T24 m (i : Int) = m[i] := by
      unfold rd_T24
      rw [Int.toNat_natCast, List.getD_eq_getElem?_getD, List.getElem?_eq_getElem hlt]
      rfl
    have hx : (m[i]).f2.length ≤ 200 := of_decide_eq_true (hm'.1 _ (List.getElem_mem hlt))
    refine Ev.step (fun k => by rw [ententelaw03_IdentCmps.l0]) ?_
    refine ev_pos (by omega) (ev_pos (by omega) ?_)
    rw [hg, w64 i (by have := hm'.2; omega)]
    refine Ev.bind (cmp_ev _ _ _ _ _ _ (by omega) (by omega)) (Ev.bind (rcmp_ev _ _ _ _ _ _ (by omega) (by omega)) (ev_pos rfl ?_))
    exact identCmps_loop a b l m hl hm d (i + 1) (by omega) (by omega)
theorem IdentCmps (a b : Int) (l : List S55) (m : List S24) : ∃ k, ententelaw03_IdentCmps.f k a b l m = some true := by
  have key : Ev (fun k => ententelaw03_IdentCmps.f k a b l m) true := by
    have aw : Ev (fun k => ententelaw03_IdentCmps.j0 k m true a b l) true := by
      refine Ev.step (fun k => by rw [ententelaw03_IdentCmps.j0]) ?_
      exact ev_pos rfl (Ev.bind awake_ev (Ev.some rfl))
    unfold ententelaw03_IdentCmps.f
    refine Ev.bind (few_ev _) (ev_ite (fun h => ?_) (fun h => aw))
    refine Ev.bind (few_ev m) ?_
    have hl : l.length ≤ 200 := by simpa [fewv] using h
    cases hm : fewv m with
    | false => exact aw
    | true =>
      refine Ev.step (fun k => by rw [ententelaw03_IdentCmps.j0]) ?_
      exact ev_neg (by decide) (identCmps_loop a b l m hl hm _ 0 rfl (Nat.zero_le _))
  obtain ⟨k, hk⟩ := key
  exact ⟨k, hk k (Nat.le_refl _)⟩
end Go.Proofs.YtnlljacklhgfgaaDoor.Pure

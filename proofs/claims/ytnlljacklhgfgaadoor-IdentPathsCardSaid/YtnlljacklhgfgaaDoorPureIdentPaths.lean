/- The plain statement: a child has its parent, at that step, and one organisation more in its path; no path is longer than five, and none has an organisation twice. -/
import Derived.Test.YtnlljacklhgfgaaDoorIdC
import Derived.Test.YtnlljacklhgfgaaDoorPJx15
namespace Go.Proofs.YtnlljacklhgfgaaDoor.Pure
open Go.RowKit Go.Proofs.YtnlljacklhgfgaaDoorW.PrintWords Go.Proofs.YtnlljacklhgfgaaDoor.B Go.Proofs.YtnlljacklhgfgaaDoor.PI Go.Proofs.YtnlljacklhgfgaaDoor.IA Go.Proofs.YtnlljacklhgfgaaDoor.IB Go.Proofs.YtnlljacklhgfgaaDoor.IC
set_option linter.unusedSimpArgs false
set_option linter.unusedVariables false
theorem rf_snoc : ∀ (l : List S55) (t : List Int) (x : S55), rf t (l ++ [x]) = (rf t l && (!ident_Check.badStep x && (decide (0 ≤ x.f1) && (decide (x.f1 < 16) && !decide (x.f1 ∈ t ++ orgs l)))))
  | [], t, x => by simp [rf, orgs]
  | y :: l, t, x => by
    have ih := rf_snoc l (t ++ [y.f1]) x
    rw [List.cons_append]
    unfold rf
    rw [ih, List.append_assoc, show [y.f1] ++ orgs l = orgs (y :: l) from rfl]
    cases ident_Check.badStep y <;> cases decide (0 ≤ y.f1) <;> cases decide (y.f1 < 16) <;> cases decide (y.f1 ∈ t) <;> simp
theorem rf_nodup : ∀ (l : List S55) (t : List Int), t.Nodup → rf t l = true → (t ++ orgs l).Nodup
  | [], t, h, _ => by simpa [orgs] using h
  | y :: l, t, h, hr => by
    unfold rf at hr
    simp only [Bool.and_eq_true, Bool.not_eq_true', decide_eq_true_eq, decide_eq_false_iff_not] at hr
    have ht : (t ++ [y.f1]).Nodup := by
      rw [List.nodup_append]
      refine ⟨h, by simp, fun a ha b hb => ?_⟩
      rw [List.mem_singleton] at hb
      intro e
      rw [e, hb] at ha
      exact hr.2.2.2.1 ha
    have := rf_nodup l (t ++ [y.f1]) ht hr.2.2.2.2
    rwa [List.append_assoc] at this
theorem pth_nodup (a b : Int) (l : List S55) : (pth a b l).Nodup := by
  unfold pth
  split
  · rename_i h
    have := rf_nodup l [a] (by simp) (good_iff.1 h).2.2.2.2.2
    exact this
  · simp
theorem good_child {a b : Int} {l : List S55} {s o : Int} (h : good a b (l ++ [⟨s, o⟩]) = true) : ¬ o ∈ a :: orgs l := by
  have := (good_iff.1 h).2.2.2.2.2
  rw [rf_snoc] at this
  simp only [Bool.and_eq_true, Bool.not_eq_true', decide_eq_false_iff_not] at this
  exact this.2.2.2.2
theorem identPaths_l1 (a b : Int) (l : List S55) (s o : Int) (p : List Int) (hp : p.length ≤ 5) (hd : p.Nodup) (met : Bool) (i : Nat) (hi : i < p.length) (R : Bool) (hn : Ev (fun k => ententelaw03_IdentPaths.l0 k s o p met ((i + 1 : Nat) : Int) a b l) R) : ∀ (d j : Nat), i - j = d → j ≤ i → Ev (fun k => ententelaw03_IdentPaths.l1 k s o p met (i : Int) (j : Int) a b l) R
  | 0, j, hd', hj => by
    refine Ev.step (fun k => by rw [ententelaw03_IdentPaths.l1]) ?_
    rw [w64 i (by omega)]
    exact ev_neg (by omega) hn
  | d + 1, j, hd', hj => by
    have ih := identPaths_l1 a b l s o p hp hd met i hi R hn d (j + 1) (by omega) (by omega)
    refine Ev.step (fun k => by rw [ententelaw03_IdentPaths.l1]) ?_
    rw [w64 j (by omega), rdi_get p i hi, rdi_get p j (by omega)]
    refine ev_pos (by omega) (ev_pos (by omega) (ev_pos (by omega) (ev_pos (by omega) (ev_pos (by omega) (ev_neg ?_ ih)))))
    intro e
    have := (List.getElem_inj hd).1 e
    omega
theorem take_mem (p : List Int) (i : Nat) (h : i < p.length) (o : Int) : decide (o ∈ p.take (i + 1)) = (decide (o ∈ p.take i) || (p[i] == o)) := by
  rw [List.take_succ_eq_append_getElem h, Bool.eq_iff_iff]
  simp only [decide_eq_true_eq, List.mem_append, List.mem_singleton, Bool.or_eq_true, beq_iff_eq]
  constructor
  · rintro (h | h)
    · exact .inl h
    · exact .inr h.symm
  · rintro (h | h)
    · exact .inl h
    · exact .inr h.symm
theorem identPaths_l0 (a b : Int) (l : List S55) (s o : Int) (p : List Int) (hp : p.length ≤ 5) (hd : p.Nodup) (R : Bool) (hend : Ev (fun k => ententelaw03_IdentPaths.l0 k s o p (decide (o ∈ p)) ((p.length : Nat) : Int) a b l) R) : ∀ (d i : Nat), p.length - i = d → i ≤ p.length → Ev (fun k => ententelaw03_IdentPaths.l0 k s o p (decide (o ∈ p.take i)) (i : Int) a b l) R
  | 0, i, hd', hi => by
    obtain rfl : i = p.length := by omega
    rw [List.take_length]
    exact hend
  | d + 1, i, hd', hi => by
    have ih := identPaths_l0 a b l s o p hp hd R hend d (i + 1) (by omega) (by omega)
    have hlt : i < p.length := by omega
    rw [take_mem p i hlt o] at ih
    refine Ev.step (fun k => by rw [ententelaw03_IdentPaths.l0]) ?_
    refine ev_pos (by omega) ?_
    cases hm : decide (o ∈ p.take i) with
    | true =>
      rw [hm, Bool.true_or] at ih
      refine ev_pos rfl (Ev.step (fun k => by rw [ententelaw03_IdentPaths.j2]) ?_)
      exact identPaths_l1 a b l s o p hp hd true i hlt R ih _ 0 rfl (Nat.zero_le _)
    | false =>
      rw [hm, Bool.false_or] at ih
      refine ev_neg (by decide) (ev_pos (by omega) ?_)
      rw [rdi_get p i hlt]
      refine Ev.step (fun k => by rw [ententelaw03_IdentPaths.j2]) ?_
      exact identPaths_l1 a b l s o p hp hd _ i hlt R ih _ 0 rfl (Nat.zero_le _)
theorem IdentPaths (a b : Int) (l : List S55) (s o : Int) : ∃ k, ententelaw03_IdentPaths.f k a b l s o = some true := by
  have key : Ev (fun k => ententelaw03_IdentPaths.f k a b l s o) true := by
    unfold ententelaw03_IdentPaths.f
    refine Ev.bind (few_ev _) (ev_ite (fun h => ?_) (fun h => Ev.bind awake_ev (Ev.some rfl)))
    have hl : l.length ≤ 200 := by simpa [fewv] using h
    have hp := pth_len a b l
    refine Ev.bind (ipath_ev a b l) (ev_neg (by omega) (ev_bind0 (check_eq a b l) ?_))
    have hz : (decide (((pth a b l).length : Int) > 0) != (chk a b l == 0)) = false := by
      unfold pth chk
      split
      · simp
      · simp
    rw [hz]
    refine Ev.step (fun k => by rw [ententelaw03_IdentPaths.j0]) ?_
    refine ev_neg (by decide) ?_
    have h0 := identPaths_l0 a b l s o (pth a b l) hp (pth_nodup a b l) true ?_ _ 0 rfl (Nat.zero_le _)
    · rw [show (decide (o ∈ (pth a b l).take 0)) = false by simp] at h0
      exact h0
    refine Ev.step (fun k => by rw [ententelaw03_IdentPaths.l0]) ?_
    refine ev_neg (by omega) (Ev.bind (child_ev a b l s o) ?_)
    unfold chi
    by_cases hg : good a b l = true ∧ good a b (l ++ [⟨s, o⟩]) = true
    · rw [if_pos hg]
      have hln : (l ++ [(⟨s, o⟩ : S55)]).length = l.length + 1 := by simp
      have hpar : par a b (l ++ [⟨s, o⟩]) = (a, b, l, s, true) := by
        unfold par
        rw [if_pos ⟨hg.2, by omega⟩, hln, Nat.add_sub_cancel, List.take_left' rfl, rd_get _ _ (by omega)]
        simp
      have hpp := parent_ev a b (l ++ [⟨s, o⟩]) (by omega)
      rw [hpar] at hpp
      have hpl : pth a b l = a :: orgs l := by unfold pth; rw [if_pos hg.1]
      have hpc : pth a b (l ++ [⟨s, o⟩]) = (a :: orgs l) ++ [o] := by unfold pth; rw [if_pos hg.2]; simp [orgs]
      have ho : org a b (l ++ [⟨s, o⟩]) = o := by
        unfold org
        rw [if_pos hg.2, hln]
        simp [orgs]
      have hnm := good_child hg.2
      have hic := ipath_ev a b (l ++ [⟨s, o⟩])
      have hio := iorg_ev a b (l ++ [⟨s, o⟩])
      rw [ho] at hio
      rw [hpc] at hic
      rw [hpl] at hp ⊢
      have hcc := cmp_ev a b l a b l (by omega) (by omega)
      rw [cmpv0.2 ⟨rfl, rfl, rfl⟩] at hcc
      refine ev_pos rfl (Ev.bind hpp (Ev.bind hic (ev_neg ?_ (ev_pos rfl (ev_pos rfl (Ev.bind hcc (ev_pos rfl (Ev.bind hio (ev_pos rfl (ev_pos ?_ (ev_pos ?_ (ev_pos ?_ ?_))))))))))))
      · rw [decide_eq_true_eq]; exact hnm
      · rw [wrap64_of (by omega) (by omega)]; simp
      · omega
      · simp; omega
      · rw [Int.toNat_natCast, List.take_left' rfl]
        exact Ev.bind (numbers_ev _ (by omega)) (ev_pos rfl (Ev.bind awake_ev (Ev.some rfl)))
    · rw [if_neg hg]
      refine ev_neg (by decide) (Ev.bind (same_true 0 0 [] (by simp)) (ev_pos rfl (Ev.bind awake_ev (Ev.some rfl))))
  obtain ⟨k, hk⟩ := key
  exact ⟨k, hk k (Nat.le_refl _)⟩
end Go.Proofs.YtnlljacklhgfgaaDoor.Pure

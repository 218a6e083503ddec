/- The plain statement: a note's ends are two organisations of its path, one behind the other. -/
import Derived.Test.YtlaeihdldofkcaaDoorNtG
import Derived.Test.YtlaeihdldofkcaaDoorNtD
import Derived.Test.YtlaeihdldofkcaaDoorNtFw
import Derived.Test.YtlaeihdldofkcaaDoorNtCp
import Derived.Test.YtlaeihdldofkcaaDoorPMx17
namespace Go.Proofs.YtlaeihdldofkcaaDoor.Pure
open Go.RowKit Go.Proofs.YtlaeihdldofkcaaDoorW.PrintWords Go.Proofs.YtlaeihdldofkcaaDoor.B Go.Proofs.YtlaeihdldofkcaaDoor.PN Go.Proofs.YtlaeihdldofkcaaDoor.IA Go.Proofs.YtlaeihdldofkcaaDoor.IB Go.Proofs.YtlaeihdldofkcaaDoor.IC Go.Proofs.YtlaeihdldofkcaaDoor.ND Go.Proofs.YtlaeihdldofkcaaDoor.NG
set_option linter.unusedSimpArgs false
set_option linter.unusedVariables false
theorem rf_nodup : ∀ (l : List S50) (t : List Int), t.Nodup → rf t l = true → (t ++ orgs l).Nodup
  | [], t, ht, h => by simpa [orgs] using ht
  | x :: l, t, ht, h => by
    have h' := h
    unfold rf at h'
    simp only [Bool.and_eq_true, Bool.not_eq_true', decide_eq_true_eq, decide_eq_false_iff_not] at h'
    have hx : ¬ x.f1 ∈ t := h'.2.2.2.1
    have hr : rf (t ++ [x.f1]) l = true := h'.2.2.2.2
    have := rf_nodup l (t ++ [x.f1]) (by
      rw [List.nodup_append]
      exact ⟨ht, by simp, by intro a ha b hb; simp at hb; subst hb; intro e; exact hx (e ▸ ha)⟩) hr
    rw [List.append_assoc] at this
    exact this
theorem path_nodup {a b : Int} {l : List S50} (h : good a b l = true) : (path a l).Nodup := by
  obtain ⟨_, _, _, _, _, g6⟩ := good_iff.1 h
  exact rf_nodup l [a] (by simp) g6
theorem ends_loop (p : List Int) (hp : p.Nodup) (n : Nat) (hn : p.length = n + 1) (h1 : 1 ≤ n) (h4 : n ≤ 100) (x y : Int) (hxy : (x = p[n - 1] ∧ y = p[n]) ∨ (x = p[n] ∧ y = p[n - 1]))
    (a0 a1 a2 : Int) (l : List S50) (s : ByteArray) (a5 : Int) (fin : Ev (fun k => ententelaw13_NoteEnds.l0 k x y p 1 ((n + 1 : Nat) : Int) a0 a1 a2 l s a5) true) :
    ∀ (d i : Nat), n - i = d → 1 ≤ i → i ≤ n → Ev (fun k => ententelaw13_NoteEnds.l0 k x y p 0 (i : Int) a0 a1 a2 l s a5) true := by
  have hne := List.pairwise_iff_getElem.1 hp
  intro d
  induction d with
  | zero =>
    intro i hd hi1 hi
    obtain rfl : i = n := by omega
    refine Ev.step (fun k => by rw [ententelaw13_NoteEnds.l0]) ?_
    rw [w64m i hi1 (by omega), w64 i (by omega), rdi_get p i (by omega), rdi_get p (i - 1) (by omega), show wrap64 (0 + 1) = 1 by unfold wrap64; omega]
    refine ev_pos (by omega) (ev_pos (by omega) (ev_pos (by omega) ?_))
    have hud : p[i - 1] ≠ p[i] := hne (i - 1) i (by omega) (by omega) (by omega)
    rcases hxy with ⟨rfl, rfl⟩ | ⟨rfl, rfl⟩
    · exact ev_pos rfl (ev_pos (by omega) (ev_pos rfl fin))
    · exact ev_neg hud (ev_pos rfl (ev_pos (by omega) (ev_pos rfl fin)))
  | succ d ih =>
    intro i hd hi1 hi
    have ih' := ih (i + 1) (by omega) (by omega) (by omega)
    refine Ev.step (fun k => by rw [ententelaw13_NoteEnds.l0]) ?_
    rw [w64m i hi1 (by omega), w64 i (by omega), rdi_get p i (by omega), rdi_get p (i - 1) (by omega), show wrap64 (0 + 1) = 1 by unfold wrap64; omega]
    refine ev_pos (by omega) (ev_pos (by omega) (ev_pos (by omega) ?_))
    have hv : p[i - 1] ≠ p[n] := hne (i - 1) n (by omega) (by omega) (by omega)
    have hw : p[i] ≠ p[n] := hne i n (by omega) (by omega) (by omega)
    rcases hxy with ⟨rfl, rfl⟩ | ⟨rfl, rfl⟩
    · exact ev_ite (fun _ => ev_pos (by omega) (ev_neg hw (ev_neg hv ih'))) (fun _ => ev_neg hv ih')
    · exact ev_neg hv (ev_ite (fun _ => ev_pos (by omega) (ev_neg hw ih')) (fun _ => ih'))
theorem NoteEnds (a0 a1 a2 : Int) (l : List S50) (s : ByteArray) (a5 : Int) : ∃ k, ententelaw13_NoteEnds.f k a0 a1 a2 l s a5 = some true := by
  have key : Ev (fun k => ententelaw13_NoteEnds.f k a0 a1 a2 l s a5) true := by
    unfold ententelaw13_NoteEnds.f
    refine ev_bind0 (few_eq a0 a1 a2 l s a5) ?_
    by_cases hf : l.length ≤ 200 ∧ s.size ≤ 10000
    case neg => exact ev_neg (by simpa using hf) (Ev.bind awake_ev (Ev.some rfl))
    have hl : l.length ≤ 9223372036854775807 := by omega
    refine ev_pos (decide_eq_true hf) (Ev.bind (ends_ev a0 a1 a2 l s a5 hl) (Ev.bind (check_ev a0 a1 a2 l s a5 hl) ?_))
    by_cases h : okN a0 a1 a2 l s a5
    case neg =>
      rw [ends_no h]
      exact ev_neg (fun h' => h (chkN0.1 h')) (ev_pos rfl (ev_pos rfl (Ev.bind awake_ev (Ev.some rfl))))
    have hg := h.2.2.1
    have h1 := h.2.2.2.1
    have h4 := good_len hg
    refine ev_pos (chkN0.2 h) (Ev.bind (ipath_ev a1 a2 l) ?_)
    rw [show pth a1 a2 l = path a1 l from if_pos hg]
    have hn := path_len a1 l
    have hp := path_nodup hg
    have hud : (path a1 l)[l.length - 1] ≠ (path a1 l)[l.length] := List.pairwise_iff_getElem.1 hp (l.length - 1) l.length (by omega) (by omega) (by omega)
    have eu : up a1 l = (path a1 l)[l.length - 1] := by unfold up; rw [List.getElem?_eq_getElem (by omega)]; rfl
    have ed : down a1 l = (path a1 l)[l.length] := by unfold down; rw [List.getElem?_eq_getElem (by omega)]; rfl
    have ho := iorg_ev a1 a2 l
    rw [org_down hg] at ho
    rw [← eu, ← ed] at hud
    by_cases hk : a0 ≤ 4
    · rw [show endsv a0 a1 a2 l s a5 = (up a1 l, down a1 l) from (if_pos h).trans (if_pos hk)]
      refine ends_loop (path a1 l) hp l.length hn h1 (by omega) _ _ (.inl ⟨eu, ed⟩) a0 a1 a2 l s a5 ?_ _ 1 rfl (by omega) h1
      refine Ev.step (fun k => by rw [ententelaw13_NoteEnds.l0]) (ev_neg (by omega) (ev_pos rfl (ev_neg hud (Ev.bind ho (ev_pos ?_ (Ev.bind awake_ev (Ev.some rfl)))))))
      rw [decide_eq_true hk]; simp
    · rw [show endsv a0 a1 a2 l s a5 = (down a1 l, up a1 l) from (if_pos h).trans (if_neg hk)]
      refine ends_loop (path a1 l) hp l.length hn h1 (by omega) _ _ (.inr ⟨ed, eu⟩) a0 a1 a2 l s a5 ?_ _ 1 rfl (by omega) h1
      refine Ev.step (fun k => by rw [ententelaw13_NoteEnds.l0]) (ev_neg (by omega) (ev_pos rfl (ev_neg (Ne.symm hud) (Ev.bind ho (ev_pos ?_ (Ev.bind awake_ev (Ev.some rfl)))))))
      rw [decide_eq_false hk, beq_eq_false_iff_ne.2 hud]; rfl
  obtain ⟨k, hk⟩ := key
  exact ⟨k, hk k (Nat.le_refl _)⟩
end Go.Proofs.YtlaeihdldofkcaaDoor.Pure

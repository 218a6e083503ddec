/- Names: the program's test. -/
import Derived.Test.YtlaeihdldofkcaaGreatDoorBase
import Derived.Test.YtlaeihdldofkcaaGreatDoorPMx1
namespace Go.Proofs.YtlaeihdldofkcaaGreatDoor.NN
open Go.RowKit Go.Proofs.YtlaeihdldofkcaaGreatDoorW.PrintWords Go.Proofs.YtlaeihdldofkcaaGreatDoor.B Go.Proofs.YtlaeihdldofkcaaGreatDoor.PN
set_option linter.unusedSimpArgs false
set_option linter.unusedVariables false
theorem w1 (i:Nat) (h:i≤1000000):wrap64 ((i:Int)+1)=((i+1:Nat):Int):=by rw[wrap64_of (by omega) (by omega)];omega
def okc (c:Int):Prop:=(97≤c∧c≤122) ∨ (48≤c∧c≤57)
instance (c:Int):Decidable (okc c):=by unfold okc;exact inferInstance
def nameB (s:ByteArray):Bool:=decide (1≤s.size∧s.size≤16∧97≤bt s 0∧bt s 0≤122∧∀ j,j< s.size→okc (bt s (j:Int)))
theorem name_loop (s:ByteArray) (hs:s.size≤16):∀ (d i:Nat),s.size - i=d→i≤s.size→Ev (fun k=> act_Name.l0 k s (s.size:Int) (i:Int)) (decide (∀ j,j< s.size→i≤j→okc (bt s (j:Int))))
  |0,i,hd,hi=> by
    refine Ev.step (fun k=> by rw[act_Name.l0]) (ev_neg (by omega) (Ev.some ?_))
    rw[eq_comm,decide_eq_true_eq]
    intro j h1 h2;omega
  |d+1,i,hd,hi=> by
    have hlt:i< s.size:=by omega
    have ih:=name_loop s hs d (i+1) (by omega) (by omega)
    have bad:¬ okc (bt s (i:Int))→false=decide (∀ j,j< s.size→i≤j→okc (bt s (j:Int))):=by
      intro h
      rw[eq_comm,decide_eq_false_iff_not]
      exact fun h'=> h (h' i hlt (Nat.le_refl _))
    have good:okc (bt s (i:Int))→decide (∀ j,j< s.size→i+1≤j→okc (bt s (j:Int)))=decide (∀ j,j< s.size→i≤j→okc (bt s (j:Int))):=by
      intro h
      rw[decide_eq_decide]
      constructor
      · intro h' j h1 h2
        by_cases e:j=i
        · subst e;exact h
        · exact h' j h1 (by omega)
      · intro h' j h1 h2;exact h' j h1 (by omega)
    refine Ev.step (fun k=> by rw[act_Name.l0]) (ev_pos (by omega) (ev_pos (by omega) (ev_pos (by omega) ?_)))
    rw[w1 i (by omega)]
    refine ev_ite (fun h=> ?_) (fun h=> ?_)
    · refine ev_ite (fun h1=> Ev.some (bad (by unfold okc;omega))) (fun h1=> ev_ite (fun h2=> Ev.some (bad (by unfold okc;omega))) (fun h2=> ?_))
      rw[← good (by unfold okc;omega)];exact ih
    · refine ev_ite (fun h0=> ?_) (fun h0=> ?_)
      · refine ev_ite (fun h1=> Ev.some (bad (by unfold okc;omega))) (fun h1=> ev_ite (fun h2=> Ev.some (bad (by unfold okc;omega))) (fun h2=> ?_))
        omega
      · rw[← good (by unfold okc;omega)];exact ih
theorem name_ev (s:ByteArray):Ev (fun k=> act_Name.f k s) (nameB s):=by
  have no:(¬ (1≤s.size∧s.size≤16∧97≤bt s 0∧bt s 0≤122))→Ev (fun k=> act_Name.j0 k s true) (nameB s):=by
    intro h
    refine Ev.step (fun k=> by rw[act_Name.j0]) (ev_pos rfl (Ev.some ?_))
    unfold nameB
    rw[eq_comm,decide_eq_false_iff_not]
    exact fun h'=> h ⟨h'.1,h'.2.1,h'.2.2.1,h'.2.2.2.1⟩
  have he:s.toList=[] ↔ s.size=0:=by
    rw[ByteArray.toList_eq,← List.length_eq_zero_iff,Array.length_toList];exact Iff.rfl
  unfold act_Name.f
  refine ev_ite (fun h=> no (by have:=he.1 h;omega)) (fun h=> ?_)
  have h0:1≤s.size:=by have:¬ s.size=0:=fun e=> h (he.2 e);omega
  refine ev_ite (fun h1=> no (by omega)) (fun h1=> ev_pos (by omega) (ev_ite (fun h2=> no (by omega)) (fun h2=> ?_)))
  by_cases h3:bt s 0> 122
  · rw[decide_eq_true h3];exact no (by omega)
  · rw[decide_eq_false h3]
    refine Ev.step (fun k=> by rw[act_Name.j0]) (ev_neg (by decide) ?_)
    have:=name_loop s (by omega) s.size 0 rfl (Nat.zero_le _)
    have e:nameB s=decide (∀ j,j< s.size→0≤j→okc (bt s (j:Int))):=by
      unfold nameB
      rw[decide_eq_decide]
      exact⟨fun h j hj _=> h.2.2.2.2 j hj,fun h=> ⟨h0,by omega,by omega,by omega,fun j hj=> h j hj (Nat.zero_le _)⟩⟩
    rw[e];exact this
theorem nameB_size {s:ByteArray} (h:nameB s=true):1≤s.size∧s.size≤16:=by
  unfold nameB at h
  have:=of_decide_eq_true h
  exact⟨this.1,this.2.1⟩
end Go.Proofs.YtlaeihdldofkcaaGreatDoor.NN

/- Names: the document's test. -/
import Derived.Test.YtlaeihdldofkcaaGreatDoorNtN
import Derived.Test.YtlaeihdldofkcaaGreatDoorPMx7
namespace Go.Proofs.YtlaeihdldofkcaaGreatDoor.NN
open Go.RowKit Go.Proofs.YtlaeihdldofkcaaGreatDoorW.PrintWords Go.Proofs.YtlaeihdldofkcaaGreatDoor.B Go.Proofs.YtlaeihdldofkcaaGreatDoor.PN
set_option linter.unusedSimpArgs false
set_option linter.unusedVariables false
/-! ### the document's -/
def okr (s:ByteArray) (j:Nat):Prop:=okc (bt s (j:Int))∧(j=0→97≤bt s 0)
instance (s:ByteArray) (j:Nat):Decidable (okr s j):=by unfold okr;exact inferInstance
theorem rname_loop (s:ByteArray) (hs:s.size≤16):∀ (d i:Nat),s.size - i=d→i≤s.size→Ev (fun k=> ententeref06_Name.l0 k s (i:Int)) (decide (∀ j,j< s.size→i≤j→okr s j))
  |0,i,hd,hi=> by
    refine Ev.step (fun k=> by rw[ententeref06_Name.l0]) (ev_neg (by omega) (Ev.some ?_))
    rw[eq_comm,decide_eq_true_eq]
    intro j h1 h2;omega
  |d+1,i,hd,hi=> by
    have hlt:i< s.size:=by omega
    have ih:=rname_loop s hs d (i+1) (by omega) (by omega)
    have bad:¬ okr s i→false=decide (∀ j,j< s.size→i≤j→okr s j):=by
      intro h
      rw[eq_comm,decide_eq_false_iff_not]
      exact fun h'=> h (h' i hlt (Nat.le_refl _))
    have good:okr s i→decide (∀ j,j< s.size→i+1≤j→okr s j)=decide (∀ j,j< s.size→i≤j→okr s j):=by
      intro h
      rw[decide_eq_decide]
      constructor
      · intro h' j h1 h2
        by_cases e:j=i
        · subst e;exact h
        · exact h' j h1 (by omega)
      · intro h' j h1 h2;exact h' j h1 (by omega)
    have bad':(¬ okc (bt s (i:Int)) ∨ (i=0∧bt s (i:Int)< 97))→false=decide (∀ j,j< s.size→i≤j→okr s j):=by
      intro h
      apply bad
      unfold okr
      rcases h with h|⟨rfl,h⟩
      · exact fun h'=> h h'.1
      · intro h'
        have h2:=h'.2 rfl
        have e:((0:Nat):Int)=0:=rfl
        rw[e]at h
        omega
    have go:okc (bt s (i:Int))→(i=0→97≤bt s (i:Int))→Ev (fun k=> ententeref06_Name.l0 k s (wrap64 ((i:Int)+1))) (decide (∀ j,j< s.size→i≤j→okr s j)):=by
      intro h1 h2
      rw[w1 i (by omega),← good ⟨h1,fun e=> by have:=h2 e;subst e;exact this⟩]
      exact ih
    refine Ev.step (fun k=> by rw[ententeref06_Name.l0]) (ev_pos (by omega) (ev_pos (by omega) ?_))
    refine ev_ite (fun h=> ev_ite (fun h1=> ev_ite (fun h2=> ev_ite (fun h3=> ev_ite (fun h4=> ?_) (fun h4=> go (.inl ⟨by omega,by omega⟩) (fun _=> by omega))) (fun h3=> go (.inl ⟨by omega,by omega⟩) (fun _=> by omega))) (fun h2=> ev_ite (fun h3=> ?_) (fun h3=> Ev.some (bad' (.inl (by unfold okc;omega)))))) (fun h1=> ?_)) (fun h=> ?_)
    · omega
    · omega
    · omega
    · refine ev_ite (fun h1=> ev_ite (fun h2=> ev_ite (fun h3=> Ev.some (bad' (.inr ⟨by omega,by omega⟩))) (fun h3=> go (.inr ⟨by omega,by omega⟩) (fun e=> by omega))) (fun h2=> Ev.some (bad' (.inl (by unfold okc;omega))))) (fun h1=> Ev.some (bad' (.inl (by unfold okc;omega))))
theorem rname_ev (s:ByteArray):Ev (fun k=> ententeref06_Name.f k s) (nameB s):=by
  have no:(¬ (1≤s.size∧s.size≤16))→Ev (fun k=> ententeref06_Name.j0 k s true) (nameB s):=by
    intro h
    refine Ev.step (fun k=> by rw[ententeref06_Name.j0]) (ev_pos rfl (Ev.some ?_))
    unfold nameB
    rw[eq_comm,decide_eq_false_iff_not]
    exact fun h'=> h ⟨h'.1,h'.2.1⟩
  unfold ententeref06_Name.f
  refine ev_ite (fun h=> no (by omega)) (fun h=> ?_)
  by_cases h3:(s.size:Int)> 16
  · rw[decide_eq_true h3];exact no (by omega)
  · rw[decide_eq_false h3]
    refine Ev.step (fun k=> by rw[ententeref06_Name.j0]) (ev_neg (by decide) ?_)
    have:=rname_loop s (by omega) s.size 0 rfl (Nat.zero_le _)
    have e:nameB s=decide (∀ j,j< s.size→0≤j→okr s j):=by
      unfold nameB
      rw[decide_eq_decide]
      constructor
      · exact fun h j hj _=> ⟨h.2.2.2.2 j hj,fun _=> h.2.2.1⟩
      · intro h
        have h0:=h 0 (by omega) (Nat.le_refl _)
        have h1:=h0.2 rfl
        have h2:=h0.1
        unfold okc at h2
        have e:((0:Nat):Int)=0:=rfl
        rw[e]at h2
        exact⟨by omega,by omega,h1,by omega,fun j hj=> (h j hj (Nat.zero_le _)).1⟩
    rw[e];exact this
end Go.Proofs.YtlaeihdldofkcaaGreatDoor.NN

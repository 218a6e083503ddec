/- Which ids may be: the document's test. -/
import Derived.Test.YtlaeihdldofkcaaGreatDoorNtA
import Derived.Test.YtlaeihdldofkcaaGreatDoorPMx6
namespace Go.Proofs.YtlaeihdldofkcaaGreatDoor.IA
open Go.RowKit Go.Proofs.YtlaeihdldofkcaaGreatDoorW.PrintWords Go.Proofs.YtlaeihdldofkcaaGreatDoor.B Go.Proofs.YtlaeihdldofkcaaGreatDoor.PN
set_option linter.unusedSimpArgs false
set_option linter.unusedVariables false
/-! ### the document's test -/
theorem mem_take {l:List S46} {i:Nat} {y:Int}:y ∈ (orgs l).take i ↔ ∃ m,m< i∧∃ h:m< l.length,l[m].f1=y:=by
  unfold orgs
  rw[List.mem_iff_getElem]
  constructor
  · rintro⟨m,hm,h⟩
    rw[List.length_take,List.length_map]at hm
    exact⟨m,by omega,by omega,by simpa using h⟩
  · rintro⟨m,hm,hl,h⟩
    exact⟨m,by rw[List.length_take,List.length_map];omega,by simpa using h⟩
theorem rl1 (a b:Int) (l:List S46) (hl:l.length≤4) (i:Nat) (hi:i< l.length) (y0 y R:Int) (hbad:y ∈ (orgs l).take i→R=30) (hgood:¬ y ∈ (orgs l).take i→Ev (fun k=> ententeref03_Check.l0 k ((i+1:Nat):Int) a b l) R) :
    ∀ (d j:Nat),i - j=d→j≤i→(∀ m,m< j→∀ h:m< l.length,l[m].f1≠y)→Ev (fun k=> ententeref03_Check.l1 k (i:Int) (j:Int) a b l y0 y) R
  |0,j,hd,hj,hm=> by
    refine Ev.step (fun k=> by rw[ententeref03_Check.l1]) (ev_neg (by omega) ?_)
    rw[w64 i (by omega)]
    refine hgood (fun h=> ?_)
    obtain⟨m,h1,h2,h3⟩:=mem_take.1 h
    exact hm m (by omega) h2 h3
  |d+1,j,hd,hj,hm=> by
    refine Ev.step (fun k=> by rw[ententeref03_Check.l1]) (ev_pos (by omega) (ev_pos (by omega) (ev_pos (by omega) ?_)))
    rw[rd_get l j (by omega),w64 j (by omega)]
    refine ev_ite (fun h=> Ev.some (hbad (mem_take.2 ⟨j,by omega,by omega,h⟩)).symm) (fun h=> ?_)
    refine rl1 a b l hl i hi y0 y R hbad hgood d (j+1) (by omega) (by omega) (fun m hm1 hm2=> ?_)
    by_cases e:m=j
    · subst e;exact h
    · exact hm m (by omega) hm2
theorem rl0 (a b:Int) (l:List S46) (hl:l.length≤4):∀ (d i:Nat),l.length - i=d→i≤l.length→Ev (fun k=> ententeref03_Check.l0 k (i:Int) a b l) (if rfB (a :: (orgs l).take i) (l.drop i)=true then 0 else 30)
  |0,i,hd,hi=> by
    rw[List.drop_of_length_le (by omega)]
    refine Ev.step (fun k=> by rw[ententeref03_Check.l0]) ?_
    exact ev_neg (by omega) (Ev.some rfl)
  |d+1,i,hd,hi=> by
    have hlt:i< l.length:=by omega
    have ih:=rl0 a b l hl d (i+1) (by omega) (by omega)
    have ht:(orgs l).take (i+1)=(orgs l).take i++[l[i].f1]:=by
      rw[List.take_succ_eq_append_getElem (by unfold orgs;rw[List.length_map];exact hlt)]
      simp[orgs]
    rw[ht,← List.cons_append]at ih
    have hlp:=rl1 a b l hl i hlt
    rw[List.drop_eq_getElem_cons hlt]
    refine Ev.step (fun k=> by rw[ententeref03_Check.l0]) ?_
    refine ev_pos (by omega) (ev_pos (by omega) ?_)
    rw[rd_get l i hlt]
    generalize l[i]=x at ih ⊢
    have bad:∀ (u v w:Int),rfB (a :: (orgs l).take i) (x :: l.drop (i+1))=false→Ev (fun k=> ententeref03_Check.j2 k (i:Int) true a b l u v) (if rfB (a :: (orgs l).take i) (x :: l.drop (i+1))=true then 0 else 30):=by
      intro u v w h
      rw[h]
      refine Ev.step (fun k=> by rw[ententeref03_Check.j2]) ?_
      exact ev_pos rfl (Ev.some rfl)
    unfold rfB at bad ⊢
    refine ev_ite (fun h=> bad _ _ 0 (by simp[ident_Check.badStep,h])) (fun h0=> ?_)
    refine ev_ite (fun h=> bad _ _ 0 (by simp[ident_Check.badStep,show(8:Int)≤x.f0 by omega])) (fun h1=> ?_)
    refine ev_ite (fun h=> bad _ _ 0 (by simp[show ¬ (0:Int)≤x.f1 by omega])) (fun h2=> ?_)
    refine ev_ite (fun h=> bad _ _ 0 (by simp[show ¬ x.f1< 16 by omega])) (fun h3=> ?_)
    have hb:ident_Check.badStep x=false:=by simp[ident_Check.badStep];omega
    rw[hb,decide_eq_true (by omega:0≤x.f1),decide_eq_true (by omega:x.f1< 16),Bool.not_false,Bool.true_and,Bool.true_and,Bool.true_and]
    by_cases he:x.f1=a
    · rw[decide_eq_true (by simp[he]),Bool.not_true,Bool.false_and]
      refine Ev.step (fun k=> by rw[ententeref03_Check.j2]) ?_
      exact ev_pos (by simpa using he) (Ev.some rfl)
    · refine Ev.step (fun k=> by rw[ententeref03_Check.j2]) ?_
      refine ev_neg (by simpa using he) ?_
      refine hlp x.f0 x.f1 _ (fun hm=> ?_) (fun hm=> ?_) _ 0 rfl (Nat.zero_le _) (fun m hm=> by omega)
      · rw[decide_eq_true (List.mem_cons_of_mem _ hm),Bool.not_true,Bool.false_and];rfl
      · rw[decide_eq_false (by rw[List.mem_cons];exact fun h=> h.elim he hm),Bool.not_false,Bool.true_and]
        exact ih
theorem rcheck_ev (a b:Int) (l:List S46):Ev (fun k=> ententeref03_Check.f k a b l) (chk a b l):=by
  have bad:good a b l=false→Ev (fun k=> ententeref03_Check.j0 k true a b l) (chk a b l):=by
    intro h
    unfold chk
    rw[h]
    refine Ev.step (fun k=> by rw[ententeref03_Check.j0]) ?_
    exact ev_pos rfl (Ev.some rfl)
  have nb:¬ (1≤b∧b≤999999∧l.length≤4∧0≤a∧a< 16∧rfB [a] l=true)→good a b l=false:=by
    intro h
    cases hg:good a b l with
    |false=> rfl
    |true=> exact absurd (good_iff.1 hg) h
  unfold ententeref03_Check.f
  refine ev_ite (fun h=> bad (nb (by omega))) (fun h0=> ?_)
  refine ev_ite (fun h=> bad (nb (by omega))) (fun h1=> ?_)
  refine ev_ite (fun h=> bad (nb (by omega))) (fun h2=> ?_)
  refine ev_ite (fun h=> bad (nb (by omega))) (fun h3=> ?_)
  by_cases h4:a> 15
  · rw[decide_eq_true h4]
    exact bad (nb (by omega))
  · rw[decide_eq_false h4]
    refine Ev.step (fun k=> by rw[ententeref03_Check.j0]) ?_
    refine ev_neg (by decide) ?_
    have hg:good a b l=rfB [a] l:=by
      unfold good
      rw[decide_eq_true (by omega:1≤b),decide_eq_true (by omega:b≤999999),decide_eq_true (by omega:l.length≤4),decide_eq_true (by omega:0≤a),decide_eq_true (by omega:a< 16)]
      simp
    have:=rl0 a b l (by omega) _ 0 rfl (Nat.zero_le _)
    unfold chk
    rw[hg]
    exact this
end Go.Proofs.YtlaeihdldofkcaaGreatDoor.IA

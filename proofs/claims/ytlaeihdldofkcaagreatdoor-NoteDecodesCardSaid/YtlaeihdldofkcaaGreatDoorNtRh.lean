/- The document's notes: which may be, their ends. -/
import Derived.Test.YtlaeihdldofkcaaGreatDoorNtD
import Derived.Test.YtlaeihdldofkcaaGreatDoorNtCr
import Derived.Test.YtlaeihdldofkcaaGreatDoorNtNr
import Derived.Test.YtlaeihdldofkcaaGreatDoorPMx7
namespace Go.Proofs.YtlaeihdldofkcaaGreatDoor.ND
open Go.RowKit Go.Proofs.YtlaeihdldofkcaaGreatDoorW.PrintWords Go.Proofs.YtlaeihdldofkcaaGreatDoor.B Go.Proofs.YtlaeihdldofkcaaGreatDoor.PN Go.Proofs.YtlaeihdldofkcaaGreatDoor.IA Go.Proofs.YtlaeihdldofkcaaGreatDoor.IB Go.Proofs.YtlaeihdldofkcaaGreatDoor.IC Go.Proofs.YtlaeihdldofkcaaGreatDoor.NN
open Go.Proofs.YtlaeihdldofkcaaGreatDoor.IS (ba ba_data ba_size ba_app shv shv_yes shv_no showL itoa_len)
open Go.Proofs.YtlaeihdldofkcaaGreatDoor.IP (show_len)
set_option linter.unusedSimpArgs false
set_option linter.unusedVariables false
theorem rchk_ev (a0 a1 a2:Int) (l:List S46) (s:ByteArray) (a5:Int):Ev (fun k=> ententeref13_Check.f k a0 a1 a2 l s a5) (chkN a0 a1 a2 l s a5):=by
  have bad1:¬ okN a0 a1 a2 l s a5→Ev (fun k=> ententeref13_Check.j1 k true a0 a1 a2 l s a5) (chkN a0 a1 a2 l s a5):=by
    intro h
    rw[chkN_no h]
    exact Ev.step (fun k=> by rw[ententeref13_Check.j1]) (ev_pos rfl (Ev.some rfl))
  have bad:¬ okN a0 a1 a2 l s a5→Ev (fun k=> ententeref13_Check.j0 k true a0 a1 a2 l s a5) (chkN a0 a1 a2 l s a5):=by
    intro h
    rw[chkN_no h]
    exact Ev.step (fun k=> by rw[ententeref13_Check.j0]) (ev_pos rfl (Ev.some rfl))
  unfold ententeref13_Check.f
  refine ev_ite (fun h=> bad (fun h'=> by have:=h'.1;omega)) (fun h1=> ev_ite (fun h=> bad (fun h'=> by have:=h'.2.1;omega)) (fun h2=> ?_))
  refine Ev.bind (rcheck_ev a1 a2 l) ?_
  by_cases hg:good a1 a2 l=true
  case neg=> exact ev_neg (fun h'=> hg (chk0.1 h')) (bad (fun h'=> hg h'.2.2.1))
  refine ev_pos (chk0.2 hg) ?_
  by_cases hl:1≤l.length
  case neg=>
    rw[show((l.length:Int)==0)=true from beq_iff_eq.2 (by omega)]
    exact bad (fun h'=> hl h'.2.2.2.1)
  rw[show((l.length:Int)==0)=false from beq_eq_false_iff_ne.2 (by omega)]
  refine Ev.step (fun k=> by rw[ententeref13_Check.j0]) (ev_neg (by decide) ?_)
  have last:(if a0=1 then nameB s=true else s.size=0)→Ev (fun k=> ententeref13_Check.j1 k false a0 a1 a2 l s a5) (chkN a0 a1 a2 l s a5):=by
    intro hs
    refine Ev.step (fun k=> by rw[ententeref13_Check.j1]) (ev_neg (by decide) ?_)
    have no:¬ (if a0=6 then 1≤a5∧a5≤9 else a5=0)→chkN a0 a1 a2 l s a5=130:=fun h=> chkN_no (fun h'=> h h'.2.2.2.2.2)
    have yes:(if a0=6 then 1≤a5∧a5≤9 else a5=0)→chkN a0 a1 a2 l s a5=0:=fun h=> if_pos ⟨by omega,by omega,hg,hl,hs,h⟩
    refine ev_ite (fun h6=> ?_) (fun h6=> ?_)
    · rw[if_pos h6]at no yes
      refine ev_ite (fun h=> ?_) (fun h=> ev_ite (fun h'=> ?_) (fun h'=> ?_))
      · rw[no (by omega)];exact Ev.some rfl
      · rw[no (by omega)];exact Ev.some rfl
      · rw[yes (by omega)];exact Ev.some rfl
    · rw[if_neg h6]at no yes
      refine ev_ite (fun h=> ?_) (fun h=> ?_)
      · rw[yes h];exact Ev.some rfl
      · rw[no h];exact Ev.some rfl
  refine ev_ite (fun h=> Ev.bind (rname_ev s) ?_) (fun h=> ?_)
  · by_cases hn:nameB s=true
    · exact ev_pos hn (last (by rw[if_pos h];exact hn))
    · exact ev_neg hn (bad1 (fun h'=> by have:=h'.2.2.2.2.1;rw[if_pos h]at this;exact hn this))
  · by_cases hn:s.size=0
    · rw[show(s.toList !=([]:List UInt8))=false by rw[(empty_iff s).2 hn];rfl]
      exact last (by rw[if_neg h];exact hn)
    · rw[show(s.toList !=([]:List UInt8))=true by rw[bne_iff_ne];exact fun h'=> hn ((empty_iff s).1 h')]
      exact bad1 (fun h'=> by have:=h'.2.2.2.2.1;rw[if_neg h]at this;exact hn this)
theorem rends_ev (a0 a1 a2:Int) (l:List S46) (s:ByteArray) (a5:Int):Ev (fun k=> ententeref13_Ends.f k a0 a1 a2 l s a5) (endsv a0 a1 a2 l s a5):=by
  unfold ententeref13_Ends.f
  refine Ev.bind (rchk_ev a0 a1 a2 l s a5) ?_
  by_cases h:okN a0 a1 a2 l s a5
  case neg=>
    rw[ends_no h]
    exact ev_neg (fun h'=> h (chkN0.1 h')) (Ev.some rfl)
  have hg:=h.2.2.1
  have h1:=h.2.2.2.1
  have hl:=good_len hg
  refine ev_pos (chkN0.2 h) (Ev.bind (rpath_ev a1 a2 l) ?_)
  rw[show pth a1 a2 l=path a1 l from if_pos hg,path_len,show wrap64 (((l.length+1:Nat):Int) - 2)=((l.length - 1:Nat):Int)by rw[wrap64_of (by omega) (by omega)];omega,show wrap64 (((l.length+1:Nat):Int) - 1)=(l.length:Int)by rw[wrap64_of (by omega) (by omega)];omega]
  have e1:rd (path a1 l) ((l.length - 1:Nat):Int)=up a1 l:=by
    have:l.length - 1< (path a1 l).length:=by rw[path_len];omega
    rw[rdi_get _ _ this];unfold up;rw[List.getElem?_eq_getElem this];rfl
  have e2:rd (path a1 l) (l.length:Int)=down a1 l:=by
    have:l.length< (path a1 l).length:=by rw[path_len];omega
    rw[rdi_get _ _ this];unfold down;rw[List.getElem?_eq_getElem this];rfl
  rw[e1,e2]
  refine ev_pos (by omega) (ev_pos (by omega) (ev_pos (by omega) (ev_pos (by omega) (ev_ite (fun h4=> ?_) (fun h4=> ?_)))))
  · rw[show endsv a0 a1 a2 l s a5=(down a1 l,up a1 l)from(if_pos h).trans (if_neg (by omega))];exact Ev.some rfl
  · rw[show endsv a0 a1 a2 l s a5=(up a1 l,down a1 l)from(if_pos h).trans (if_pos (by omega))];exact Ev.some rfl
end Go.Proofs.YtlaeihdldofkcaaGreatDoor.ND

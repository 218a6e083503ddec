/- Ids' paths, as the document says them. -/
import Derived.Test.YtlaeihdldofkcaaGreatDoorNtC
import Derived.Test.YtlaeihdldofkcaaGreatDoorNtAr
import Derived.Test.YtlaeihdldofkcaaGreatDoorPMx7
namespace Go.Proofs.YtlaeihdldofkcaaGreatDoor.IC
open Go.RowKit Go.Proofs.YtlaeihdldofkcaaGreatDoorW.PrintWords Go.Proofs.YtlaeihdldofkcaaGreatDoor.B Go.Proofs.YtlaeihdldofkcaaGreatDoor.PN Go.Proofs.YtlaeihdldofkcaaGreatDoor.IA Go.Proofs.YtlaeihdldofkcaaGreatDoor.IB
set_option linter.unusedSimpArgs false
set_option linter.unusedVariables false
theorem rpath_loop (a b:Int) (l:List S46) (hl:l.length≤4):∀ (d i:Nat) (out:List Int),l.length - i=d→i≤l.length→out.length≤i+1→Ev (fun k=> ententeref03_Path.l0 k out (i:Int) a b l) (out++(orgs l).drop i)
  |0,i,out,hd,hi,ho=> by
    rw[List.drop_of_length_le (by unfold orgs;rw[List.length_map];omega)]
    refine Ev.step (fun k=> by rw[ententeref03_Path.l0]) ?_
    exact ev_neg (by omega) (Ev.some (by rw[List.append_nil]))
  |d+1,i,out,hd,hi,ho=> by
    have hlt:i< l.length:=by omega
    have hlo:i< (orgs l).length:=by unfold orgs;rw[List.length_map];exact hlt
    refine Ev.step (fun k=> by rw[ententeref03_Path.l0]) ?_
    refine ev_pos (by omega) (ev_pos (by omega) (ev_pos (by omega) ?_))
    rw[rd_get l i hlt,w64 i (by omega),List.drop_eq_getElem_cons hlo]
    have ih:=rpath_loop a b l hl d (i+1) (out++[l[i].f1]) (by omega) (by omega) (by rw[List.length_append];simp only[List.length_cons,List.length_nil];omega)
    rw[List.append_assoc]at ih
    have e:(orgs l)[i]=l[i].f1:=by simp[orgs]
    rw[e]
    exact ih
theorem rpath_ev (a b:Int) (l:List S46):Ev (fun k=> ententeref03_Path.f k a b l) (pth a b l):=by
  unfold ententeref03_Path.f pth
  refine Ev.bind (rcheck_ev a b l) ?_
  by_cases h:good a b l=true
  · rw[if_pos h]
    exact ev_pos (chk0.2 h) (rpath_loop a b l (good_len h) _ 0 [a] rfl (Nat.zero_le _) (by simp))
  · rw[if_neg h]
    exact ev_neg (fun h'=> h (chk0.1 h')) (Ev.some rfl)
end Go.Proofs.YtlaeihdldofkcaaGreatDoor.IC

/- Ids' paths, organisations and parents: the program's. -/
import Derived.Test.YtlaeihdldofkcaaGreatDoorNtB
import Derived.Test.YtlaeihdldofkcaaGreatDoorPMx1
namespace Go.Proofs.YtlaeihdldofkcaaGreatDoor.IC
open Go.RowKit Go.Proofs.YtlaeihdldofkcaaGreatDoorW.PrintWords Go.Proofs.YtlaeihdldofkcaaGreatDoor.B Go.Proofs.YtlaeihdldofkcaaGreatDoor.PN Go.Proofs.YtlaeihdldofkcaaGreatDoor.IA Go.Proofs.YtlaeihdldofkcaaGreatDoor.IB
set_option linter.unusedSimpArgs false
set_option linter.unusedVariables false
theorem good_len {a b:Int} {l:List S46} (h:good a b l=true):l.length≤4:=(good_iff.1 h).2.2.1
theorem path_ev (a b:Int) (l:List S46) (h:l.length≤100000):Ev (fun k=> ident_path.f k a b l) (a :: orgs l):=Ev.of (fun k=> ident_path.mono a b l k) (k:=l.length+1) (ident_Check.path_eq a b l h)
/-- The path of an id that may be. -/
def pth (a b:Int) (l:List S46):List Int:=if good a b l=true then a :: orgs l else[]
/-- Where an id's saga lives. -/
def org (a b:Int) (l:List S46):Int:=if good a b l=true then(a :: orgs l)[l.length]?.getD 0 else -1
theorem orgs_len (l:List S46):(orgs l).length=l.length:=by unfold orgs;rw[List.length_map]
theorem last_rd (a:Int) (l:List S46) (hl:l.length≤4):wrap64 (((a :: orgs l).length:Int) - 1)=(l.length:Int)∧rd (a :: orgs l) (l.length:Int)=(a :: orgs l)[l.length]?.getD 0:=by
  have hn:(a :: orgs l).length=l.length+1:=by rw[List.length_cons,orgs_len]
  constructor
  · rw[hn,wrap64_of (by omega) (by omega)];omega
  · rw[rdi_get _ _ (by omega),List.getElem?_eq_getElem (by omega)];rfl
theorem iorg_ev (a b:Int) (l:List S46):Ev (fun k=> ident_Org.f k a b l) (org a b l):=by
  unfold ident_Org.f org
  refine ev_bind0 (check_eq a b l) ?_
  by_cases h:good a b l=true
  · rw[if_pos h]
    have hl:=good_len h
    obtain⟨h1,h2⟩:=last_rd a l hl
    refine ev_pos (chk0.2 h) (Ev.bind (path_ev a b l (by omega)) ?_)
    rw[h1]
    refine ev_pos (by omega) (ev_pos (by rw[List.length_cons,orgs_len];omega) (Ev.some h2))
  · rw[if_neg h]
    exact ev_neg (fun h'=> h (chk0.1 h')) (Ev.some rfl)
theorem pth_len (a b:Int) (l:List S46):(pth a b l).length≤5:=by
  unfold pth
  split
  · rename_i h
    have:=good_len h
    rw[List.length_cons,orgs_len];omega
  · simp
def par (a b:Int) (l:List S46):Int×Int×List S46×Int×Bool:=if good a b l=true∧1≤l.length then(a,b,l.take (l.length - 1),(rd_T46 l ((l.length - 1:Nat):Int)).f0,true)else(0,0,[],0,false)
theorem par_yes {a b:Int} {l:List S46} (h:good a b l=true) (h1:1≤l.length):par a b l=(a,b,l.take (l.length - 1),(rd_T46 l ((l.length - 1:Nat):Int)).f0,true):=by unfold par;rw[if_pos ⟨h,h1⟩]
theorem par_no {a b:Int} {l:List S46} (h:¬ (good a b l=true∧1≤l.length)):par a b l=(0,0,[],0,false):=by unfold par;rw[if_neg h]
theorem parent_ev (a b:Int) (l:List S46) (hn:l.length≤9223372036854775807):Ev (fun _=> ident_Parent.f a b l) (par a b l):=by
  unfold ident_Parent.f
  refine ev_bind0 (check_eq a b l) ?_
  by_cases h:good a b l=true
  case neg=>
    rw[par_no (fun h'=> h h'.1)]
    exact ev_neg (fun h'=> h (chk0.1 h')) (Ev.some rfl)
  have hl:=good_len h
  refine ev_pos (chk0.2 h) ?_
  by_cases h1:1≤l.length
  · rw[par_yes h h1,w64m _ h1 hn]
    refine ev_neg (by omega) ?_
    refine ev_pos (by omega) ?_
    refine ev_pos (by omega) ?_
    rw[Int.toNat_natCast]
    refine ev_bind0 (a:=l.take (l.length - 1)) ?_ ?_
    · unfold api_Hop.f
      rw[if_pos (by rw[List.length_take];omega)]
    · exact ev_pos (by omega) (Ev.some rfl)
  · rw[par_no (fun h'=> h1 h'.2)]
    have e:wrap64 ((l.length:Int) - 1)< 0:=by rw[wrap64_of (by omega) (by omega)];omega
    exact ev_pos e (Ev.some rfl)
theorem chk30 {a b:Int} {l:List S46} (h:¬ good a b l=true):chk a b l=30:=by unfold chk;rw[if_neg h]
end Go.Proofs.YtlaeihdldofkcaaGreatDoor.IC

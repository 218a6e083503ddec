/- Notes: which may be, their ends, how they are written; frames: which may be. -/
import Derived.Test.YtlaeihdldofkcaaGreatDoorNtC
import Derived.Test.YtlaeihdldofkcaaGreatDoorNtP
import Derived.Test.YtlaeihdldofkcaaGreatDoorNtN
import Derived.Test.YtlaeihdldofkcaaGreatDoorPMx1
import Derived.Test.YtlaeihdldofkcaaGreatDoorPMx6
import Derived.Test.YtlaeihdldofkcaaGreatDoorPMx2
namespace Go.Proofs.YtlaeihdldofkcaaGreatDoor.ND
open Go.RowKit Go.Proofs.YtlaeihdldofkcaaGreatDoorW.PrintWords Go.Proofs.YtlaeihdldofkcaaGreatDoor.B Go.Proofs.YtlaeihdldofkcaaGreatDoor.PN Go.Proofs.YtlaeihdldofkcaaGreatDoor.IA Go.Proofs.YtlaeihdldofkcaaGreatDoor.IB Go.Proofs.YtlaeihdldofkcaaGreatDoor.IC Go.Proofs.YtlaeihdldofkcaaGreatDoor.NN
open Go.Proofs.YtlaeihdldofkcaaGreatDoor.IS (ba ba_data ba_size ba_app shv shv_yes shv_no showL ishow_ev itoa_eq itoa_len)
open Go.Proofs.YtlaeihdldofkcaaGreatDoor.IP (show_len)
set_option linter.unusedSimpArgs false
set_option linter.unusedVariables false
def okN (a0 a1 a2:Int) (l:List S46) (s:ByteArray) (a5:Int):Prop:=
  1≤a0∧a0≤7∧good a1 a2 l=true∧1≤l.length∧(if a0=1 then nameB s=true else s.size=0)∧(if a0=6 then 1≤a5∧a5≤9 else a5=0)
instance (a0 a1 a2:Int) (l:List S46) (s:ByteArray) (a5:Int):Decidable (okN a0 a1 a2 l s a5):=by unfold okN;exact inferInstance
def chkN (a0 a1 a2:Int) (l:List S46) (s:ByteArray) (a5:Int):Int:=if okN a0 a1 a2 l s a5 then 0 else 130
theorem chkN0 {a0 a1 a2:Int} {l:List S46} {s:ByteArray} {a5:Int}:chkN a0 a1 a2 l s a5=0 ↔ okN a0 a1 a2 l s a5:=by unfold chkN;split<;> simp_all
theorem chkN_no {a0 a1 a2:Int} {l:List S46} {s:ByteArray} {a5:Int} (h:¬ okN a0 a1 a2 l s a5):chkN a0 a1 a2 l s a5=130:=if_neg h
theorem par_is (a b:Int) (l:List S46):(par a b l).2.2.2.2=decide (good a b l=true∧1≤l.length):=by
  unfold par
  split
  · rename_i h;rw[decide_eq_true h]
  · rename_i h;rw[decide_eq_false h]
theorem empty_iff (s:ByteArray):s.toList=[] ↔ s.size=0:=by
  rw[ByteArray.toList_eq,← List.length_eq_zero_iff,Array.length_toList];exact Iff.rfl
theorem res_eq (a0 a1 a2:Int) (l:List S46) (s:ByteArray) (a5:Int):note_Check.res a0 (par a1 a2 l).2.2.2.2 (nameB s) s a5=chkN a0 a1 a2 l s a5:=by
  unfold note_Check.res
  rw[par_is]
  by_cases h1:a0< 1 ∨ 7< a0 ∨ ¬ (good a1 a2 l=true∧1≤l.length)
  · rw[if_pos (h1.elim .inl (fun h=> .inr (h.elim .inl (fun h=> .inr (decide_eq_false h))))),chkN_no]
    intro h
    unfold okN at h
    rcases h1 with h1|h1|h1
    · omega
    · omega
    · exact h1 ⟨h.2.2.1,h.2.2.2.1⟩
  rw[if_neg (fun h=> h.elim (fun h=> h1 (.inl h)) (fun h=> h.elim (fun h=> h1 (.inr (.inl h))) (fun h=> h1 (.inr (.inr (of_decide_eq_false h))))))]
  have g:good a1 a2 l=true∧1≤l.length:=by
    by_cases hg:good a1 a2 l=true∧1≤l.length
    · exact hg
    · exact absurd (.inr (.inr hg)) h1
  have e1:(note_Check.c2 a0 (nameB s) s=true) ↔ ¬ (if a0=1 then nameB s=true else s.size=0):=by
    unfold note_Check.c2
    by_cases h:a0=1
    · rw[if_pos h,if_pos h];cases nameB s<;> simp
    · rw[if_neg h,if_neg h]
      rw[Bool.or_eq_true,bne_iff_ne,ne_eq,empty_iff]
      constructor
      · rintro(h2|h2)
        · have:=nameB_size h2;omega
        · exact h2
      · exact fun h2=> .inr h2
  have e2:(note_Check.c3 a0 a5=true) ↔ ¬ (if a0=6 then 1≤a5∧a5≤9 else a5=0):=by
    unfold note_Check.c3
    by_cases h:a0=6
    · rw[if_pos h,if_pos h];simp;omega
    · rw[if_neg h,if_neg h];simp
  by_cases h2:(if a0=1 then nameB s=true else s.size=0)
  case neg=> rw[if_pos (e1.2 h2),chkN_no (fun h=> h2 h.2.2.2.2.1)]
  rw[if_neg (fun h=> e1.1 h h2)]
  by_cases h3:(if a0=6 then 1≤a5∧a5≤9 else a5=0)
  case neg=> rw[if_pos (e2.2 h3),chkN_no (fun h=> h3 h.2.2.2.2.2)]
  rw[if_neg (fun h=> e2.1 h h3)]
  exact(if_pos (show okN a0 a1 a2 l s a5 from⟨by omega,by omega,g.1,g.2,h2,h3⟩)).symm
theorem check_ev (a0 a1 a2:Int) (l:List S46) (s:ByteArray) (a5:Int) (hl:l.length≤9223372036854775807):Ev (fun k=> note_Check.f k a0 a1 a2 l s a5) (chkN a0 a1 a2 l s a5):=by
  unfold note_Check.f
  refine Ev.bind (parent_ev a1 a2 l hl) (Ev.bind (name_ev s) (Ev.some ?_))
  exact res_eq a0 a1 a2 l s a5
/-! ### ends -/
theorem rf_snoc:∀ (l:List S46) (t:List Int) (x:S46),rfB t (l++[x])=(rfB t l && (!ident_Check.badStep x && (decide (0≤x.f1) && (decide (x.f1< 16) && !decide (x.f1 ∈ t++orgs l)))))
  |[],t,x=> by simp[rfB,orgs]
  |y :: l,t,x=> by
    have ih:=rf_snoc l (t++[y.f1]) x
    rw[List.cons_append]
    unfold rfB
    rw[ih,List.append_assoc,show[y.f1]++orgs l=orgs (y :: l)from rfl]
    cases ident_Check.badStep y<;> cases decide (0≤y.f1)<;> cases decide (y.f1< 16)<;> cases decide (y.f1 ∈ t)<;> simp
theorem good_take {a b:Int} {l:List S46} (h:good a b l=true) (h1:1≤l.length):good a b (l.take (l.length - 1))=true:=by
  have hs:l=l.take (l.length - 1)++[l[l.length - 1]]:=by
    conv=> lhs;rw[← List.take_append_drop (l.length - 1) l]
    rw[List.drop_eq_getElem_cons (by omega),List.drop_of_length_le (by omega)]
  obtain⟨g1,g2,g3,g4,g5,g6⟩:=good_iff.1 h
  rw[hs,rf_snoc,Bool.and_eq_true]at g6
  exact good_iff.2 ⟨g1,g2,by rw[List.length_take];omega,g4,g5,g6.1⟩
def path (a1:Int) (l:List S46):List Int:=a1 :: orgs l
theorem path_len (a1:Int) (l:List S46):(path a1 l).length=l.length+1:=by unfold path;rw[List.length_cons,orgs_len]
def down (a1:Int) (l:List S46):Int:=(path a1 l)[l.length]?.getD 0
def up (a1:Int) (l:List S46):Int:=(path a1 l)[l.length - 1]?.getD 0
theorem org_down {a b:Int} {l:List S46} (h:good a b l=true):org a b l=down a l:=by unfold org;rw[if_pos h];rfl
theorem org_up {a b:Int} {l:List S46} (h:good a b l=true) (h1:1≤l.length):org a b (l.take (l.length - 1))=up a l:=by
  unfold org up path
  rw[if_pos (good_take h h1),List.length_take,Nat.min_eq_left (by omega)]
  congr 1
  have e:a :: orgs (l.take (l.length - 1))=(a :: orgs l).take l.length:=by
    rw[show l.length=(l.length - 1)+1 by omega,List.take_succ_cons]
    unfold orgs
    rw[List.map_take]
    congr 2
  rw[e,List.getElem?_take,if_pos (by omega)]
def endsv (a0 a1 a2:Int) (l:List S46) (s:ByteArray) (a5:Int):Int×Int:=if okN a0 a1 a2 l s a5 then(if a0≤4 then(up a1 l,down a1 l)else(down a1 l,up a1 l))else(-1,-1)
theorem ends_no {a0 a1 a2:Int} {l:List S46} {s:ByteArray} {a5:Int} (h:¬ okN a0 a1 a2 l s a5):endsv a0 a1 a2 l s a5=(-1,-1):=if_neg h
theorem ends_ev (a0 a1 a2:Int) (l:List S46) (s:ByteArray) (a5:Int) (hl:l.length≤9223372036854775807):Ev (fun k=> note_Ends.f k a0 a1 a2 l s a5) (endsv a0 a1 a2 l s a5):=by
  unfold note_Ends.f
  refine Ev.bind (check_ev a0 a1 a2 l s a5 hl) ?_
  by_cases h:okN a0 a1 a2 l s a5
  case neg=>
    rw[ends_no h]
    exact ev_neg (fun h'=> h (chkN0.1 h')) (Ev.some rfl)
  have hg:=h.2.2.1
  have h1:=h.2.2.2.1
  refine ev_pos (chkN0.2 h) (Ev.bind (parent_ev a1 a2 l hl) ?_)
  rw[par_yes hg h1]
  have ho:=iorg_ev a1 a2 (l.take (l.length - 1))
  rw[org_up hg h1]at ho
  have hd:=iorg_ev a1 a2 l
  rw[org_down hg]at hd
  by_cases h4:a0≤4
  · rw[show endsv a0 a1 a2 l s a5=(up a1 l,down a1 l)from(if_pos h).trans (if_pos h4)]
    exact ev_pos h4 (Ev.bind ho (Ev.bind hd (Ev.some rfl)))
  · rw[show endsv a0 a1 a2 l s a5=(down a1 l,up a1 l)from(if_pos h).trans (if_neg h4)]
    exact ev_neg h4 (Ev.bind hd (Ev.bind ho (Ev.some rfl)))
/-! ### written -/
def wordB (a0:Int):ByteArray:=note_word.ws.getD a0.toNat ⟨#[]⟩
theorem word_size (a0:Int):(wordB a0).size≤10:=by
  unfold wordB
  generalize a0.toNat=n
  have:∀ n,n< 8→(note_word.ws.getD n ⟨#[]⟩).size≤10:=by decide+kernel
  by_cases h:n< 8
  · exact this n h
  · rw[List.getD_eq_getElem?_getD,List.getElem?_eq_none (by show 8≤n;omega)];decide
def sp:ByteArray:=⟨#[32]⟩
def textN (a0 a1 a2:Int) (l:List S46) (s:ByteArray) (a5:Int):ByteArray:=((wordB a0++sp)++ba (showL a1 a2 l))++(if a0=1 then sp++s else if a0=6 then sp++ba (Lib.itoa a5)else⟨#[]⟩)
theorem textN1 {a0 a1 a2:Int} {l:List S46} {s:ByteArray} {a5:Int} (h:a0=1):textN a0 a1 a2 l s a5=((wordB a0++sp)++ba (showL a1 a2 l))++(sp++s):=by unfold textN;rw[if_pos h]
theorem textN6 {a0 a1 a2:Int} {l:List S46} {s:ByteArray} {a5:Int} (h:a0=6):textN a0 a1 a2 l s a5=((wordB a0++sp)++ba (showL a1 a2 l))++(sp++ba (Lib.itoa a5)):=by unfold textN;rw[if_neg (by omega),if_pos h]
theorem app_nil (x:ByteArray):x++(⟨#[]⟩:ByteArray)=x:=str_ext (by rw[data_append];simp)
theorem textN0 {a0 a1 a2:Int} {l:List S46} {s:ByteArray} {a5:Int} (h:a0≠1) (h2:a0≠6):textN a0 a1 a2 l s a5=(wordB a0++sp)++ba (showL a1 a2 l):=by unfold textN;rw[if_neg h,if_neg h2,app_nil]
def showv (a0 a1 a2:Int) (l:List S46) (s:ByteArray) (a5:Int):ByteArray×Int:=if okN a0 a1 a2 l s a5 then(textN a0 a1 a2 l s a5,0)else(⟨#[]⟩,130)
theorem nshow_ev (a0 a1 a2:Int) (l:List S46) (s:ByteArray) (a5:Int) (hl:l.length≤9223372036854775807):Ev (fun k=> note_Show.f k a0 a1 a2 l s a5) (showv a0 a1 a2 l s a5):=by
  unfold note_Show.f
  refine Ev.bind (check_ev a0 a1 a2 l s a5 hl) ?_
  by_cases h:okN a0 a1 a2 l s a5
  case neg=>
    rw[show showv a0 a1 a2 l s a5=(⟨#[]⟩,130)from if_neg h,chkN_no h]
    exact ev_neg (by decide) (Ev.some rfl)
  rw[show showv a0 a1 a2 l s a5=(textN a0 a1 a2 l s a5,0)from if_pos h]
  obtain⟨k1,k2,hg,h1,hs,hw⟩:=h
  refine ev_pos (chkN0.2 ⟨k1,k2,hg,h1,hs,hw⟩) (Ev.bind (ishow_ev a1 a2 l) ?_)
  rw[shv_yes hg]
  have hwd:note_word.f a0=some (wordB a0):=by unfold note_word.f;rw[if_pos ⟨by omega,by omega⟩];rfl
  have hz:=word_size a0
  have hsl:=show_len hg
  have hb:(ba (showL a1 a2 l)).size≤100:=by rw[ba_size];exact hsl
  refine ev_bind0 hwd (ev_pos (by omega) (ev_pos (show(wordB a0).size+1+(ba (showL a1 a2 l)).size≤9223372036854775807 by omega) ?_))
  have e1:(⟨#[32]⟩:ByteArray).size=1:=rfl
  by_cases g1:a0=1
  · rw[if_pos g1]at hs
    rw[textN1 g1]
    have:=nameB_size hs
    exact ev_pos g1 (ev_pos (by omega) (ev_pos (show(wordB a0).size+1+(ba (showL a1 a2 l)).size+(1+s.size)≤9223372036854775807 by omega) (Ev.some rfl)))
  refine ev_neg g1 ?_
  by_cases g6:a0=6
  · rw[if_pos g6]at hw
    rw[textN6 g6]
    have hi:=itoa_len a5 (by omega) (by omega)
    refine ev_pos g6 (ev_bind0 (itoa_eq a5 (by omega) (by omega)) ?_)
    rw[ba_size]
    exact ev_pos (by omega) (ev_pos (show(wordB a0).size+1+(ba (showL a1 a2 l)).size+(1+(Lib.itoa a5).length)≤9223372036854775807 by omega) (Ev.some rfl))
  · rw[textN0 g1 g6]
    exact ev_neg g6 (Ev.some rfl)
/-! ### frames -/
def emptyN (a0 a1 a2:Int) (l:List S46) (s:ByteArray) (a5:Int):Prop:=a0=0∧a1=0∧a2=0∧l.length=0∧s.size=0∧a5=0
instance (a0 a1 a2:Int) (l:List S46) (s:ByteArray) (a5:Int):Decidable (emptyN a0 a1 a2 l s a5):=by unfold emptyN;exact inferInstance
theorem empty_ev (a0 a1 a2:Int) (l:List S46) (s:ByteArray) (a5:Int):note_empty.f a0 a1 a2 l s a5=some (decide (emptyN a0 a1 a2 l s a5)):=by
  unfold note_empty.f
  by_cases h0:a0=0
  case neg=> rw[if_neg h0,decide_eq_false (p:=emptyN a0 a1 a2 l s a5) (fun h=> h0 h.1)]
  by_cases h1:a1=0
  case neg=> rw[if_pos h0,if_neg h1,decide_eq_false (p:=emptyN a0 a1 a2 l s a5) (fun h=> h1 h.2.1)]
  by_cases h2:a2=0
  case neg=> rw[if_pos h0,if_pos h1,if_neg h2,decide_eq_false (p:=emptyN a0 a1 a2 l s a5) (fun h=> h2 h.2.2.1)]
  by_cases h3:l.length=0
  case neg=> rw[if_pos h0,if_pos h1,if_pos h2,if_neg (by omega),decide_eq_false (p:=emptyN a0 a1 a2 l s a5) (fun h=> h3 h.2.2.2.1)]
  by_cases h4:s.size=0
  case neg=> rw[if_pos h0,if_pos h1,if_pos h2,if_pos (by omega),if_neg (fun h=> h4 ((empty_iff s).1 h)),decide_eq_false (p:=emptyN a0 a1 a2 l s a5) (fun h=> h4 h.2.2.2.2.1)]
  rw[if_pos h0,if_pos h1,if_pos h2,if_pos (by omega),if_pos ((empty_iff s).2 h4)]
  by_cases h5:a5=0
  · rw[decide_eq_true (p:=emptyN a0 a1 a2 l s a5) ⟨h0,h1,h2,h3,h4,h5⟩];simp[h5]
  · rw[decide_eq_false (p:=emptyN a0 a1 a2 l s a5) (fun h=> h5 h.2.2.2.2.2)];simp[h5]
theorem within_loop (x:Int) (l:List Int) (hl:l.length≤100):∀ (d i:Nat),l.length - i=d→i≤l.length→Ev (fun k=> note_within.l0 k x l (l.length:Int) (i:Int)) ((l.drop i).all fun y=> decide (x≤y) && decide (y≤1000000000))
  |0,i,hd,hi=> by
    rw[List.drop_of_length_le (by omega)]
    show Ev _ true
    refine Ev.step (fun k=> by rw[note_within.l0]) (ev_neg (by omega) (Ev.some rfl))
  |d+1,i,hd,hi=> by
    have hlt:i< l.length:=by omega
    have ih:=within_loop x l hl d (i+1) (by omega) (by omega)
    rw[List.drop_eq_getElem_cons hlt,List.all_cons]
    refine Ev.step (fun k=> by rw[note_within.l0]) (ev_pos (by omega) (ev_pos (by omega) (ev_pos (by omega) ?_)))
    rw[w1 i (by omega),rdi_get l i hlt]
    refine ev_ite (fun h=> Ev.some ?_) (fun h=> ev_ite (fun h2=> Ev.some ?_) (fun h2=> ?_))
    · rw[decide_eq_false (by omega),Bool.false_and,Bool.false_and]
    · rw[decide_eq_false (p:=l[i]≤1000000000) (by omega),Bool.and_false,Bool.false_and]
    · rw[decide_eq_true (p:=x≤l[i]) (by omega),decide_eq_true (p:=l[i]≤1000000000) (by omega),Bool.true_and,Bool.true_and]
      exact ih
theorem within_ev (x:Int) (l:List Int) (hl:l.length≤100):Ev (fun k=> note_within.f k x l) (l.all fun y=> decide (x≤y) && decide (y≤1000000000)):=by
  unfold note_within.f
  exact within_loop x l hl l.length 0 rfl (Nat.zero_le _)
def okH (f t e q ae ak:Int):Prop:=0≤f∧f< 16∧0≤t∧t< 16∧f≠t∧1≤e∧e≤1000000000∧0≤q∧q≤1000000000∧0≤ae∧ae≤1000000000∧0≤ak∧ak≤1000000000
instance (f t e q ae ak:Int):Decidable (okH f t e q ae ak):=by unfold okH;exact inferInstance
def okF (f t e q ae ak a0 a1 a2:Int) (l:List S46) (s:ByteArray) (a5:Int):Prop:=okH f t e q ae ak∧(if q=0 then emptyN a0 a1 a2 l s a5 else endsv a0 a1 a2 l s a5=(f,t))
instance (f t e q ae ak a0 a1 a2:Int) (l:List S46) (s:ByteArray) (a5:Int):Decidable (okF f t e q ae ak a0 a1 a2 l s a5):=by unfold okF;exact inferInstance
def frv (f t e q ae ak a0 a1 a2:Int) (l:List S46) (s:ByteArray) (a5:Int):Int:=if okF f t e q ae ak a0 a1 a2 l s a5 then 0 else 130
theorem frv0 {f t e q ae ak a0 a1 a2:Int} {l:List S46} {s:ByteArray} {a5:Int}:frv f t e q ae ak a0 a1 a2 l s a5=0 ↔ okF f t e q ae ak a0 a1 a2 l s a5:=by unfold frv;split<;> simp_all
theorem okF_N {f t e q ae ak a0 a1 a2:Int} {l:List S46} {s:ByteArray} {a5:Int} (h:okF f t e q ae ak a0 a1 a2 l s a5) (hq:q≠0):okN a0 a1 a2 l s a5:=by
  have h2:=h.2
  rw[if_neg hq]at h2
  by_cases hn:okN a0 a1 a2 l s a5
  · exact hn
  · rw[ends_no hn,Prod.mk.injEq]at h2
    have:=h.1.1
    omega
theorem frame_ev (f t e q ae ak a0 a1 a2:Int) (l:List S46) (s:ByteArray) (a5:Int) (hl:l.length≤9223372036854775807):Ev (fun k=> note_Frame.f k f t e q ae ak a0 a1 a2 l s a5) (frv f t e q ae ak a0 a1 a2 l s a5):=by
  have no:¬ okH f t e q ae ak→Ev (fun k=> note_Frame.j0 k true f t e q ae ak a0 a1 a2 l s a5) (frv f t e q ae ak a0 a1 a2 l s a5):=by
    intro h
    rw[show frv f t e q ae ak a0 a1 a2 l s a5=130 from if_neg (fun h'=> h h'.1)]
    exact Ev.step (fun k=> by rw[note_Frame.j0]) (ev_pos rfl (Ev.some rfl))
  unfold note_Frame.f
  refine ev_ite (fun h=> no (by unfold okH;omega)) (fun h0=> ev_ite (fun h=> no (by unfold okH;omega)) (fun h1=> ev_ite (fun h=> no (by unfold okH;omega)) (fun h2=> ev_ite (fun h=> no (by unfold okH;omega)) (fun h3=> ev_ite (fun h=> no (by unfold okH;omega)) (fun h4=> ?_)))))
  refine Ev.bind (within_ev 1 [e] (by simp)) ?_
  by_cases h5:1≤e∧e≤1000000000
  case neg=> exact ev_neg (by simpa using h5) (no (by unfold okH;omega))
  refine ev_pos (by simpa using h5) (Ev.bind (within_ev 0 [q,ae,ak] (by simp)) ?_)
  by_cases h6:0≤q∧q≤1000000000∧0≤ae∧ae≤1000000000∧0≤ak∧ak≤1000000000
  case neg=>
    have e6:([q,ae,ak].all fun y=> decide (0≤y) && decide (y≤1000000000))=false:=by
      rw[Bool.eq_false_iff]
      intro h'
      simp at h'
      omega
    rw[e6]
    exact no (by unfold okH;omega)
  have e6:([q,ae,ak].all fun y=> decide (0≤y) && decide (y≤1000000000))=true:=by simp;omega
  rw[e6]
  have hH:okH f t e q ae ak:=by unfold okH;omega
  refine Ev.step (fun k=> by rw[note_Frame.j0]) (ev_neg (by decide) ?_)
  by_cases h7:q=0
  · refine ev_pos h7 (ev_bind0 (empty_ev a0 a1 a2 l s a5) ?_)
    by_cases h8:emptyN a0 a1 a2 l s a5
    · rw[show frv f t e q ae ak a0 a1 a2 l s a5=0 from if_pos ⟨hH,by rw[if_pos h7];exact h8⟩]
      exact ev_pos (decide_eq_true h8) (Ev.some rfl)
    · rw[show frv f t e q ae ak a0 a1 a2 l s a5=130 from if_neg (fun h=> by have:=h.2;rw[if_pos h7]at this;exact h8 this)]
      exact ev_neg (by simpa using h8) (Ev.some rfl)
  · refine ev_neg h7 (Ev.bind (ends_ev a0 a1 a2 l s a5 hl) ?_)
    by_cases h8:endsv a0 a1 a2 l s a5=(f,t)
    · rw[show frv f t e q ae ak a0 a1 a2 l s a5=0 from if_pos ⟨hH,by rw[if_neg h7];exact h8⟩,h8]
      exact ev_pos rfl (ev_pos rfl (Ev.some rfl))
    · rw[show frv f t e q ae ak a0 a1 a2 l s a5=130 from if_neg (fun h=> by have:=h.2;rw[if_neg h7]at this;exact h8 this)]
      refine ev_ite (fun g1=> ev_ite (fun g2=> absurd (Prod.ext g1 g2) h8) (fun g2=> Ev.some rfl)) (fun g1=> Ev.some rfl)
end Go.Proofs.YtlaeihdldofkcaaGreatDoor.ND

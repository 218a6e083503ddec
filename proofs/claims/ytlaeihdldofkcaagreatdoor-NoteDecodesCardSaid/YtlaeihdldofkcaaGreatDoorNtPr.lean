/- Ids, read by the document's reading: it answers an id exactly where the text is what writing that id answers. -/
import Derived.Test.YtlaeihdldofkcaaGreatDoorNtP
import Derived.Test.YtlaeihdldofkcaaGreatDoorNtSr
import Derived.Test.YtlaeihdldofkcaaGreatDoorPMx9
namespace Go.Proofs.YtlaeihdldofkcaaGreatDoor.IN
open Go.RowKit Go.Proofs.YtlaeihdldofkcaaGreatDoorW.PrintWords Go.Proofs.YtlaeihdldofkcaaGreatDoor.B Go.Proofs.YtlaeihdldofkcaaGreatDoor.PN Go.Proofs.YtlaeihdldofkcaaGreatDoor.IA Go.Proofs.YtlaeihdldofkcaaGreatDoor.IB Go.Proofs.YtlaeihdldofkcaaGreatDoor.IS Go.Proofs.YtlaeihdldofkcaaGreatDoor.IP
set_option linter.unusedSimpArgs false
set_option linter.unusedVariables false
/-! ### a number at a place -/
/-- At most n digits ahead of a text: what they spell behind v, and how many they are. -/
def scn:Nat→List UInt8→Int→Int×Nat
  |0,_,v=> (v,0)
  |_+1,[],v=> (v,0)
  |n+1,c :: r,v=> if 48≤c.toNat∧c.toNat≤57 then((scn n r (wrap64 (wrap64 (10 * v)+(((c.toNat:Int) - 48) % 256)))).1,(scn n r (wrap64 (wrap64 (10 * v)+(((c.toNat:Int) - 48) % 256)))).2+1)else(v,0)
theorem scn_le:∀ (n:Nat) (l:List UInt8) (v:Int),(scn n l v).2≤l.length
  |0,l,v=> Nat.zero_le _
  |n+1,[],v=> Nat.zero_le _
  |n+1,c :: r,v=> by
    unfold scn
    split
    · have:=scn_le n r (wrap64 (wrap64 (10 * v)+(((c.toNat:Int) - 48) % 256)))
      simp only[List.length_cons];omega
    · exact Nat.zero_le _
theorem num_loop (s:ByteArray) (hs:(s.size:Int)≤281474976710656) (p:Nat) (hp:p≤s.size):∀ (n j:Nat) (v:Int),j+n=6→p+j≤s.size→
    Ev (fun k=> ententeref03_Number.l0 k s (p:Int) v ((p+j:Nat):Int)) ((scn n (s.data.toList.drop (p+j)) v).1,((p+j+(scn n (s.data.toList.drop (p+j)) v).2:Nat):Int),decide (0< j+(scn n (s.data.toList.drop (p+j)) v).2)):=by
  have hlen:s.data.toList.length=s.size:=(size_eq_length s).symm
  have w6:wrap64 ((p:Int)+6)=((p+6:Nat):Int):=by rw[wrap64_of (by omega) (by omega)];omega
  intro n
  induction n with
  |zero=>
    intro j v hj hle
    refine Ev.step (fun k=> by rw[ententeref03_Number.l0]) ?_
    rw[w6]
    have e:(decide (((p+j:Nat):Int)> (p:Int)))=decide (0< j+(scn 0 (s.data.toList.drop (p+j)) v).2):=by
      rw[decide_eq_decide];unfold scn;omega
    rw[← e]
    refine ev_ite (fun h=> ?_) (fun h=> Ev.some rfl)
    exact ev_neg (by omega) (Ev.some rfl)
  |succ n ih=>
    intro j v hj hle
    refine Ev.step (fun k=> by rw[ententeref03_Number.l0]) ?_
    rw[w6]
    by_cases h:p+j< s.size
    · have hd:s.data.toList.drop (p+j)=s.data.toList[p+j]'(by omega) :: s.data.toList.drop (p+j+1):=List.drop_eq_getElem_cons (by omega)
      rw[hd,bt_get s (p+j) (by omega)]
      have ih':=ih (j+1) (wrap64 (wrap64 (10 * v)+((((s.data.toList[p+j]'(by omega)).toNat:Int) - 48) % 256))) (by omega) (by omega)
      have w1:wrap64 (((p+j:Nat):Int)+1)=((p+(j+1):Nat):Int):=by rw[wrap64_of (by omega) (by omega)];omega
      rw[w1]
      rw[show p+j+1=p+(j+1)by omega]
      generalize s.data.toList[p+j]'(by omega)=c at *
      generalize s.data.toList.drop (p+(j+1))=r at *
      unfold scn
      refine ev_pos (by omega) ?_
      refine ev_pos (by omega) ?_
      refine ev_pos (by omega) ?_
      by_cases h1:48≤c.toNat∧c.toNat≤57
      · rw[if_pos h1]
        refine ev_pos (by omega) ?_
        refine ev_pos (by omega) ?_
        generalize scn n r (wrap64 (wrap64 (10 * v)+(((c.toNat:Int) - 48) % 256)))=x at ih' ⊢
        have e1:p+j+(x.2+1)=p+(j+1)+x.2:=by omega
        have e2:j+(x.2+1)=j+1+x.2:=by omega
        rw[e1,e2]
        exact ih'
      · rw[if_neg h1]
        have e:(decide (((p+j:Nat):Int)> (p:Int)))=decide (0< j+0):=by rw[decide_eq_decide];omega
        simp only
        rw[← e]
        refine ev_ite (fun h2=> ?_) (fun h2=> Ev.some rfl)
        exact ev_neg (by omega) (Ev.some rfl)
    · have hd:s.data.toList.drop (p+j)=[]:=List.drop_of_length_le (by omega)
      rw[hd]
      unfold scn
      have e:(decide (((p+j:Nat):Int)> (p:Int)))=decide (0< j+0):=by rw[decide_eq_decide];omega
      simp only
      rw[← e]
      exact ev_neg (by omega) (Ev.some rfl)
/-- The number at place p: its value, the place behind, and whether there is one. -/
def num (s:ByteArray) (p:Nat):Int×Nat×Bool:=((scn 6 (s.data.toList.drop p) 0).1,p+(scn 6 (s.data.toList.drop p) 0).2,decide (0< (scn 6 (s.data.toList.drop p) 0).2))
theorem num_ev (s:ByteArray) (hs:(s.size:Int)≤281474976710656) (p:Nat) (hp:p≤s.size):Ev (fun k=> ententeref03_Number.f k s (p:Int)) ((num s p).1,((num s p).2.1:Int),(num s p).2.2):=by
  have:=num_loop s hs p hp 6 0 0 rfl hp
  simp only[Nat.add_zero,Nat.zero_add]at this
  unfold ententeref03_Number.f
  exact this
theorem num_to (s:ByteArray) (p:Nat) (hp:p≤s.size):(num s p).2.1≤s.size:=by
  have hlen:s.data.toList.length=s.size:=(size_eq_length s).symm
  have:=scn_le 6 (s.data.toList.drop p) 0
  rw[List.length_drop]at this
  show p+(scn 6 (s.data.toList.drop p) 0).2≤s.size
  omega
/-- A text that begins with no digit. -/
def stop (r:List UInt8):Prop:=∀ c,r.head?=some c→c.toNat< 48 ∨ 57< c.toNat
theorem scn_stop:∀ (n:Nat) (r:List UInt8) (v:Int),stop r→scn n r v=(v,0)
  |0,r,v,_=> rfl
  |n+1,[],v,_=> rfl
  |n+1,c :: r,v,h=> by
    have:=h c rfl
    unfold scn
    rw[if_neg (by omega)]
theorem scn_dec:∀ (u:Nat),u≤999999→∀ (m:Nat) (r:List UInt8),(Lib.decDigits u).length≤m→scn m (Lib.decDigits u++r) 0=((scn (m - (Lib.decDigits u).length) r (u:Int)).1,(scn (m - (Lib.decDigits u).length) r (u:Int)).2+(Lib.decDigits u).length):=by
  intro u
  induction u using Nat.strongRecOn with
  |ind u ih=>
    intro hu m r hm
    by_cases h:u< 10
    · rw[Lib.decDigits_one h]at *
      match m,hm with
      |m+1,_=>
        rw[List.singleton_append,scn,ofNat48 u h,if_pos (by omega)]
        have e:wrap64 (wrap64 (10 * 0)+((((48+u:Nat):Int) - 48) % 256))=(u:Int):=by
          rw[wrap64_of (x:=10 * 0) (by omega) (by omega),wrap64_of (by omega) (by omega)];omega
        rw[e]
        rfl
    · rw[Lib.decDigits,dif_neg h]at *
      rw[List.length_append,List.length_singleton]at *
      rw[List.append_assoc,ih (u / 10) (by omega) (by omega) m _ (by omega),List.singleton_append]
      obtain⟨q,hq⟩:∃ q,m - (Lib.decDigits (u / 10)).length=q+1:=⟨m - (Lib.decDigits (u / 10)).length - 1,by omega⟩
      have hq2:m - ((Lib.decDigits (u / 10)).length+1)=q:=by omega
      rw[hq,hq2,scn,ofNat48 _ (by omega),if_pos (by omega)]
      have e:wrap64 (wrap64 (10 * ((u / 10:Nat):Int))+((((48+u % 10:Nat):Int) - 48) % 256))=(u:Int):=by
        rw[wrap64_of (x:=10 * ((u / 10:Nat):Int)) (by omega) (by omega),wrap64_of (by omega) (by omega)];omega
      rw[e]
      refine Prod.ext rfl ?_
      simp only
      omega
theorem num_of (s:ByteArray) (p:Nat) (n:Int) (h0:0≤n) (h1:n≤999999) (r:List UInt8) (hr:stop r) (h:s.data.toList.drop p=Lib.itoa n++r):num s p=(n,p+(Lib.itoa n).length,true):=by
  have hl:=itoa_len n h0 h1
  have hp:=dec_len n.toNat
  unfold num
  rw[h]
  rw[itoa_dec h0]at *
  rw[scn_dec _ (by omega) 6 r hl,scn_stop _ _ _ hr]
  refine Prod.ext (by show((n.toNat:Nat):Int)=n;omega) (Prod.ext (by simp) ?_)
  simp only[decide_eq_true_eq]
  omega
/-! ### the whole -/
/-- What a reading may answer. -/
def Sound (s:ByteArray) (r:Int×Int×List S46×Int):Prop:=r=(0,0,[],30) ∨ ∃ a b l,good a b l=true∧showL a b l=s.data.toList∧r=(a,b,l,0)
theorem end_ev (s:ByteArray) (p:Int) (ok:Bool) (a b:Int) (l:List S46):Ev (fun k=> ententeref03_Parse.j2 k s p ok false a b l) (if ok=true then fin s a b l else(0,0,[],30)):=by
  refine Ev.step (fun k=> by rw[ententeref03_Parse.j2]) ?_
  refine ev_neg (by decide) ?_
  refine Ev.bind (rshow_ev a b l) ?_
  cases ok with
  |false=> exact ev_neg (by decide) (Ev.some rfl)
  |true=>
    refine ev_pos rfl ?_
    show Ev _ (fin s a b l)
    by_cases h:good a b l=true
    · rw[shv_yes h]
      refine ev_pos rfl ?_
      by_cases h2:showL a b l=s.data.toList
      · rw[fin_yes h h2]
        refine ev_pos ?_ (Ev.some rfl)
        show(ba (showL a b l)).toList=s.toList
        rw[h2,ba_of]
      · rw[fin_no (fun h'=> h2 h'.2)]
        refine ev_neg (fun h'=> h2 ?_) (Ev.some rfl)
        have:=toList_inj.1 h'
        rw[← this]
        exact(ba_data _).symm
    · rw[shv_no h,fin_no (fun h'=> h h'.1)]
      exact ev_neg (by decide) (Ev.some rfl)
theorem fin_sound (s:ByteArray) (ok:Bool) (a b:Int) (l:List S46):Sound s (if ok=true then fin s a b l else(0,0,[],30)):=by
  cases ok with
  |false=> exact Or.inl rfl
  |true=>
    show Sound s (fin s a b l)
    by_cases h:good a b l=true∧showL a b l=s.data.toList
    · exact Or.inr ⟨a,b,l,h.1,h.2,fin_yes h.1 h.2⟩
    · exact Or.inl (fin_no h)
theorem loop_total (s:ByteArray) (hs:(s.size:Int)≤281474976710656) (a b:Int):∀ (d:Nat) (l:List S46) (p:Nat) (ok:Bool),5 - l.length=d→p≤s.size→∃ r,Ev (fun k=> ententeref03_Parse.l0 k s (p:Int) ok a b l) r∧Sound s r:=by
  intro d
  induction d with
  |zero=>
    intro l p ok hd hp
    refine⟨_,?_,fin_sound s ok a b l⟩
    refine Ev.step (fun k=> by rw[ententeref03_Parse.l0]) ?_
    refine ev_ite (fun h=> ?_) (fun h=> end_ev s p ok a b l)
    refine ev_ite (fun h=> ?_) (fun h=> end_ev s p ok a b l)
    rw[decide_eq_false (by omega)]
    exact end_ev s p ok a b l
  |succ d ih=>
    intro l p ok hd hp
    by_cases h:ok=true∧p< s.size
    · have hok:=h.1
      subst hok
      have hw:wrap64 ((p:Int)+1)=((p+1:Nat):Int):=by rw[wrap64_of (by omega) (by omega)];omega
      have n1:=num_ev s hs (p+1) (by omega)
      have t1:=num_to s (p+1) (by omega)
      have go:∀ r,Ev (fun k=> ententeref03_Parse.j2 k s (p:Int) true true a b l) r→Ev (fun k=> ententeref03_Parse.l0 k s (p:Int) true a b l) r:=by
        intro r hr
        refine Ev.step (fun k=> by rw[ententeref03_Parse.l0]) ?_
        refine ev_pos rfl ?_
        refine ev_pos (by omega) ?_
        rw[decide_eq_true (by omega)]
        exact hr
      by_cases h2:(num s (p+1)).2.2=true∧(num s (p+1)).2.1< s.size
      · have hw2:wrap64 (((num s (p+1)).2.1:Int)+1)=(((num s (p+1)).2.1+1:Nat):Int):=by rw[wrap64_of (by omega) (by omega)];omega
        have n2:=num_ev s hs ((num s (p+1)).2.1+1) (by omega)
        have t2:=num_to s ((num s (p+1)).2.1+1) (by omega)
        obtain⟨r,hr,hS⟩:=ih (l++[⟨(num s (p+1)).1,(num s ((num s (p+1)).2.1+1)).1⟩]) (num s ((num s (p+1)).2.1+1)).2.1 (num s ((num s (p+1)).2.1+1)).2.2 (by rw[List.length_append];simp only[List.length_cons,List.length_nil];omega) t2
        refine⟨r,go r ?_,hS⟩
        refine Ev.step (fun k=> by rw[ententeref03_Parse.j2]) ?_
        refine ev_pos rfl ?_
        rw[hw]
        refine Ev.bind n1 ?_
        refine ev_pos h2.1 ?_
        refine ev_neg (by simp only;omega) ?_
        simp only[hw2]
        refine Ev.bind n2 ?_
        exact ev_pos (by omega) hr
      · refine⟨(0,0,[],30),go _ ?_,Or.inl rfl⟩
        refine Ev.step (fun k=> by rw[ententeref03_Parse.j2]) ?_
        refine ev_pos rfl ?_
        rw[hw]
        refine Ev.bind n1 ?_
        by_cases h3:(num s (p+1)).2.2=true
        · refine ev_pos h3 ?_
          refine ev_pos ?_ (Ev.some rfl)
          have:¬ (num s (p+1)).2.1< s.size:=fun h4=> h2 ⟨h3,h4⟩
          simp only
          omega
        · exact ev_neg h3 (Ev.some rfl)
    · refine⟨_,?_,fin_sound s ok a b l⟩
      refine Ev.step (fun k=> by rw[ententeref03_Parse.l0]) ?_
      refine ev_ite (fun h'=> ?_) (fun h'=> end_ev s p ok a b l)
      exact ev_neg (fun h2=> h ⟨h',by omega⟩) (end_ev s p ok a b l)
theorem rparse_total (s:ByteArray) (hs:(s.size:Int)≤281474976710656):∃ r,Ev (fun k=> ententeref03_Parse.f k s) r∧Sound s r:=by
  have n0:=num_ev s hs 0 (Nat.zero_le _)
  have t0:=num_to s 0 (Nat.zero_le _)
  have bad:∀ (p:Int) (a b:Int),Ev (fun k=> ententeref03_Parse.j0 k s p true a b) (0,0,[],30):=by
    intro p a b
    refine Ev.step (fun k=> by rw[ententeref03_Parse.j0]) ?_
    exact ev_pos rfl (Ev.some rfl)
  by_cases h:(num s 0).2.2=true∧(num s 0).2.1< s.size
  · have hw:wrap64 (((num s 0).2.1:Int)+1)=(((num s 0).2.1+1:Nat):Int):=by rw[wrap64_of (by omega) (by omega)];omega
    have n1:=num_ev s hs ((num s 0).2.1+1) (by omega)
    have t1:=num_to s ((num s 0).2.1+1) (by omega)
    obtain⟨r,hr,hS⟩:=loop_total s hs (num s 0).1 (num s ((num s 0).2.1+1)).1 5 [] (num s ((num s 0).2.1+1)).2.1 (num s ((num s 0).2.1+1)).2.2 rfl t1
    refine⟨r,?_,hS⟩
    unfold ententeref03_Parse.f
    refine Ev.bind n0 ?_
    refine ev_pos h.1 ?_
    have e:((((num s 0).2.1:Nat):Int)==(s.size:Int))=false:=by
      rw[beq_eq_false_iff_ne];omega
    simp only[e]
    refine Ev.step (fun k=> by rw[ententeref03_Parse.j0]) ?_
    refine ev_neg (by decide) ?_
    rw[hw]
    exact Ev.bind n1 hr
  · refine⟨(0,0,[],30),?_,Or.inl rfl⟩
    unfold ententeref03_Parse.f
    refine Ev.bind n0 ?_
    by_cases h3:(num s 0).2.2=true
    · refine ev_pos h3 ?_
      have:¬ (num s 0).2.1< s.size:=fun h4=> h ⟨h3,h4⟩
      have e:((((num s 0).2.1:Nat):Int)==(s.size:Int))=true:=by
        rw[beq_iff_eq];omega
      simp only[e]
      exact bad _ _ _
    · exact ev_neg h3 (bad _ _ _)
theorem stop_nil:stop []:=fun c h=> by cases h
theorem stop_cons {c:UInt8} {r:List UInt8} (h:c.toNat< 48 ∨ 57< c.toNat):stop (c :: r):=fun x hx=> by obtain rfl:=Option.some.inj hx;exact h
theorem stop_flat (l:List S46):stop (l.flatMap hopL):=by
  cases l with
  |nil=> exact stop_nil
  |cons x l=> exact stop_cons (by decide)
theorem wn (p:Nat) (h:(p:Int)≤281474976710656):wrap64 ((p:Int)+1)=((p+1:Nat):Int):=by rw[wrap64_of (by omega) (by omega)];omega
theorem loop_reads (s:ByteArray) (hs:(s.size:Int)≤281474976710656) {a b:Int} {l:List S46} (hg:good a b l=true) (hsh:showL a b l=s.data.toList):∀ (d i p:Nat),l.length - i=d→i≤l.length→p≤s.size→s.data.toList.drop p=(l.drop i).flatMap hopL→
    Ev (fun k=> ententeref03_Parse.l0 k s (p:Int) true a b (l.take i)) (a,b,l,0):=by
  have hlen:s.data.toList.length=s.size:=(size_eq_length s).symm
  have hl4:=(good_iff.1 hg).2.2.1
  intro d
  induction d with
  |zero=>
    intro i p hd hi hp h
    have hil:i=l.length:=by omega
    subst hil
    rw[List.drop_of_length_le (Nat.le_refl _),List.flatMap_nil]at h
    have hps:p=s.size:=by
      have:=congrArg List.length h
      rw[List.length_drop,List.length_nil]at this
      omega
    rw[List.take_of_length_le (Nat.le_refl _)]
    refine Ev.step (fun k=> by rw[ententeref03_Parse.l0]) ?_
    refine ev_pos rfl ?_
    refine ev_neg (by omega) ?_
    have:=end_ev s p true a b l
    rw[if_pos rfl,fin_yes hg hsh]at this
    exact this
  |succ d ih=>
    intro i p hd hi hp h
    have hlt:i< l.length:=by omega
    have g:=good_hops hg l[i] (List.getElem_mem hlt)
    rw[flat_drop l i hlt]at h
    have hne:p< s.size:=by
      have:=congrArg List.length h
      rw[List.length_drop]at this
      unfold hopL at this
      rw[List.length_append,List.length_cons]at this
      omega
    -- the step
    have d1:s.data.toList.drop (p+1)=Lib.itoa l[i].f0++64 :: (Lib.itoa l[i].f1++(l.drop (i+1)).flatMap hopL):=by
      rw[← List.drop_drop,h]
      unfold hopL
      simp
    have m1:=num_of s (p+1) l[i].f0 g.1 (by omega) _ (stop_cons (by decide)) d1
    have n1:=num_ev s hs (p+1) (by omega)
    have t1:p+1+(Lib.itoa l[i].f0).length< s.size:=by
      have:=congrArg List.length d1
      rw[List.length_drop,List.length_append,List.length_cons]at this
      omega
    rw[m1]at n1
    simp only at n1
    -- the organisation
    have d2:s.data.toList.drop (p+1+(Lib.itoa l[i].f0).length+1)=Lib.itoa l[i].f1++(l.drop (i+1)).flatMap hopL:=by
      rw[show p+1+(Lib.itoa l[i].f0).length+1=(p+1)+((Lib.itoa l[i].f0).length+1)by omega,← List.drop_drop,d1,← List.drop_drop,List.drop_left' rfl]
      rfl
    have m2:=num_of s (p+1+(Lib.itoa l[i].f0).length+1) l[i].f1 g.2.2.1 (by omega) _ (stop_flat _) d2
    have n2:=num_ev s hs (p+1+(Lib.itoa l[i].f0).length+1) (by omega)
    rw[m2]at n2
    simp only at n2
    have t2:p+1+(Lib.itoa l[i].f0).length+1+(Lib.itoa l[i].f1).length≤s.size:=by
      have:=congrArg List.length d2
      rw[List.length_drop,List.length_append]at this
      omega
    have d3:s.data.toList.drop (p+1+(Lib.itoa l[i].f0).length+1+(Lib.itoa l[i].f1).length)=(l.drop (i+1)).flatMap hopL:=by
      rw[← List.drop_drop,d2,List.drop_left' rfl]
    have ih':=ih (i+1) _ (by omega) (by omega) t2 d3
    have ht:l.take (i+1)=l.take i++[l[i]]:=List.take_succ_eq_append_getElem hlt
    rw[ht]at ih'
    have hti:(l.take i).length=i:=by rw[List.length_take];omega
    refine Ev.step (fun k=> by rw[ententeref03_Parse.l0]) ?_
    refine ev_pos rfl ?_
    refine ev_pos (by omega) ?_
    rw[decide_eq_true (by omega)]
    refine Ev.step (fun k=> by rw[ententeref03_Parse.j2]) ?_
    refine ev_pos rfl ?_
    rw[wn p (by omega)]
    refine Ev.bind n1 ?_
    dsimp only
    refine ev_pos rfl ?_
    refine ev_neg (by omega) ?_
    rw[wn (p+1+(Lib.itoa l[i].f0).length) (by omega)]
    refine Ev.bind n2 ?_
    dsimp only
    exact ev_pos (by omega) ih'
theorem rparse_reads (s:ByteArray) (hs:(s.size:Int)≤281474976710656) {a b:Int} {l:List S46} (hg:good a b l=true) (hsh:showL a b l=s.data.toList):Ev (fun k=> ententeref03_Parse.f k s) (a,b,l,0):=by
  have hlen:s.data.toList.length=s.size:=(size_eq_length s).symm
  obtain⟨h1,h2,h3,h4,h5,h6⟩:=good_iff.1 hg
  have d0:s.data.toList.drop 0=Lib.itoa a++46 :: (Lib.itoa b++l.flatMap hopL):=by rw[List.drop_zero,← hsh];rfl
  have m0:=num_of s 0 a h4 (by omega) _ (stop_cons (by decide)) d0
  have n0:=num_ev s hs 0 (Nat.zero_le _)
  have t0:(Lib.itoa a).length< s.size:=by
    have:=congrArg List.length d0
    rw[List.length_drop,List.length_append,List.length_cons]at this
    omega
  rw[m0]at n0
  simp only[Nat.zero_add]at n0
  have d1:s.data.toList.drop ((Lib.itoa a).length+1)=Lib.itoa b++l.flatMap hopL:=by
    rw[List.drop_zero]at d0
    rw[d0,← List.drop_drop,List.drop_left' rfl]
    rfl
  have m1:=num_of s ((Lib.itoa a).length+1) b (by omega) h2 _ (stop_flat _) d1
  have n1:=num_ev s hs ((Lib.itoa a).length+1) (by omega)
  rw[m1]at n1
  simp only at n1
  have t1:(Lib.itoa a).length+1+(Lib.itoa b).length≤s.size:=by
    have:=congrArg List.length d1
    rw[List.length_drop,List.length_append]at this
    omega
  have d2:s.data.toList.drop ((Lib.itoa a).length+1+(Lib.itoa b).length)=(l.drop 0).flatMap hopL:=by
    rw[← List.drop_drop,d1,List.drop_left' rfl,List.drop_zero]
  have hl:=loop_reads s hs hg hsh _ 0 _ rfl (Nat.zero_le _) t1 d2
  rw[List.take_zero]at hl
  unfold ententeref03_Parse.f
  refine Ev.bind n0 ?_
  dsimp only
  refine ev_pos rfl ?_
  have e:(((Lib.itoa a).length:Int)==(s.size:Int))=false:=by
    rw[beq_eq_false_iff_ne];omega
  simp only[e]
  refine Ev.step (fun k=> by rw[ententeref03_Parse.j0]) ?_
  refine ev_neg (by decide) ?_
  rw[wn (Lib.itoa a).length (by omega)]
  exact Ev.bind n1 hl
/-- Both readings answer alike. -/
theorem both_ev (s:ByteArray) (hs:(s.size:Int)≤281474976710656):Ev (fun k=> ententeref03_Parse.f k s) (ipv s):=by
  rcases ipv_sound s with e|⟨a,b,l,hg,hsh,e⟩
  · obtain⟨r,hr,h|⟨a,b,l,hg,hsh,h⟩⟩:=rparse_total s hs
    · rw[e,← h];exact hr
    · rw[ipv_complete s hg hsh]at e
      simp at e
  · rw[e]
    exact rparse_reads s hs hg hsh
end Go.Proofs.YtlaeihdldofkcaaGreatDoor.IN

/- NoteDecodes: for every input the law returns true, and each argument reads behind the call as it read before; the variables that start-up code lays hold what the card ties. No conditions beyond those typed. -/
import Derived.Test.YtlaeihdldofkcaaGreatDoorNtW
import Derived.Test.YtlaeihdldofkcaaGreatDoorNtG
import Derived.Test.YtlaeihdldofkcaaGreatDoorNtSm
import Derived.Test.YtlaeihdldofkcaaGreatDoorPMx11
import Derived.Test.YtlaeihdldofkcaaGreatDoorRows
import Derived.Test.YtlaeihdldofkcaaGreatDoorNtRow
import Derived.Carry
import Derived.WalkKit
import Derived.ProofKit
import Derived.OpenShut
import Derived.ShutString
import Derived.ChangeOld
import Derived.Below
import Derived.SizedLaws
import Derived.Test.YtlaeihdldofkcaaGreatDoorTie
import Derived.Test.YtlaeihdldofkcaaGreatDoorCards
import Derived.Lay
import Derived.LaidOnce
import Derived.SevenTiedAt
namespace Go.Proofs.YtlaeihdldofkcaaGreatDoor.NE
open Go.RowKit Go.Proofs.YtlaeihdldofkcaaGreatDoorW.PrintWords Go.Proofs.YtlaeihdldofkcaaGreatDoor.B Go.Proofs.YtlaeihdldofkcaaGreatDoor.PN Go.Proofs.YtlaeihdldofkcaaGreatDoor.IA Go.Proofs.YtlaeihdldofkcaaGreatDoor.IB Go.Proofs.YtlaeihdldofkcaaGreatDoor.IC Go.Proofs.YtlaeihdldofkcaaGreatDoor.ND Go.Proofs.YtlaeihdldofkcaaGreatDoor.NN
open Go.Proofs.YtlaeihdldofkcaaGreatDoor.NK (numL numL_le textL tnv rtake_ev tnv_of tnv_back txv rttext_ev txv_of txv_back sealL openv ropen_ev open_of open_back textL_len)
open Go.Proofs.YtlaeihdldofkcaaGreatDoor.IS (ba ba_data ba_size ba_app shv_yes showL)
open Go.Proofs.YtlaeihdldofkcaaGreatDoor.IP (show_len ipv ipv_sound ipv_complete)
open Go.Proofs.YtlaeihdldofkcaaGreatDoor.IN (both_ev)
set_option linter.unusedSimpArgs false
set_option linter.unusedVariables false
theorem nums_ev (s:ByteArray) (hs:s.size≤1000000) (many:Nat) (hm:many≤100) (at_:Nat) (hat:at_≤s.size) :
    ∃ r:List Int×Int×Bool,Ev (fun k=> ententeref13_numbers.f k s (at_:Int) (many:Int)) r∧
      ((r=([],0,false)∧¬ ∃ (l:List Nat) (rest:List UInt8),l.length=many∧(∀ x ∈ l,x≤1000000000)∧s.data.toList.drop at_=numsL l++rest) ∨
       (∃ (l:List Nat) (q:Nat),l.length=many∧(∀ x ∈ l,x≤1000000000)∧q≤s.size∧s.data.toList.drop at_=numsL l++s.data.toList.drop q∧r=(l.map (fun n:Nat=> (n:Int)),(q:Int),true))):=
  numbers_loop s hs many hm many 0 at_ [] rfl (Nat.zero_le _) hat rfl
/-- One number's bytes begin a text in one way alone. -/
theorem num_one (s:ByteArray) (at_ n m:Nat) (hn:n≤1000000000) (hm:m≤1000000000) (x y:List UInt8) (h1:s.data.toList.drop at_=numL n++x) (h2:s.data.toList.drop at_=numL m++y):n=m∧x=y:=by
  have a:=tnv_of s at_ n x (by omega) h1
  have b:=tnv_of s at_ m y (by omega) h2
  rw[a]at b
  simp only[Prod.mk.injEq]at b
  have e:n=m:=by omega
  rw[h1,e]at h2
  exact⟨e,List.append_cancel_left h2⟩
theorem num_cut (n m:Nat) (hn:n≤1000000000) (hm:m≤1000000000) (x y:List UInt8) (h:numL n++x=numL m++y):n=m∧x=y:=
  num_one (ba (numL n++x)) 0 n m hn hm x y (by rw[ba_data];rfl) (by rw[ba_data];exact h)
theorem text_cut (t u:ByteArray) (ht:t.size≤1000000) (hu:u.size≤1000000) (x y:List UInt8) (h:textL t++x=textL u++y):t=u∧x=y:=by
  have a:=txv_of (ba (textL t++x)) 0 t x ht (by rw[ba_data];rfl) (Nat.zero_le _)
  have b:=txv_of (ba (textL t++x)) 0 u y hu (by rw[ba_data];exact h) (Nat.zero_le _)
  rw[a]at b
  simp only[Prod.mk.injEq]at b
  have e:t=u:=b.1
  rw[e]at h
  exact⟨e,List.append_cancel_left h⟩
theorem six_of (l:List Nat) (h:l.length=6):∃ a b c d e f,l=[a,b,c,d,e,f]:=by
  match l,h with
  |[a,b,c,d,e,f],_=> exact⟨a,b,c,d,e,f,rfl⟩
theorem one_of (l:List Nat) (h:l.length=1):∃ a,l=[a]:=by
  match l,h with
  |[a],_=> exact⟨a,rfl⟩
theorem j3_no (x:Fr):Ev (fun k=> ententeref13_Decode.j3 k true x.f x.t x.e x.q x.ae x.ak x.a0 x.a1 x.a2 x.l x.s x.a5) (note_Decode.zero 130):=by
  refine Ev.step (fun k=> by rw[ententeref13_Decode.j3]) ?_
  exact ev_pos rfl (Ev.some rfl)
theorem j2_yes (s:ByteArray) (x:Fr) (h:isw s x):Ev (fun k=> ententeref13_Decode.j2 k s x.f x.t x.e x.q x.ae x.ak x.a0 x.a1 x.a2 x.l x.s x.a5) (tup x 0):=by
  refine Ev.step (fun k=> by rw[ententeref13_Decode.j2]) (Ev.bind (rencode_ev x) ?_)
  obtain⟨ho,rfl⟩:=h
  rw[enc_yes ho]
  refine ev_pos rfl ?_
  have e:((wire x).toList !=(wire x).toList)=false:=by simp
  rw[show((wire x,(0:Int)).1.toList !=(wire x).toList)=false from e]
  refine Ev.step (fun k=> by rw[ententeref13_Decode.j3]) ?_
  exact ev_neg (by decide) (Ev.some rfl)
theorem j2_no (s:ByteArray) (x:Fr) (h:¬ isw s x):Ev (fun k=> ententeref13_Decode.j2 k s x.f x.t x.e x.q x.ae x.ak x.a0 x.a1 x.a2 x.l x.s x.a5) (note_Decode.zero 130):=by
  refine Ev.step (fun k=> by rw[ententeref13_Decode.j2]) (Ev.bind (rencode_ev x) ?_)
  by_cases ho:ok x
  case neg=>
    rw[enc_no ho]
    exact ev_neg (by decide) (j3_no x)
  rw[enc_yes ho]
  refine ev_pos rfl ?_
  have e:((wire x).toList !=s.toList)=true:=by
    rw[bne_iff_ne]
    intro e
    apply h
    refine⟨ho,str_ext ?_⟩
    rw[← ByteArray.toList_eq,← ByteArray.toList_eq]
    exact e.symm
  rw[show((wire x,(0:Int)).1.toList !=s.toList)=true from e]
  exact j3_no x
/-- The first six numbers of a frame's body. -/
theorem body_six (y:Fr) (hy:ok y) (n1 n2 n3 n4 n5 n6:Nat) (hl:∀ x ∈ [n1,n2,n3,n4,n5,n6],x≤1000000000) (rest:List UInt8) (h:bodyL y=numsL [n1,n2,n3,n4,n5,n6]++rest) :
    (n1=y.f.toNat∧n2=y.t.toNat∧n3=y.e.toNat∧n4=y.q.toNat∧n5=y.ae.toNat∧n6=y.ak.toNat)∧(if y.q=0 then[]else noteL y)=rest:=by
  obtain⟨k1,k2,k3,k4,k5,k6⟩:=ok_num hy
  simp only[List.mem_cons,List.not_mem_nil,or_false,forall_eq_or_imp,forall_eq]at hl
  obtain⟨m1,m2,m3,m4,m5,m6⟩:=hl
  unfold bodyL numsL at h
  simp only[List.flatMap_cons,List.flatMap_nil,List.append_nil,List.append_assoc]at h
  obtain⟨e1,h⟩:=num_cut _ _ (by omega) m1 _ _ h
  obtain⟨e2,h⟩:=num_cut _ _ (by omega) m2 _ _ h
  obtain⟨e3,h⟩:=num_cut _ _ (by omega) m3 _ _ h
  obtain⟨e4,h⟩:=num_cut _ _ (by omega) m4 _ _ h
  obtain⟨e5,h⟩:=num_cut _ _ (by omega) m5 _ _ h
  obtain⟨e6,h⟩:=num_cut _ _ (by omega) m6 _ _ h
  exact⟨⟨e1.symm,e2.symm,e3.symm,e4.symm,e5.symm,e6.symm⟩,h⟩
theorem rdecode_ev (s:ByteArray) (hs:s.size≤1000000):∃ d,Ev (fun k=> ententeref13_Decode.f k s) d∧((∃ x,isw s x∧d=tup x 0) ∨ ((¬ ∃ x,isw s x)∧why s≠0∧d=note_Decode.zero (why s))):=by
  have ho:=ropen_ev s hs 1 (by decide)
  rcases hr:openv s 1 with⟨b,tq,e⟩
  rw[hr]at ho
  by_cases he:e=0
  case neg=>
    have hw:why s=e:=by unfold why;rw[hr];exact if_neg he
    refine⟨note_Decode.zero e,by unfold ententeref13_Decode.f;exact Ev.bind ho (ev_neg he (Ev.some rfl)),.inr ⟨?_,by rw[hw];exact he,by rw[hw]⟩⟩
    rintro⟨x,hx,rfl⟩
    rw[open_wire x hx]at hr
    simp only[Prod.mk.injEq]at hr
    exact he hr.2.2.symm
  have hw:why s=130:=by unfold why;rw[hr];exact if_pos he
  obtain⟨hb,qq,rfl,hq1,hq2,hq3⟩:=open_back s 1 (by decide) b tq e hr he
  have hb6:b.size≤1000000:=by omega
  have body_of:∀ y,isw s y→ok y∧b.data.toList=bodyL y:=by
    rintro y ⟨hy,rfl⟩
    rw[open_wire y hy]at hr
    simp only[Prod.mk.injEq]at hr
    exact⟨hy,by rw[← hr.1,ba_data]⟩
  have bad_of (hno:¬ ∃ y,isw s y):(∃ y,isw s y∧note_Decode.zero 130=tup y 0) ∨ ((¬ ∃ y,isw s y)∧why s≠0∧note_Decode.zero 130=note_Decode.zero (why s)):=.inr ⟨hno,by rw[hw];decide,by rw[hw]⟩
  -- the end: a frame is there, and laid again
  have fin_of (x:Fr) (hx:∀ y,isw s y→y=x):∃ d,Ev (fun k=> ententeref13_Decode.j2 k s x.f x.t x.e x.q x.ae x.ak x.a0 x.a1 x.a2 x.l x.s x.a5) d∧((∃ x,isw s x∧d=tup x 0) ∨ ((¬ ∃ x,isw s x)∧why s≠0∧d=note_Decode.zero (why s))):=by
    by_cases h:isw s x
    · exact⟨_,j2_yes s x h,.inl ⟨x,h,rfl⟩⟩
    · exact⟨_,j2_no s x h,bad_of (fun⟨y,hy⟩=> h (hx y hy▸hy))⟩
  clear hq3
  obtain⟨r6,E6,⟨rfl,hno⟩|⟨l,q6,hl6,hle,hq6,hd6,rfl⟩⟩:=nums_ev b hb6 6 (by decide) 0 (Nat.zero_le _)
  · refine⟨note_Decode.zero 130,by unfold ententeref13_Decode.f;exact Ev.bind ho (ev_pos he (Ev.bind E6 (ev_neg (by decide) (Ev.some rfl)))),bad_of ?_⟩
    rintro⟨y,hy⟩
    obtain⟨hy,hby⟩:=body_of y hy
    obtain⟨k1,k2,k3,k4,k5,k6⟩:=ok_num hy
    refine hno ⟨[y.f.toNat,y.t.toNat,y.e.toNat,y.q.toNat,y.ae.toNat,y.ak.toNat],(if y.q=0 then[]else noteL y),rfl,?_,?_⟩
    · simp only[List.mem_cons,List.not_mem_nil,or_false,forall_eq_or_imp,forall_eq]
      omega
    · rw[List.drop_zero,hby]
      unfold bodyL numsL
      simp only[List.flatMap_cons,List.flatMap_nil,List.append_nil,List.append_assoc]
  obtain⟨n1,n2,n3,n4,n5,n6,rfl⟩:=six_of l hl6
  rw[List.drop_zero]at hd6
  have six:∀ y,isw s y→ok y∧((n1:Int)=y.f∧(n2:Int)=y.t∧(n3:Int)=y.e∧(n4:Int)=y.q∧(n5:Int)=y.ae∧(n6:Int)=y.ak)∧(if y.q=0 then[]else noteL y)=b.data.toList.drop q6:=by
    intro y hy
    obtain⟨hy,hby⟩:=body_of y hy
    obtain⟨k1,k2,k3,k4,k5,k6⟩:=ok_num hy
    obtain⟨⟨e1,e2,e3,e4,e5,e6⟩,h⟩:=body_six y hy n1 n2 n3 n4 n5 n6 hle _ (by rw[← hby];exact hd6)
    exact⟨hy,⟨by omega,by omega,by omega,by omega,by omega,by omega⟩,h⟩
  have start:∀ (d:Int×Int×Int×Int×Int×Int×Int×Int×Int×List S46×ByteArray×Int×Int),Ev (fun k=> if(n4:Int)=0 then(ententeref13_Decode.j2 k s n1 n2 n3 n4 n5 n6 0 0 0 ([]:List S46) (⟨#[]⟩:ByteArray) 0)else((ententeref13_numbers.f k b (q6:Int) 1).bind fun bt460=> ((ententeref01_TakeText.f k b bt460.2.1).bind fun bt465=> (if bt460.2.2=true then(ententeref13_Decode.j0 k s b bt460.1 bt465.1 bt465.2.1 (bt465.2.2 !=0) n1 n2 n3 n4 n5 n6 0 0 0 (⟨#[]⟩:ByteArray) 0)else(ententeref13_Decode.j0 k s b bt460.1 bt465.1 bt465.2.1 true n1 n2 n3 n4 n5 n6 0 0 0 (⟨#[]⟩:ByteArray) 0))))) d→Ev (fun k=> ententeref13_Decode.f k s) d:=by
    intro d h
    unfold ententeref13_Decode.f
    refine Ev.bind ho (ev_pos he (Ev.bind E6 (ev_pos rfl ?_)))
    exact ev_pos (show(0:Int)< 6 by decide) (ev_pos (show(1:Int)< 6 by decide) (ev_pos (show(2:Int)< 6 by decide) (ev_pos (show(3:Int)< 6 by decide) (ev_pos (show(4:Int)< 6 by decide) (ev_pos (show(5:Int)< 6 by decide) h)))))
  by_cases hq:n4=0
  · obtain⟨d,hd,hd2⟩:=fin_of ⟨n1,n2,n3,n4,n5,n6,0,0,0,[],⟨#[]⟩,0⟩ (by
      intro y hy
      obtain⟨hy,⟨e1,e2,e3,e4,e5,e6⟩,h⟩:=six y hy
      obtain⟨z0,z1,z2,z3,z4,z5⟩:=ok_0 hy (by omega)
      refine fr_ext e1.symm e2.symm e3.symm e4.symm e5.symm e6.symm z0 z1 z2 (List.length_eq_zero_iff.1 z3) ?_ z5
      apply str_ext
      have:=(empty_iff y.s).2 z4
      rw[ByteArray.toList_eq]at this
      exact this)
    exact⟨d,start d (ev_pos (by omega) hd),hd2⟩
  have hq':¬ (n4:Int)=0:=by omega
  have six':∀ y,isw s y→ok y∧((n1:Int)=y.f∧(n2:Int)=y.t∧(n3:Int)=y.e∧(n4:Int)=y.q∧(n5:Int)=y.ae∧(n6:Int)=y.ak)∧okN y.a0 y.a1 y.a2 y.l y.s y.a5∧noteL y=b.data.toList.drop q6:=by
    intro y hy
    obtain⟨hy,e6,h⟩:=six y hy
    have hq0:y.q≠0:=by omega
    rw[if_neg hq0]at h
    exact⟨hy,e6,ok_N hy hq0,h⟩
  clear six
  have no0 (x11:List Int) (x14:ByteArray) (x15:Int):Ev (fun k=> ententeref13_Decode.j0 k s b x11 x14 x15 true n1 n2 n3 n4 n5 n6 0 0 0 (⟨#[]⟩:ByteArray) 0) (note_Decode.zero 130):=by
    refine Ev.step (fun k=> by rw[ententeref13_Decode.j0]) ?_
    exact ev_pos rfl (Ev.some rfl)
  obtain⟨r7,E7,⟨rfl,hno⟩|⟨l7,q7,hl7,hle7,hq7,hd7,rfl⟩⟩:=nums_ev b hb6 1 (by decide) q6 hq6
  · refine⟨note_Decode.zero 130,start _ (ev_neg hq' (Ev.bind E7 (Ev.bind (rttext_ev b hb6 0 (Nat.zero_le _)) (ev_neg (by decide) (no0 _ _ _))))),bad_of ?_⟩
    rintro⟨y,hy⟩
    obtain⟨hy,_,hn,h⟩:=six' y hy
    have k1:=hn.1
    have k2:=hn.2.1
    refine hno ⟨[y.a0.toNat],textL (ba (showL y.a1 y.a2 y.l))++(textL y.s++(numL y.a5.toNat++[])),rfl,?_,?_⟩
    · simp only[List.mem_cons,List.not_mem_nil,or_false,forall_eq]
      omega
    · rw[← h]
      unfold noteL numsL
      simp only[List.flatMap_cons,List.flatMap_nil,List.append_nil,List.append_assoc]
  obtain⟨n7,rfl⟩:=one_of l7 hl7
  have hn7:n7≤1000000000:=hle7 n7 (List.mem_cons_self ..)
  have d7:b.data.toList.drop q6=numL n7++b.data.toList.drop q7:=by
    rw[hd7]
    unfold numsL
    simp only[List.flatMap_cons,List.flatMap_nil,List.append_nil]
  clear hd7 hle7 hl7
  have E8:=rttext_ev b hb6 q7 hq7
  rcases ht8:txv b q7 with⟨t8,tq8,x8⟩
  rw[ht8]at E8
  have seven:∀ y,isw s y→ok y∧((n1:Int)=y.f∧(n2:Int)=y.t∧(n3:Int)=y.e∧(n4:Int)=y.q∧(n5:Int)=y.ae∧(n6:Int)=y.ak)∧okN y.a0 y.a1 y.a2 y.l y.s y.a5∧(n7:Int)=y.a0∧b.data.toList.drop q7=textL (ba (showL y.a1 y.a2 y.l))++(textL y.s++(numL y.a5.toNat++[])):=by
    intro y hy
    obtain⟨hy,e6,hn,h⟩:=six' y hy
    have k1:=hn.1
    have k2:=hn.2.1
    rw[d7]at h
    unfold noteL at h
    obtain⟨e7,h⟩:=num_cut _ _ (by omega) hn7 _ _ h
    exact⟨hy,e6,hn,by omega,h.symm⟩
  clear six'
  by_cases h8:x8=0
  case neg=>
    refine⟨note_Decode.zero 130,start _ (ev_neg hq' (Ev.bind E7 (Ev.bind E8 (ev_pos rfl ?_)))),bad_of ?_⟩
    · show Ev (fun k=> ententeref13_Decode.j0 k s b _ t8 tq8 (x8 !=0) n1 n2 n3 n4 n5 n6 0 0 0 (⟨#[]⟩:ByteArray) 0) _
      rw[show(x8 !=0)=true by rw[bne_iff_ne];exact h8]
      exact no0 _ _ _
    · rintro⟨y,hy⟩
      obtain⟨hy,_,hn,_,h⟩:=seven y hy
      have:=txv_of b q7 _ _ (by have:=show_len hn.2.2.1;have:=ba_size (showL y.a1 y.a2 y.l);omega) h hq7
      rw[ht8]at this
      simp only[Prod.mk.injEq]at this
      exact h8 this.2.2
  obtain⟨q8,rfl,g1,g2,g3,g4⟩:=txv_back b q7 t8 tq8 x8 ht8 h8
  have E9:=rttext_ev b hb6 q8 g2
  rcases ht9:txv b q8 with⟨t9,tq9,x9⟩
  rw[ht9]at E9
  rcases hp:ipv t8 with⟨ia,ib,il,ie⟩
  have hts:t8.size≤1000000:=by
    have:=congrArg List.length g3
    rw[List.length_append]at this
    have e1:(b.data.toList.drop q7).length≤b.size:=by rw[List.length_drop,← size_eq_length];omega
    have e2:t8.size≤(textL t8).length:=by unfold textL;rw[List.length_append,← size_eq_length];omega
    omega
  have EP:=both_ev t8 (by omega)
  rw[hp]at EP
  have eight:∀ y,isw s y→ok y∧((n1:Int)=y.f∧(n2:Int)=y.t∧(n3:Int)=y.e∧(n4:Int)=y.q∧(n5:Int)=y.ae∧(n6:Int)=y.ak)∧okN y.a0 y.a1 y.a2 y.l y.s y.a5∧(n7:Int)=y.a0∧(ia=y.a1∧ib=y.a2∧il=y.l∧ie=0)∧b.data.toList.drop q8=textL y.s++(numL y.a5.toNat++[]):=by
    intro y hy
    obtain⟨hy,e6,hn,e7,h⟩:=seven y hy
    have hsl:=show_len hn.2.2.1
    have hbs:=ba_size (showL y.a1 y.a2 y.l)
    rw[g3]at h
    obtain⟨e8,h⟩:=text_cut _ _ hts (by omega) _ _ h
    have hpc:=ipv_complete t8 hn.2.2.1 (by rw[e8,ba_data])
    rw[hp]at hpc
    simp only[Prod.mk.injEq]at hpc
    exact⟨hy,e6,hn,e7,hpc,h⟩
  clear seven
  have no1 (x11:List Int) (x19:ByteArray) (x20:Int):Ev (fun k=> ententeref13_Decode.j1 k s b x11 x19 x20 true n1 n2 n3 n4 n5 n6 0 0 0 (⟨#[]⟩:ByteArray) 0 ia ib il) (note_Decode.zero 130):=by
    refine Ev.step (fun k=> by rw[ententeref13_Decode.j1]) ?_
    exact ev_pos rfl (Ev.some rfl)
  have start2:∀ d,Ev (fun k=> if ie=0 then ententeref13_Decode.j1 k s b [(n7:Int)] t9 tq9 (x9 !=0) n1 n2 n3 n4 n5 n6 0 0 0 (⟨#[]⟩:ByteArray) 0 ia ib il else ententeref13_Decode.j1 k s b [(n7:Int)] t9 tq9 true n1 n2 n3 n4 n5 n6 0 0 0 (⟨#[]⟩:ByteArray) 0 ia ib il) d→
      Ev (fun k=> ententeref13_Decode.f k s) d:=by
    intro d h
    refine start _ (ev_neg hq' (Ev.bind E7 (Ev.bind E8 (ev_pos rfl ?_))))
    show Ev (fun k=> ententeref13_Decode.j0 k s b [(n7:Int)] t8 (q8:Int) (x8 !=0) n1 n2 n3 n4 n5 n6 0 0 0 (⟨#[]⟩:ByteArray) 0) _
    rw[show(x8 !=0)=false by rw[h8];rfl]
    exact Ev.step (fun k=> by rw[ententeref13_Decode.j0]) (ev_neg (by decide) (Ev.bind EP (Ev.bind E9 h)))
  clear start
  by_cases hie:ie=0
  case neg=>
    refine⟨note_Decode.zero 130,start2 _ (ev_neg hie (no1 _ _ _)),bad_of ?_⟩
    rintro⟨y,hy⟩
    obtain⟨_,_,_,_,h,_⟩:=eight y hy
    exact hie h.2.2.2
  by_cases h9:x9=0
  case neg=>
    refine⟨note_Decode.zero 130,start2 _ (ev_pos hie ?_),bad_of ?_⟩
    · rw[show(x9 !=0)=true by rw[bne_iff_ne];exact h9]
      exact no1 _ _ _
    · rintro⟨y,hy⟩
      obtain⟨hy,_,hn,_,_,h⟩:=eight y hy
      have:=txv_of b q8 _ _ (by have:=okN_size hn;omega) h g2
      rw[ht9]at this
      simp only[Prod.mk.injEq]at this
      exact h9 this.2.2
  obtain⟨q9,rfl,f1,f2,f3,f4⟩:=txv_back b q8 t9 tq9 x9 ht9 h9
  have hts9:t9.size≤1000000:=by
    have:=congrArg List.length f3
    rw[List.length_append]at this
    have e1:(b.data.toList.drop q8).length≤b.size:=by rw[List.length_drop,← size_eq_length];omega
    have e2:t9.size≤(textL t9).length:=by unfold textL;rw[List.length_append,← size_eq_length];omega
    omega
  have nine:∀ y,isw s y→ok y∧((n1:Int)=y.f∧(n2:Int)=y.t∧(n3:Int)=y.e∧(n4:Int)=y.q∧(n5:Int)=y.ae∧(n6:Int)=y.ak)∧okN y.a0 y.a1 y.a2 y.l y.s y.a5∧(n7:Int)=y.a0∧(ia=y.a1∧ib=y.a2∧il=y.l∧ie=0)∧t9=y.s∧b.data.toList.drop q9=numL y.a5.toNat++[]:=by
    intro y hy
    obtain⟨hy,e6,hn,e7,e8,h⟩:=eight y hy
    have hz:=okN_size hn
    rw[f3]at h
    obtain⟨e9,h⟩:=text_cut _ _ hts9 (by omega) _ _ h
    exact⟨hy,e6,hn,e7,e8,e9,h⟩
  clear eight
  have start3:∀ d,Ev (fun k=> (ententeref13_numbers.f k b (q9:Int) 1).bind fun bt478=> (if bt478.2.2=true then(if 0< (([(n7:Int)]:List Int).length:Int)then(if 0< (bt478.1.length:Int)then(ententeref13_Decode.j2 k s n1 n2 n3 n4 n5 n6 (rd [(n7:Int)] 0) ia ib il t9 (rd bt478.1 0))else(none))else(none))else(some (note_Decode.zero 130)))) d→Ev (fun k=> if ie=0 then ententeref13_Decode.j1 k s b [(n7:Int)] t9 (q9:Int) (x9 !=0) n1 n2 n3 n4 n5 n6 0 0 0 (⟨#[]⟩:ByteArray) 0 ia ib il else ententeref13_Decode.j1 k s b [(n7:Int)] t9 (q9:Int) true n1 n2 n3 n4 n5 n6 0 0 0 (⟨#[]⟩:ByteArray) 0 ia ib il) d:=by
    intro d h
    refine ev_pos hie ?_
    rw[show(x9 !=0)=false by rw[h9];rfl]
    refine Ev.step (fun k=> by rw[ententeref13_Decode.j1]) ?_
    exact ev_neg (by decide) h
  obtain⟨r10,E10,⟨rfl,hno⟩|⟨l10,q10,hl10,hle10,hq10,hd10,rfl⟩⟩:=nums_ev b hb6 1 (by decide) q9 f2
  · refine⟨note_Decode.zero 130,start2 _ (start3 _ (Ev.bind E10 (ev_neg (by decide) (Ev.some rfl)))),bad_of ?_⟩
    rintro⟨y,hy⟩
    obtain⟨hy,_,hn,_,_,_,h⟩:=nine y hy
    have hw:=okN_why hn
    refine hno ⟨[y.a5.toNat],[],rfl,?_,?_⟩
    · simp only[List.mem_cons,List.not_mem_nil,or_false,forall_eq]
      omega
    · rw[h]
      unfold numsL
      simp only[List.flatMap_cons,List.flatMap_nil,List.append_nil]
  obtain⟨n10,rfl⟩:=one_of l10 hl10
  have hn10:n10≤1000000000:=hle10 n10 (List.mem_cons_self ..)
  have d10:b.data.toList.drop q9=numL n10++b.data.toList.drop q10:=by
    rw[hd10]
    unfold numsL
    simp only[List.flatMap_cons,List.flatMap_nil,List.append_nil]
  obtain⟨d,hd,hd2⟩:=fin_of ⟨n1,n2,n3,n4,n5,n6,n7,ia,ib,il,t9,n10⟩ (by
    intro y hy
    obtain⟨hy,⟨e1,e2,e3,e4,e5,e6⟩,hn,e7,⟨p1,p2,p3,_⟩,e9,h⟩:=nine y hy
    have hw:=okN_why hn
    rw[d10]at h
    obtain⟨e10,_⟩:=num_cut _ _ hn10 (by omega) _ _ h
    exact fr_ext e1.symm e2.symm e3.symm e4.symm e5.symm e6.symm e7.symm p1.symm p2.symm p3.symm e9.symm (show y.a5=(n10:Int)by omega))
  exact⟨d,start2 _ (start3 _ (Ev.bind E10 (ev_pos rfl (ev_pos (show(0:Int)< 1 by decide) (ev_pos (show(0:Int)< 1 by decide) hd))))),hd2⟩
end Go.Proofs.YtlaeihdldofkcaaGreatDoor.NE
namespace Go.Proofs.YtlaeihdldofkcaaGreatDoor.Pure
open Go.RowKit Go.Proofs.YtlaeihdldofkcaaGreatDoorW.PrintWords Go.Proofs.YtlaeihdldofkcaaGreatDoor.B Go.Proofs.YtlaeihdldofkcaaGreatDoor.PN Go.Proofs.YtlaeihdldofkcaaGreatDoor.ND Go.Proofs.YtlaeihdldofkcaaGreatDoor.NE Go.Proofs.YtlaeihdldofkcaaGreatDoor.NG
set_option linter.unusedSimpArgs false
set_option linter.unusedVariables false
theorem NoteDecodes (s:ByteArray):∃ k,ententelaw13_NoteDecodes.f k s=some true:=by
  have key:Ev (fun k=> ententelaw13_NoteDecodes.f k s) true:=by
    unfold ententelaw13_NoteDecodes.f
    by_cases hs:(s.size:Int)> 40000
    · exact ev_pos hs (Ev.bind awake_ev (Ev.some rfl))
    obtain⟨d,hd,h⟩:=decode_ev s (by omega)
    obtain⟨d',hd',h'⟩:=rdecode_ev s (by omega)
    refine ev_neg hs (Ev.bind hd (Ev.bind hd' ?_))
    rcases h with⟨x,⟨hx,rfl⟩,rfl⟩|⟨hno,hw,rfl⟩
    · rcases h' with⟨y,⟨hy,e⟩,rfl⟩|⟨hno,_,_⟩
      case inr=> exact absurd ⟨x,hx,rfl⟩ hno
      obtain rfl:=wire_inj hx hy e
      have hl:x.l.length≤10000:=by
        by_cases hq:x.q=0
        · have:=ok_0 hx hq;unfold emptyN at this;omega
        · have:=Go.Proofs.YtlaeihdldofkcaaGreatDoor.IC.good_len (ok_N hx hq).2.2.1;omega
      exact Ev.bind (frame_same x.f x.t x.e x.q x.ae x.ak x.a0 x.a1 x.a2 x.l x.s x.a5 hl) (ev_pos rfl (ev_pos rfl (Ev.bind awake_ev (Ev.some rfl))))
    · rcases h' with⟨y,hy,_⟩|⟨_,_,rfl⟩
      · exact absurd ⟨y,hy⟩ hno
      exact Ev.bind (frame_same 0 0 0 0 0 0 0 0 0 [] ⟨#[]⟩ 0 (by decide)) (ev_pos rfl (ev_pos rfl (Ev.bind awake_ev (Ev.some rfl))))
  obtain⟨k,hk⟩:=key
  exact⟨k,hk k (Nat.le_refl _)⟩
end Go.Proofs.YtlaeihdldofkcaaGreatDoor.Pure
namespace Go.Proofs.YtlaeihdldofkcaaGreatDoor.noteDecodes
open Go.ChangeShapes Go.WideShapes Go.ChangeAt Go.RowKit
open Go.ChangeMaps (open_string shut_string)
set_option linter.unusedVariables false
theorem own:ownKnob Tryz.prog.godebug=none:=by kernel_rfl
set_option maxRecDepth 100000 in
theorem lifted (os:Os) (started:os.Started) (H:Type) (enc:TypeId×Value→H) :
    ReturnsInHanded {} Tryz.checked os 4 .any (fun w args=> (Rows.noteDecodesSpec.pre enc Tryz.prog Tryz.f4 [] false w args∧laidMetH Tryz.prog Rows.noteDecodesRow.laid w)∧sizedMet enc Tryz.prog Tryz.f4 (OpenSpec.ofChange Rows.noteDecodesSpec) false w args) (Rows.noteDecodesSpec.post enc Tryz.prog Tryz.f4 false true false false):=by
  refine IR.wrap (C:=Tryz.checked) (X:=fun w _=> laidMetH Tryz.prog Rows.noteDecodesRow.laid w) (fun _ _ _ hh h=> h.of_heap hh) own started (by kernel_rfl) Tryz.func4
    (ChangeSpec.witness_shaped (enc:=enc) (C:=Tryz.checked) (os:=os) (X:=fun w _=> laidMetH Tryz.prog Rows.noteDecodesRow.laid w) false (World.laidAll Tryz.prog os Rows.noteDecodesRow.laid) #[.string ByteArray.empty] 8 (World.laidAll_os _ _ _)
      (World.shaped_of_ZipB (by kernel_rfl) (by kernel_rfl)) (by kernel_rfl) (by kernel_rfl) (by kernel_rfl)
      (by rw[MakeChecks.laidMetH_plain _ _ _ (by kernel_rfl)];exact laidMet_laidAll _ (by kernel_rfl) (by kernel_rfl))) ?_
  intro W base args ds gs before hval0 hW hsz0 hL hsh
  have hsz:(DataW.weightsEach Tryz.prog (Tryz.f4.params.toList++Rows.noteDecodesSpec.plain.varTypes Tryz.prog) (ds++gs)).all (·≤reachBytes)=true:=hsz0
  have hval:∀ (j:Nat) t v,Tryz.f4.params[j]?=some t→args[j]?=some v→Value.okWide Tryz.prog W .any base t v:=hval0
  have hW':=hW
  obtain⟨p,q,hA0,hV,rfl,hfz,hnd⟩:=hW
  have hA:DataW.TrodAll enc Tryz.prog W 0 (fun _=> true) true Tryz.f4.params.toList args.toList ds p:=hA0
  rw[Tryz.params4]at hA hval hsz
  obtain⟨v0,vs0,d0,ds0,p0,q0,hargs0,rfl,rfl,h0,r0⟩:=trodAll_cons hA
  obtain⟨rfl,rfl,rfl⟩:=trodAll_nil r0
  obtain rfl:args=#[v0]:=by cases args;simp_all
  obtain⟨rfl,rfl⟩:=trodVars_none hV
  have hv0:=hval 0 9 v0 rfl rfl
  have k0:=h0
  obtain⟨s0,rfl,rfl,rfl,ws0⟩:=open_string Tryz.underlying9 hv0 h0
  clear hA0 hval0 hsz0 hsz
  have hWH:=IR.wh hsh hL
  obtain⟨k,hk⟩:=Pure.NoteDecodes s0
  refine(PN.ententelaw13_NoteDecodes.calls k s0 true W  hWH hk).mono fun e W' ⟨he,bel⟩=> ?_
  subst he
  have B0_:=Below.trod IR.laidOut (t:=9) (by kernel_rfl) (of_decide_eq_true (by kernel_rfl)) k0 bel (by obtain⟨_,hf⟩:=k0;exact fun x hx=> DataW.trod_lt _ _ _ _ hf x hx)
  exact⟨_,rfl,_,_,_,[],_,[],hW',trodAll_mk1 (shut_bool Tryz.underlying4 _),(trodAll_cons_mk B0_ trodAll_mk0),rfl,bel.frame _,fun h=> by cases h⟩
theorem over:Rows.noteDecodesRow.holds Tryz.pinned (OpenSpec.ofChange Rows.noteDecodesSpec):=
  OpenClaim.holds_of_wide 4 Tryz.f4 rfl rfl rfl rfl rfl rfl rfl ⟨rfl,rfl,rfl,rfl,rfl⟩ rfl rfl rfl rfl rfl (by kernel_rfl) Tryz.func4 (by kernel_rfl)
    (of_decide_eq_true (by kernel_rfl)) (by unfold Func.isWrapper;first|(rw[if_pos (by decide+kernel)];kernel_rfl)|(rw[if_neg (by decide+kernel)];exact⟨rfl,rfl⟩))
    (fun os started H enc _=> lifted os started H enc)
theorem proved:Rows.NoteDecodesCardSaid:=
  Claim7.holds_tied_plain_at .later [] [.data, .data, .data, .data, .sentinel, .sentinel, .pinned] true (true, "4265df6b63e5f7b1ae0e29c698699d51f6ae9f34ffec89417b212600a8ae8e63") true over (fun _ h => by cases h) (by kernel_rfl) (fun _ h => by cases h) noteDecodes_row_tie rfl ⟨rfl, rfl⟩ (by kernel_rfl) rfl
    (fun f fn hf hfn=> by
      obtain rfl : f = 4 := Option.some.inj ((show Tryz.prog.funcNamed "entente/ententelaw13.NoteDecodes" = some 4 by kernel_rfl).symm.trans hf) |>.symm
      obtain rfl:fn=Tryz.f4:=(Option.some.inj (Tryz.func4.symm.trans hfn)).symm
      exact⟨by kernel_rfl,fun j t ht=> by
        rw[Tryz.params4]at ht
        have hm:=Array.mem_of_getElem? ht
        have hall:(Tryz.f4.params.toList.all fun u=> !Tryz.prog.wantsStandIn u)=true:=by kernel_rfl
        rw[Tryz.params4]at hall
        exact(show Tryz.prog.wantsStandIn t=false by simpa using List.all_eq_true.1 hall t (by simpa using hm))⟩)
    (by kernel_rfl)
#print axioms proved
end Go.Proofs.YtlaeihdldofkcaaGreatDoor.noteDecodes
namespace Go.Proofs.YtlaeihdldofkcaaGreatDoor
/-- The row, under a short name, for the claim. -/
theorem noteDecodes_holds:Rows.NoteDecodesCardSaid:=noteDecodes.proved
end Go.Proofs.YtlaeihdldofkcaaGreatDoor

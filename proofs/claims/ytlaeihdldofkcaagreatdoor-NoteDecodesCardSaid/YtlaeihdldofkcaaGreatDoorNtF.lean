/- A frame read: the reader, and Decode. -/
import Derived.Test.YtlaeihdldofkcaaGreatDoorNtE
namespace Go.Proofs.YtlaeihdldofkcaaGreatDoor.NE
open Go.RowKit Go.Proofs.YtlaeihdldofkcaaGreatDoorW.PrintWords Go.Proofs.YtlaeihdldofkcaaGreatDoor.B Go.Proofs.YtlaeihdldofkcaaGreatDoor.PN Go.Proofs.YtlaeihdldofkcaaGreatDoor.IA Go.Proofs.YtlaeihdldofkcaaGreatDoor.IB Go.Proofs.YtlaeihdldofkcaaGreatDoor.IC Go.Proofs.YtlaeihdldofkcaaGreatDoor.ND Go.Proofs.YtlaeihdldofkcaaGreatDoor.NN
open Go.Proofs.YtlaeihdldofkcaaGreatDoor.NK (numL numL_le number_ev textL text_ev tnv take_ev tnv_of tnv_back txv ttext_ev txv_of txv_back txv_bad sealL sealv seal_ev openv open_ev open_of open_back textL_len)
open Go.Proofs.YtlaeihdldofkcaaGreatDoor.IS (ba ba_data ba_size ba_app shv_yes showL ishow_ev)
open Go.Proofs.YtlaeihdldofkcaaGreatDoor.IP (show_len ipv iparse_ev ipv_sound ipv_complete)
set_option linter.unusedSimpArgs false
set_option linter.unusedVariables false
theorem cast_back {y:Int} {n:Nat} (h:n=y.toNat) (h0:0≤y):(n:Int)=y:=by omega
theorem fr_ext {x y:Fr} (h1:x.f=y.f) (h2:x.t=y.t) (h3:x.e=y.e) (h4:x.q=y.q) (h5:x.ae=y.ae) (h6:x.ak=y.ak) (h7:x.a0=y.a0) (h8:x.a1=y.a1) (h9:x.a2=y.a2) (h10:x.l=y.l) (h11:x.s=y.s) (h12:x.a5=y.a5):x=y:=by
  cases x;cases y;simp_all
theorem drop_all (s:ByteArray) (q:Nat) (hq:q≤s.size) (h:s.data.toList.drop q=[]):q=s.size:=by
  have:=congrArg List.length h
  rw[List.length_drop,← size_eq_length]at this
  simp at this
  omega
theorem reader_ev (s:ByteArray) (hs:s.size≤1000000):∃ (x:Fr) (q:Nat) (b:Bool),Ev (fun k=> note_reader_frame.f k s 0 false) (x.f,x.t,x.e,x.q,x.ae,x.ak,x.a0,x.a1,x.a2,x.l,x.s,x.a5,s,(q:Int),b)∧q≤s.size∧
    (b=false→x.l.length≤4∧s.data.toList=bodyL x++s.data.toList.drop q)∧(∀ y,ok y→s.data.toList=bodyL y→x=y∧b=false∧q=s.size):=by
  unfold note_reader_frame.f
  obtain⟨n1,q1,b1,E1,g1,m1,B1,F1⟩:=num_step s hs 0 (Nat.zero_le _) false
  obtain⟨n2,q2,b2,E2,g2,m2,B2,F2⟩:=num_step s hs q1 g1 b1
  obtain⟨n3,q3,b3,E3,g3,m3,B3,F3⟩:=num_step s hs q2 g2 b2
  obtain⟨n4,q4,b4,E4,g4,m4,B4,F4⟩:=num_step s hs q3 g3 b3
  obtain⟨n5,q5,b5,E5,g5,m5,B5,F5⟩:=num_step s hs q4 g4 b4
  obtain⟨n6,q6,b6,E6,g6,m6,B6,F6⟩:=num_step s hs q5 g5 b5
  have B:b6=false→s.data.toList=numL n1++(numL n2++(numL n3++(numL n4++(numL n5++(numL n6++s.data.toList.drop q6))))):=by
    intro h
    obtain⟨h,r6⟩:=B6 h
    obtain⟨h,r5⟩:=B5 h
    obtain⟨h,r4⟩:=B4 h
    obtain⟨h,r3⟩:=B3 h
    obtain⟨h,r2⟩:=B2 h
    obtain⟨h,r1⟩:=B1 h
    rw[← r6,← r5,← r4,← r3,← r2,← r1,List.drop_zero]
  have F:∀ y,ok y→s.data.toList=bodyL y→((n1:Int)=y.f∧(n2:Int)=y.t∧(n3:Int)=y.e∧(n4:Int)=y.q∧(n5:Int)=y.ae∧(n6:Int)=y.ak)∧b6=false∧s.data.toList.drop q6=(if y.q=0 then[]else noteL y):=by
    intro y hy h
    obtain⟨k1,k2,k3,k4,k5,k6⟩:=ok_num hy
    unfold bodyL at h
    obtain⟨e1,c1,h⟩:=F1 _ _ rfl (by omega) h
    obtain⟨e2,c2,h⟩:=F2 _ _ c1 (by omega) h
    obtain⟨e3,c3,h⟩:=F3 _ _ c2 (by omega) h
    obtain⟨e4,c4,h⟩:=F4 _ _ c3 (by omega) h
    obtain⟨e5,c5,h⟩:=F5 _ _ c4 (by omega) h
    obtain⟨e6,c6,h⟩:=F6 _ _ c5 (by omega) h
    exact⟨⟨by omega,by omega,by omega,by omega,by omega,by omega⟩,c6,h⟩
  clear B1 B2 B3 B4 B5 B6 F1 F2 F3 F4 F5 F6
  by_cases hq:n4=0
  · refine⟨⟨n1,n2,n3,n4,n5,n6,0,0,0,[],⟨#[]⟩,0⟩,q6,b6,Ev.bind E1 (Ev.bind E2 (Ev.bind E3 (Ev.bind E4 (Ev.bind E5 (Ev.bind E6 (ev_neg (show ¬ (n4:Int)> 0 by omega) (Ev.some rfl))))))),g6,(fun h=> ⟨Nat.zero_le _,?_⟩),?_⟩
    · unfold bodyL
      simp only[Int.toNat_natCast,List.append_assoc]
      rw[if_pos (by omega),List.nil_append]
      exact B h
    · intro y hy h
      obtain⟨⟨e1,e2,e3,e4,e5,e6⟩,c,hd⟩:=F y hy h
      have hq0:y.q=0:=by omega
      obtain⟨z0,z1,z2,z3,z4,z5⟩:=ok_0 hy hq0
      rw[if_pos hq0]at hd
      refine⟨fr_ext e1 e2 e3 e4 e5 e6 z0.symm z1.symm z2.symm (List.length_eq_zero_iff.1 z3).symm ?_ z5.symm,c,drop_all s q6 g6 hd⟩
      apply str_ext
      have:=(empty_iff y.s).2 z4
      rw[ByteArray.toList_eq]at this
      exact this.symm
  · obtain⟨n7,q7,b7,E7,g7,m7,B7,F7⟩:=num_step s hs q6 g6 b6
    obtain⟨t8,q8,b8,E8,g8,B8,F8⟩:=text_step s hs q7 g7 b7
    rcases hp:ipv t8 with⟨ia,ib,il,ie⟩
    have EP:=iparse_ev t8
    rw[hp]at EP
    have hb:∃ bb:Bool,bb=(if b8=true then true else(ie !=0)):=⟨_,rfl⟩
    obtain⟨bb,hbb⟩:=hb
    obtain⟨t9,q9,b9,E9,g9,B9,F9⟩:=text_step s hs q8 g8 bb
    obtain⟨n10,q10,b10,E10,g10,m10,B10,F10⟩:=num_step s hs q9 g9 b9
    have EJ:Ev (fun k=> note_reader_frame.j0 k s (q8:Int) bb (n1:Int) (n2:Int) (n3:Int) (n4:Int) (n5:Int) (n6:Int) (n7:Int) 0 0 (⟨#[]⟩:ByteArray) 0 ia ib il) ((n1:Int),(n2:Int),(n3:Int),(n4:Int),(n5:Int),(n6:Int),(n7:Int),ia,ib,il,t9,(n10:Int),s,(q10:Int),b10):=by
      refine Ev.step (fun k=> by rw[note_reader_frame.j0]) ?_
      exact Ev.bind E9 (Ev.bind E10 (Ev.some rfl))
    have bbf:bb=false→b8=false∧ie=0:=by
      intro h
      rw[h]at hbb
      cases b8
      · exact⟨rfl,by simpa using hbb.symm⟩
      · simp at hbb
    have EQ:Ev (fun k=> if b8=true then note_reader_frame.j0 k s (q8:Int) true (n1:Int) (n2:Int) (n3:Int) (n4:Int) (n5:Int) (n6:Int) (n7:Int) 0 0 (⟨#[]⟩:ByteArray) 0 ia ib il else note_reader_frame.j0 k s (q8:Int) (ie !=0) (n1:Int) (n2:Int) (n3:Int) (n4:Int) (n5:Int) (n6:Int) (n7:Int) 0 0 (⟨#[]⟩:ByteArray) 0 ia ib il) ((n1:Int),(n2:Int),(n3:Int),(n4:Int),(n5:Int),(n6:Int),(n7:Int),ia,ib,il,t9,(n10:Int),s,(q10:Int),b10):=by
      by_cases h8:b8=true
      · rw[if_pos h8]at hbb
        rw[hbb]at EJ
        exact ev_pos h8 EJ
      · rw[if_neg h8]at hbb
        rw[hbb]at EJ
        exact ev_neg h8 EJ
    refine⟨⟨n1,n2,n3,n4,n5,n6,n7,ia,ib,il,t9,n10⟩,q10,b10,Ev.bind E1 (Ev.bind E2 (Ev.bind E3 (Ev.bind E4 (Ev.bind E5 (Ev.bind E6 (ev_pos (show(n4:Int)> 0 by omega) (Ev.bind E7 (Ev.bind E8 (Ev.bind EP EQ))))))))),g10,?_,?_⟩
    · intro h
      obtain⟨h,r10⟩:=B10 h
      obtain⟨h,r9⟩:=B9 h
      obtain⟨h,he⟩:=bbf h
      obtain⟨h,r8⟩:=B8 h
      obtain⟨h,r7⟩:=B7 h
      have r:=B h
      have hsh:good ia ib il=true∧showL ia ib il=t8.data.toList:=by
        rcases ipv_sound t8 with h2|⟨a',b',l',h2,h3,h4⟩
        · rw[hp]at h2
          simp only[Prod.mk.injEq]at h2
          omega
        · rw[hp]at h4
          simp only[Prod.mk.injEq]at h4
          obtain⟨rfl,rfl,rfl,_⟩:=h4
          exact⟨h2,h3⟩
      refine⟨good_len hsh.1,?_⟩
      have et:ba (showL ia ib il)=t8:=str_ext (by rw[ba_data];exact hsh.2)
      unfold bodyL
      simp only[Int.toNat_natCast,List.append_assoc]
      rw[if_neg (by omega)]
      unfold noteL
      simp only[Int.toNat_natCast,List.append_assoc]
      rw[et,List.nil_append,← r10,← r9,← r8,← r7]
      exact r
    · intro y hy h
      obtain⟨⟨e1,e2,e3,e4,e5,e6⟩,c,hd⟩:=F y hy h
      have hq0:y.q≠0:=by omega
      have hn:=ok_N hy hq0
      have hw:=okN_why hn
      have hz:=okN_size hn
      have k1:=hn.1
      have k2:=hn.2.1
      have hg:=hn.2.2.1
      have hsl:=show_len hg
      have hbs:=ba_size (showL y.a1 y.a2 y.l)
      rw[if_neg hq0]at hd
      unfold noteL at hd
      obtain⟨e7,c7,hd⟩:=F7 _ _ c (by omega) hd
      obtain⟨e8,c8,hd⟩:=F8 _ _ c7 (by omega) hd
      have hpc:=ipv_complete t8 hg (by rw[e8,ba_data])
      rw[hp]at hpc
      simp only[Prod.mk.injEq]at hpc
      obtain⟨p1,p2,p3,p4⟩:=hpc
      have cb:bb=false:=by rw[hbb,c8,p4];rfl
      obtain⟨e9,c9,hd⟩:=F9 _ _ cb (by omega) hd
      obtain⟨e10,c10,hd⟩:=F10 _ _ c9 (by omega) hd
      exact⟨fr_ext e1 e2 e3 e4 e5 e6 (show(n7:Int)=y.a0 by omega) p1 p2 p3 e9 (show(n10:Int)=y.a5 by omega),c10,drop_all s q10 g10 hd⟩
/-! ### Decode -/
def tup (x:Fr) (e:Int):Int×Int×Int×Int×Int×Int×Int×Int×Int×List S46×ByteArray×Int×Int:=(x.f,x.t,x.e,x.q,x.ae,x.ak,x.a0,x.a1,x.a2,x.l,x.s,x.a5,e)
def isw (s:ByteArray) (x:Fr):Prop:=ok x∧s=wire x
def why (s:ByteArray):Int:=if(openv s 1).2.2=0 then 130 else(openv s 1).2.2
theorem open_wire (x:Fr) (h:ok x):openv (wire x) 1=(ba (bodyL x),((wire x).size:Int),0):=by
  have hb:=body_len h
  have hz:=ba_size (bodyL x)
  have:=open_of (wire x) 1 (by decide) (ba (bodyL x)) (by omega) [] (by unfold wire;rw[ba_data,List.append_nil])
  rw[this]
  have e:(sealL 1 (ba (bodyL x))).length=(wire x).size:=by unfold wire;rw[ba_size]
  rw[e]
theorem decode_ev (s:ByteArray) (hs:s.size≤1000000):∃ d,Ev (fun k=> note_Decode.f k s) d∧((∃ x,isw s x∧d=tup x 0) ∨ ((¬ ∃ x,isw s x)∧why s≠0∧d=note_Decode.zero (why s))):=by
  unfold note_Decode.f
  have ho:=open_ev s hs 1 (by decide)
  rcases hr:openv s 1 with⟨b,tq,e⟩
  rw[hr]at ho
  by_cases he:e=0
  case neg=>
    have hw:why s=e:=by unfold why;rw[hr];exact if_neg he
    refine⟨note_Decode.zero e,Ev.bind ho (ev_neg he (Ev.some rfl)),.inr ⟨?_,by rw[hw];exact he,by rw[hw]⟩⟩
    rintro⟨x,hx,rfl⟩
    rw[open_wire x hx]at hr
    simp only[Prod.mk.injEq]at hr
    exact he hr.2.2.symm
  have hw:why s=130:=by unfold why;rw[hr];exact if_pos he
  obtain⟨hb,qq,rfl,hq1,hq2,hq3⟩:=open_back s 1 (by decide) b tq e hr he
  obtain⟨x,q,bad,E,hq,Bk,Fw⟩:=reader_ev b (by omega)
  have none_of:(¬ ∃ y,ok y∧(qq:Int)=(s.size:Int)∧b.data.toList=bodyL y)→¬ ∃ y,isw s y:=by
    rintro hno ⟨y,hy,rfl⟩
    rw[open_wire y hy]at hr
    simp only[Prod.mk.injEq]at hr
    exact hno ⟨y,hy,hr.2.1.symm,by rw[← hr.1,ba_data]⟩
  have bad_of (hno:¬ ∃ y,isw s y):(∃ y,isw s y∧note_Decode.zero 130=tup y 0) ∨ ((¬ ∃ y,isw s y)∧why s≠0∧note_Decode.zero 130=note_Decode.zero (why s)):=.inr ⟨hno,by rw[hw];decide,by rw[hw]⟩
  by_cases hbad:bad=true
  · refine⟨note_Decode.zero 130,Ev.bind ho (ev_pos he (Ev.bind E (ev_pos hbad (Ev.some rfl)))),bad_of (none_of ?_)⟩
    rintro⟨y,hy,_,h⟩
    have:=(Fw y hy h).2.1
    rw[hbad]at this
    cases this
  have hbad':bad=false:=Bool.eq_false_iff.2 hbad
  by_cases hat:(q:Int)=(b.size:Int)
  case neg=>
    refine⟨note_Decode.zero 130,Ev.bind ho (ev_pos he (Ev.bind E (ev_neg hbad (ev_neg hat (Ev.some rfl))))),bad_of (none_of ?_)⟩
    rintro⟨y,hy,_,h⟩
    have:=(Fw y hy h).2.2
    omega
  by_cases hto:(qq:Int)=(s.size:Int)
  case neg=>
    refine⟨note_Decode.zero 130,Ev.bind ho (ev_pos he (Ev.bind E (ev_neg hbad (ev_pos hat (ev_neg hto (Ev.some rfl)))))),bad_of (none_of ?_)⟩
    rintro⟨y,hy,h,_⟩
    exact hto h
  obtain⟨hxl,hxb⟩:=Bk hbad'
  have hf:=frame_ev x.f x.t x.e x.q x.ae x.ak x.a0 x.a1 x.a2 x.l x.s x.a5 (by omega)
  by_cases hok:ok x
  · refine⟨tup x 0,Ev.bind ho (ev_pos he (Ev.bind E (ev_neg hbad (ev_pos hat (ev_pos hto (Ev.bind hf (ev_pos (frv0.2 hok) (Ev.some rfl)))))))),.inl ⟨x,⟨hok,?_⟩,rfl⟩⟩
    have e1:q=b.data.toList.length:=by rw[← size_eq_length];omega
    rw[e1,List.drop_length,List.append_nil]at hxb
    have e2:ba (bodyL x)=b:=str_ext (by rw[ba_data,hxb])
    have e3:qq=s.data.toList.length:=by rw[← size_eq_length];omega
    rw[e3,List.drop_length,List.append_nil]at hq3
    apply str_ext
    unfold wire
    rw[e2,ba_data]
    exact hq3
  · refine⟨note_Decode.zero 130,Ev.bind ho (ev_pos he (Ev.bind E (ev_neg hbad (ev_pos hat (ev_pos hto (Ev.bind hf (ev_neg (fun h=> hok (frv0.1 h)) (Ev.some rfl)))))))),bad_of (none_of ?_)⟩
    rintro⟨y,hy,_,h⟩
    rw[(Fw y hy h).1]at hok
    exact hok hy
/-- Two frames with one wire are one. -/
theorem wire_inj {x y:Fr} (hx:ok x) (hy:ok y) (h:wire x=wire y):x=y:=by
  have h1:=open_wire x hx
  rw[h,open_wire y hy]at h1
  simp only[Prod.mk.injEq]at h1
  obtain⟨z,q,b,_,_,_,Fw⟩:=reader_ev (ba (bodyL x)) (by rw[ba_size];have:=body_len hx;omega)
  have a1:=(Fw x hx (ba_data _)).1
  have a2:=(Fw y hy (by rw[← h1.1,ba_data])).1
  rw[← a1,a2]
end Go.Proofs.YtlaeihdldofkcaaGreatDoor.NE

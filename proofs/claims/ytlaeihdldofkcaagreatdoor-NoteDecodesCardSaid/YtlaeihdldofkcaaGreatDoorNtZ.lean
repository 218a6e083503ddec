/- Sealed frames: what the program seals, and what it opens; a frame is opened as it was sealed, and only so. -/
import Derived.Test.YtlaeihdldofkcaaGreatDoorNtT
import Derived.Test.YtlaeihdldofkcaaGreatDoorPMx2
import Derived.Test.YtlaeihdldofkcaaGreatDoorPMx3
namespace Go.Proofs.YtlaeihdldofkcaaGreatDoor.NK
open Go.RowKit Go.Proofs.YtlaeihdldofkcaaGreatDoorW.PrintWords Go.Proofs.YtlaeihdldofkcaaGreatDoorW.PrintMore Go.Proofs.YtlaeihdldofkcaaGreatDoor.B Go.Proofs.YtlaeihdldofkcaaGreatDoor.PN Go.Proofs.YtlaeihdldofkcaaGreatDoor.IS
set_option linter.unusedSimpArgs false
set_option linter.unusedVariables false
def R64 (x:Int):Prop:=0≤x∧x< 18446744073709551616
theorem nib_rng (x:Int) (h:R64 x):R64 (seal_Sum.nib x):=by
  unfold seal_Sum.nib
  obtain⟨i,hi,e⟩:=seal_Sum.and15 x h
  rw[e,Int.toNat_natCast]
  have:=h.1;have:=h.2
  exact seal_Sum.xor_rng _ _ ⟨by omega,by omega⟩ (seal_Sum.tab_rng i hi)
theorem step_rng (x b:Int) (h:R64 x) (hb:0≤b∧b< 256):R64 (seal_Sum.stepB x b):=by
  unfold seal_Sum.stepB
  exact nib_rng _ (nib_rng _ (seal_Sum.xor_rng x b h ⟨hb.1,by omega⟩))
theorem crcS_rng:∀ (l:List UInt8) (x:Int),R64 x→R64 (seal_Sum.crcS x l)
  |[],x,h=> h
  |b :: l,x,h=> by
    show R64 (seal_Sum.crcS (seal_Sum.stepB x (b.toNat:Int)) l)
    have:=b.toNat_lt
    exact crcS_rng l _ (step_rng x _ h ⟨by omega,by omega⟩)
def sumL (l:List UInt8):Int:=Go.bits .xor .u64 18446744073709551615 (seal_Sum.crcS 18446744073709551615 l)
theorem sumL_rng (l:List UInt8):R64 (sumL l):=by
  unfold sumL
  exact seal_Sum.xor_rng _ _ ⟨by decide,by decide⟩ (crcS_rng l _ ⟨by decide,by decide⟩)
theorem sum_eq (s:ByteArray) (hs:s.size≤9223372036854775807):seal_Sum.f [s]=some (sumL s.data.toList):=by
  unfold seal_Sum.f
  rw[if_pos (by simpa using hs)]
  rfl
def eightL (x:Int):List UInt8:=(seal_eight.l x).map fun n=> UInt8.ofNat n.toNat
theorem eight_len (x:Int):(eightL x).length=8:=by simp[eightL,seal_eight.l]
theorem eight_eq (x:Int) (h:R64 x):seal_eight.f x=some (ba (eightL x)):=by
  unfold seal_eight.f
  have:=h.1;have:=h.2
  rw[if_pos ⟨by omega,by omega⟩]
  rfl
def headL (v:Nat) (b:ByteArray):List UInt8:=231 :: UInt8.ofNat v :: textL b
def sealL (v:Nat) (b:ByteArray):List UInt8:=headL v b++eightL (sumL (headL v b))
theorem textL_len (b:ByteArray) (h:b.size≤1000000):(textL b).length=(numL b.size).length+b.size∧(numL b.size).length≤10:=by
  unfold textL
  rw[List.length_append,← size_eq_length]
  exact⟨rfl,numL_le _ (by omega)⟩
def sealv (v:Nat) (b:ByteArray):ByteArray×Int:=if b.size> 30000 then(⟨#[]⟩,3)else(ba (sealL v b),0)
theorem seal_ev (v:Nat) (hv:v≤255) (b:ByteArray) (hb:b.size≤1000000):Ev (fun k=> seal_Seal.f k (v:Int) b) (sealv v b):=by
  unfold seal_Seal.f
  refine ev_neg (by omega) ?_
  rw[decide_eq_false (by omega)]
  refine Ev.step (fun k=> by rw[seal_Seal.j0]) (ev_neg (by decide) ?_)
  by_cases h:b.size> 30000
  · rw[show sealv v b=(⟨#[]⟩,3)from if_pos h]
    exact ev_pos (by omega) (Ev.some rfl)
  · rw[show sealv v b=(ba (sealL v b),0)from if_neg h]
    refine ev_neg (by omega) (ev_bind0 rfl (Ev.bind (text_ev b hb) ?_))
    obtain⟨hl,hl2⟩:=textL_len b hb
    have h2:strOfNums [231,(v:Int) % 256]=ba [231,UInt8.ofNat v]:=by
      apply str_ext
      rw[strOfNums_data,ba_data]
      have e:((v:Int) % 256).toNat=v:=by omega
      simp[e]
    rw[h2,ba_app]
    rw[ba_size,ba_size]
    refine ev_pos (by rw[hl];simp only[List.length_cons,List.length_nil];omega) ?_
    have h3:[231,UInt8.ofNat v]++textL b=headL v b:=rfl
    rw[h3]
    refine ev_bind0 (sum_eq _ (by rw[ba_size];unfold headL;simp only[List.length_cons];omega)) ?_
    rw[ba_data]
    refine ev_bind0 (eight_eq _ (sumL_rng _)) ?_
    rw[ba_size,eight_len,ba_app]
    exact ev_pos (by rw[hl];simp only[List.length_cons,List.length_nil];omega) (Ev.some rfl)
/-! ### opened -/
def opend (s:ByteArray) (n f:Int):ByteArray×Int×Int:=
  if n> 30000 then(⟨#[]⟩,0,3)else if n+8> (s.size:Int) - f then(⟨#[]⟩,0,10)
  else if eightL (sumL (s.data.toList.take (f+n).toNat))=(s.data.toList.drop (f+n).toNat).take 8 then(s.extract f.toNat (f+n).toNat,f+n+8,0)else(⟨#[]⟩,0,22)
def openv (s:ByteArray) (v:Nat):ByteArray×Int×Int:=
  if s.size=0 then(⟨#[]⟩,0,10)else if bt s 0≠231 then(⟨#[]⟩,0,20)else if s.size=1 then(⟨#[]⟩,0,10)else if bt s 1≠(v:Int)then(⟨#[]⟩,0,21)
  else if(tnv s 2).2.2≠0 then(⟨#[]⟩,0,(tnv s 2).2.2)else opend s (tnv s 2).1 (tnv s 2).2.1
theorem toL (a:ByteArray):a.toList=a.data.toList:=ByteArray.toList_eq a
theorem open_ev (s:ByteArray) (hs:s.size≤1000000) (v:Nat) (hv:v≤255):Ev (fun k=> seal_Open.f k s 0 (v:Int)) (openv s v):=by
  unfold seal_Open.f
  refine ev_neg (by omega) (ev_neg (by omega) (ev_neg (by omega) ?_))
  rw[decide_eq_false (by omega)]
  refine Ev.step (fun k=> by rw[seal_Open.j0]) (ev_neg (by decide) ?_)
  by_cases h0:s.size=0
  · rw[show openv s v=(⟨#[]⟩,0,10)from if_pos h0]
    exact ev_pos (by omega) (Ev.some rfl)
  refine ev_neg (by omega) (ev_pos (by omega) (ev_pos (by omega) ?_))
  by_cases h1:bt s 0=231
  case neg=>
    rw[show openv s v=(⟨#[]⟩,0,20)from(if_neg h0).trans (if_pos h1)]
    exact ev_neg h1 (Ev.some rfl)
  refine ev_pos h1 ?_
  rw[show wrap64 (0+1)=1 by unfold wrap64;omega]
  by_cases h2:s.size=1
  · rw[show openv s v=(⟨#[]⟩,0,10)from(if_neg h0).trans ((if_neg (by simpa using h1)).trans (if_pos h2))]
    exact ev_pos (by omega) (Ev.some rfl)
  have hb:=bt_range s 1
  rw[wrap64_of (x:=bt s 1) (by omega) (by omega)]
  refine ev_neg (by omega) (ev_pos (by omega) (ev_pos (by omega) ?_))
  by_cases h3:bt s 1=(v:Int)
  case neg=>
    rw[show openv s v=(⟨#[]⟩,0,21)from(if_neg h0).trans ((if_neg (by simpa using h1)).trans ((if_neg h2).trans (if_pos h3)))]
    exact ev_neg h3 (Ev.some rfl)
  refine ev_pos h3 ?_
  rw[show wrap64 (0+2)=((2:Nat):Int)by unfold wrap64;omega]
  refine Ev.bind (take_ev s hs 2 (by omega)) ?_
  rcases hr:tnv s 2 with⟨n,tq,e⟩
  by_cases he:e=0
  case neg=>
    rw[show openv s v=(⟨#[]⟩,0,e)from(if_neg h0).trans ((if_neg (by simpa using h1)).trans ((if_neg h2).trans ((if_neg (by simpa using h3)).trans (by rw[hr];exact if_pos he))))]
    exact ev_neg he (Ev.some rfl)
  have ho:openv s v=opend s n tq:=(if_neg h0).trans ((if_neg (by simpa using h1)).trans ((if_neg h2).trans ((if_neg (by simpa using h3)).trans (by rw[hr];exact if_neg (by simpa using he)))))
  rw[ho]
  obtain⟨m,t,rfl,rfl,g1,g2,g3,_⟩:=tnv_back s 2 n tq e hr he
  refine ev_pos he ?_
  show Ev (fun k=> if(m:Int)> 30000 then _ else _) _
  by_cases h4:(m:Int)> 30000
  · rw[show opend s (m:Int) (t:Int)=(⟨#[]⟩,0,3)from if_pos h4]
    exact ev_pos h4 (Ev.some rfl)
  refine ev_neg h4 ?_
  show Ev (fun k=> if wrap64 (wrap64 (m:Int)+8)> wrap64 ((s.size:Int) - (t:Int))then _ else _) _
  rw[wrap64_of (x:=(m:Int)) (by omega) (by omega),wrap64_of (x:=(m:Int)+8) (by omega) (by omega),wrap64_of (x:=(s.size:Int) - (t:Int)) (by omega) (by omega)]
  by_cases h5:(m:Int)+8> (s.size:Int) - (t:Int)
  · rw[show opend s (m:Int) (t:Int)=(⟨#[]⟩,0,10)from(if_neg h4).trans (if_pos h5)]
    exact ev_pos h5 (Ev.some rfl)
  refine ev_neg h5 ?_
  show Ev (fun k=> if 0≤wrap64 ((t:Int)+(m:Int))then(if wrap64 ((t:Int)+(m:Int))≤(s.size:Int)then _ else _)else _) _
  rw[wrap64_of (x:=(t:Int)+(m:Int)) (by omega) (by omega),wrap64_of (x:=(t:Int)+(m:Int)+8) (by omega) (by omega)]
  refine ev_pos (by omega) (ev_pos (by omega) ?_)
  have e2:((t:Int)+(m:Int)).toNat=t+m:=by omega
  have e3:((t:Int)+(m:Int)+8).toNat=t+m+8:=by omega
  have hx:(s.extract (0:Int).toNat ((t:Int)+(m:Int)).toNat).data.toList=s.data.toList.take ((t:Int)+(m:Int)).toNat:=by
    rw[data_extract];simp
  refine ev_bind0 (sum_eq _ (by rw[size_eq_length,hx,List.length_take,← size_eq_length];omega)) ?_
  rw[hx]
  refine ev_bind0 (eight_eq _ (sumL_rng _)) ?_
  refine ev_pos (by omega) (ev_pos (by omega) (ev_pos (by omega) ?_))
  have hy:(s.extract ((t:Int)+(m:Int)).toNat ((t:Int)+(m:Int)+8).toNat).toList=(s.data.toList.drop ((t:Int)+(m:Int)).toNat).take 8:=by
    rw[toL,data_extract,e2,e3,show t+m+8 - (t+m)=8 by omega]
  rw[hy,toL,ba_data]
  by_cases h6:eightL (sumL (s.data.toList.take ((t:Int)+(m:Int)).toNat))=(s.data.toList.drop ((t:Int)+(m:Int)).toNat).take 8
  · rw[show opend s (m:Int) (t:Int)=(s.extract ((t:Int)).toNat ((t:Int)+(m:Int)).toNat,(t:Int)+(m:Int)+8,0)from(if_neg h4).trans ((if_neg h5).trans (if_pos h6))]
    exact ev_pos h6 (ev_pos (show 0≤(t:Int)by omega) (ev_pos (show(t:Int)≤(t:Int)+(m:Int)by omega) (Ev.some rfl)))
  · rw[show opend s (m:Int) (t:Int)=(⟨#[]⟩,0,22)from(if_neg h4).trans ((if_neg h5).trans (if_neg h6))]
    exact ev_neg h6 (Ev.some rfl)
theorem bt_at0 (s:ByteArray) (i:Nat) (c:UInt8) (l:List UInt8) (h:s.data.toList.drop i=c :: l):bt s (i:Int)=(c.toNat:Int):=by
  have hl:i< s.data.toList.length:=by
    have:=congrArg List.length h
    rw[List.length_drop,List.length_cons]at this;omega
  rw[bt_get s i hl]
  rw[List.drop_eq_getElem_cons hl]at h
  rw[(List.cons.inj h).1]
theorem open_of (s:ByteArray) (v:Nat) (hv:v≤255) (b:ByteArray) (hb:b.size≤30000) (rest:List UInt8) (h:s.data.toList=sealL v b++rest):openv s v=(b,((sealL v b).length:Int),0):=by
  have hd:s.data.toList=231 :: UInt8.ofNat v :: (textL b++(eightL (sumL (headL v b))++rest)):=by
    rw[h];unfold sealL headL;simp
  have hd2:s.data.toList.drop 2=textL b++(eightL (sumL (headL v b))++rest):=by rw[hd];rfl
  have hlen:s.size=2+(textL b).length+8+rest.length:=by
    rw[size_eq_length,hd];simp only[List.length_cons,List.length_append,eight_len];omega
  obtain⟨ht,ht2⟩:=textL_len b (by omega)
  have e231:bt s 0=231:=by have:=bt_at0 s 0 231 _ (by rw[List.drop_zero];exact hd);exact this
  have ev1:bt s 1=(v:Int):=by
    have:=bt_at0 s 1 (UInt8.ofNat v) (textL b++(eightL (sumL (headL v b))++rest)) (by rw[hd];rfl)
    rw[toNat_of v (by omega)]at this
    exact this
  have hn:tnv s 2=((b.size:Int),((2+(numL b.size).length:Nat):Int),0):=by
    refine tnv_of s 2 b.size (b.data.toList++(eightL (sumL (headL v b))++rest)) (by omega) ?_
    rw[hd2];unfold textL;rw[List.append_assoc]
  unfold openv
  rw[if_neg (by omega),if_neg (by simpa using e231),if_neg (by omega),if_neg (by simpa using ev1),hn,if_neg (by simp)]
  show opend s (b.size:Int) ((2+(numL b.size).length:Nat):Int)=_
  unfold opend
  have e1:((2+(numL b.size).length:Nat):Int).toNat=2+(numL b.size).length:=by omega
  have e2:(((2+(numL b.size).length:Nat):Int)+(b.size:Int)).toNat=(headL v b).length:=by unfold headL;simp only[List.length_cons];omega
  have hs2:s.data.toList=headL v b++(eightL (sumL (headL v b))++rest):=by rw[h];unfold sealL;rw[List.append_assoc]
  rw[if_neg (by omega),if_neg (by omega),e2,hs2,List.take_left,List.drop_left,show(eightL (sumL (headL v b))++rest).take 8=eightL (sumL (headL v b))from by rw[← eight_len (sumL (headL v b)),List.take_left],if_pos rfl,e1]
  have e4:((2+(numL b.size).length:Nat):Int)+(b.size:Int)+8=((sealL v b).length:Int):=by
    unfold sealL headL
    simp only[List.length_append,List.length_cons,eight_len];omega
  rw[e4]
  congr 1
  apply str_ext
  rw[data_extract,hd]
  have e5:(headL v b).length=(numL b.size).length+b.size+2:=by unfold headL;simp only[List.length_cons];omega
  rw[e5,show 2+(numL b.size).length=(numL b.size).length+1+1 by omega,List.drop_succ_cons,List.drop_succ_cons]
  unfold textL
  rw[List.append_assoc,List.drop_left,show(numL b.size).length+b.size+2 - ((numL b.size).length+1+1)=b.data.toList.length by rw[← size_eq_length];omega,List.take_left]
theorem open_back (s:ByteArray) (v:Nat) (hv:v≤255) (b:ByteArray) (tq e:Int) (h:openv s v=(b,tq,e)) (he:e=0):b.size≤30000∧∃ q:Nat,tq=(q:Int)∧q≤s.size∧q=(sealL v b).length∧s.data.toList=sealL v b++s.data.toList.drop q:=by
  subst he
  unfold openv at h
  by_cases h0:s.size=0
  · rw[if_pos h0]at h;simp at h
  rw[if_neg h0]at h
  by_cases h1:bt s 0=231
  case neg=> rw[if_pos h1]at h;simp at h
  rw[if_neg (by simpa using h1)]at h
  by_cases h2:s.size=1
  · rw[if_pos h2]at h;simp at h
  rw[if_neg h2]at h
  by_cases h3:bt s 1=(v:Int)
  case neg=> rw[if_pos h3]at h;simp at h
  rw[if_neg (by simpa using h3)]at h
  rcases hr:tnv s 2 with⟨n,f,g⟩
  rw[hr]at h
  by_cases hg:g=0
  case neg=>
    rw[if_pos hg]at h
    simp only[Prod.mk.injEq]at h
    exact absurd h.2.2 hg
  rw[if_neg (by simpa using hg)]at h
  obtain⟨m,t,rfl,rfl,g1,g2,g3,g4⟩:=tnv_back s 2 n f g hr hg
  replace h:opend s (m:Int) (t:Int)=(b,tq,0):=h
  unfold opend at h
  by_cases h4:(m:Int)> 30000
  · rw[if_pos h4]at h;simp at h
  rw[if_neg h4]at h
  by_cases h5:(m:Int)+8> (s.size:Int) - (t:Int)
  · rw[if_pos h5]at h;simp at h
  rw[if_neg h5]at h
  have e1:((t:Int)).toNat=t:=by omega
  have e2:((t:Int)+(m:Int)).toNat=t+m:=by omega
  rw[e1,e2]at h
  by_cases h6:eightL (sumL (s.data.toList.take (t+m)))=(s.data.toList.drop (t+m)).take 8
  case neg=> rw[if_neg h6]at h;simp at h
  rw[if_pos h6]at h
  simp only[Prod.mk.injEq,and_true]at h
  obtain⟨rfl,rfl⟩:=h
  have hbd:(s.extract t (t+m)).data.toList=(s.data.toList.drop t).take m:=by rw[data_extract,Nat.add_sub_cancel_left]
  have hbs:(s.extract t (t+m)).size=m:=by rw[size_eq_length,hbd,List.length_take,List.length_drop,← size_eq_length];omega
  have hsl:2≤s.data.toList.length:=by rw[← size_eq_length];omega
  have c0:s.data.toList=231 :: UInt8.ofNat v :: s.data.toList.drop 2:=by
    have a0:s.data.toList=s.data.toList.drop 0:=rfl
    have p0:=List.drop_eq_getElem_cons (l:=s.data.toList) (i:=0) (by omega)
    have p1:=List.drop_eq_getElem_cons (l:=s.data.toList) (i:=1) (by omega)
    have q0:bt s ((0:Nat):Int)=(s.data.toList[0].toNat:Int):=bt_get s 0 (by omega)
    have q1:bt s ((1:Nat):Int)=(s.data.toList[1].toNat:Int):=bt_get s 1 (by omega)
    have r0:s.data.toList[0]=231:=by
      apply UInt8.toNat_inj.1
      have:(s.data.toList[0].toNat:Int)=231:=by rw[← q0];exact h1
      show s.data.toList[0].toNat=231
      omega
    have r1:s.data.toList[1]=UInt8.ofNat v:=by
      apply UInt8.toNat_inj.1
      have:(s.data.toList[1].toNat:Int)=(v:Int):=by rw[← q1];exact h3
      rw[toNat_of v (by omega)]
      omega
    rw[r0]at p0
    rw[r1]at p1
    conv=> lhs;rw[a0,p0]
    exact congrArg _ p1
  have hh:s.data.toList.take (t+m)=headL v (s.extract t (t+m)):=by
    unfold headL textL
    rw[hbs,hbd,c0,g3]
    have hlen:(numL m).length=t - 2:=by omega
    rw[show t+m=(t+m - 2)+1+1 by omega,List.take_succ_cons,List.take_succ_cons]
    congr 2
    rw[show t+m - 2=(numL m).length+m by omega,List.take_length_add_append,← g3,← c0]
  rw[hh]at h6
  have hq:(sealL v (s.extract t (t+m))).length=t+m+8:=by
    unfold sealL
    rw[List.length_append,eight_len,← hh,List.length_take,← size_eq_length];omega
  refine⟨by rw[hbs];omega,t+m+8,by omega,by omega,hq.symm,?_⟩
  unfold sealL
  rw[h6,← hh,List.append_assoc,show s.data.toList.drop (t+m+8)=(s.data.toList.drop (t+m)).drop 8 by rw[List.drop_drop],List.take_append_drop,List.take_append_drop]
end Go.Proofs.YtlaeihdldofkcaaGreatDoor.NK

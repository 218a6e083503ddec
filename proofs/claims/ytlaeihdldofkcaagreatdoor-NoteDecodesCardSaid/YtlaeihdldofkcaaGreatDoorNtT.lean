/- What was laid is taken as it was; what is taken was laid so: numbers and texts. -/
import Derived.Test.YtlaeihdldofkcaaGreatDoorNtK
namespace Go.Proofs.YtlaeihdldofkcaaGreatDoor.NK
open Go.RowKit Go.Proofs.YtlaeihdldofkcaaGreatDoorW.PrintWords Go.Proofs.YtlaeihdldofkcaaGreatDoorW.PrintMore Go.Proofs.YtlaeihdldofkcaaGreatDoor.B Go.Proofs.YtlaeihdldofkcaaGreatDoor.PN Go.Proofs.YtlaeihdldofkcaaGreatDoor.IS
set_option linter.unusedSimpArgs false
set_option linter.unusedVariables false
theorem pw7 (i:Nat):2 ^ (7 * (i+1))=128 * 2 ^ (7 * i):=by rw[Nat.mul_add,Nat.pow_add,Nat.mul_comm]
theorem pw_split (i:Nat) (h:i≤8):2 ^ (64 - 7 * i)=128 * 2 ^ (64 - 7 * (i+1)):=by
  rw[show 64 - 7 * i=7+(64 - 7 * (i+1))by omega,Nat.pow_add]
theorem toNat_of (m:Nat) (h:m< 256):(UInt8.ofNat m).toNat=m:=by simp;omega
theorem tn_num:∀ (d n:Nat),n≤d→∀ (i acc:Nat) (rest:List UInt8),i≤9→n< 2 ^ (64 - 7 * i)→(0< i→1≤n)→tn i acc (numL n++rest)=(acc+n * 2 ^ (7 * i),i+(numL n).length,0)
  |d,n,hd,i,acc,rest,hi,hn,h0=> by
    by_cases h:n< 128
    · rw[numL_lo h,List.cons_append,List.nil_append,tn,if_pos (show i< 10 by omega),toNat_of n (by omega),if_neg,if_neg (show ¬ 128≤n by omega),if_neg (show ¬ (n=0∧0< i)by omega),Nat.mod_eq_of_lt h]
      · rfl
      · rintro⟨rfl,h1⟩
        have e:(2:Nat) ^ (64 - 7 * 9)=2:=by decide
        omega
    · have hi8:i≤8:=by
        by_cases h9:i=9
        · subst h9
          have e:(2:Nat) ^ (64 - 7 * 9)=2:=by decide
          omega
        · omega
      have hc:(UInt8.ofNat (n % 128+128)).toNat=n % 128+128:=toNat_of _ (by omega)
      rw[numL_hi h,List.cons_append,tn,if_pos (show i< 10 by omega),hc,if_neg (show ¬ (i=9∧1< n % 128+128)by omega),if_pos (show 128≤n % 128+128 by omega)]
      match d,hd with
      |0,hd=> omega
      |d+1,hd=>
      rw[tn_num d (n / 128) (by omega) (i+1) _ rest (by omega) (by rw[pw_split i hi8]at hn;omega) (fun _=> by omega),List.length_cons,pw7]
      have e1:(n % 128+128) % 128=n % 128:=by omega
      rw[e1]
      have e2:acc+n % 128 * 2 ^ (7 * i)+n / 128 * (128 * 2 ^ (7 * i))=acc+n * 2 ^ (7 * i):=by
        rw[← Nat.mul_assoc,Nat.add_assoc,← Nat.add_mul]
        congr 2
        omega
      rw[e2]
      congr 2
      omega
theorem tn_back:∀ (l:List UInt8) (i acc n c:Nat),tn i acc l=(n,c,0)→∃ m,n=acc+m * 2 ^ (7 * i)∧i< c∧c - i≤l.length∧numL m=l.take (c - i)∧(0< i→1≤m)
  |[],i,acc,n,c,h=> by
    rw[tn]at h
    split at h<;> simp at h
  |x :: l,i,acc,n,c,h=> by
    rw[tn]at h
    by_cases h1:i< 10
    case neg=> rw[if_neg h1]at h;simp at h
    rw[if_pos h1]at h
    by_cases h2:i=9∧1< x.toNat
    · rw[if_pos h2]at h;simp at h
    rw[if_neg h2]at h
    by_cases h3:128≤x.toNat
    · rw[if_pos h3]at h
      obtain⟨m,hn,hc,hl,hm,h0⟩:=tn_back l (i+1) _ n c h
      have hm1:1≤m:=h0 (by omega)
      have hx:=x.toNat_lt
      refine⟨x.toNat % 128+128 * m,?_,by omega,by rw[List.length_cons];omega,?_,fun _=> by omega⟩
      · rw[hn,pw7,Nat.add_mul,← Nat.mul_assoc,Nat.add_assoc,Nat.mul_comm 128 m]
      · have hd:(x.toNat % 128+128 * m) / 128=m:=by omega
        have hr:(x.toNat % 128+128 * m) % 128+128=x.toNat:=by omega
        rw[numL_hi (by omega),hd,hr,hm,show c - i=(c - (i+1))+1 by omega,List.take_succ_cons]
        congr 1
        simp
    · rw[if_neg h3]at h
      by_cases h4:x.toNat=0∧0< i
      · rw[if_pos h4]at h;simp at h
      rw[if_neg h4]at h
      simp only[Prod.mk.injEq,and_true]at h
      obtain⟨rfl,rfl⟩:=h
      refine⟨x.toNat,by rw[Nat.mod_eq_of_lt (by omega)],by omega,by rw[List.length_cons];omega,?_,fun hi=> by omega⟩
      rw[numL_lo (by omega),show i+1 - i=0+1 by omega,List.take_succ_cons,List.take_zero]
      congr 1
      simp
theorem tnv_of (s:ByteArray) (at_ n:Nat) (rest:List UInt8) (hn:n< 18446744073709551616) (h:s.data.toList.drop at_=numL n++rest):tnv s at_=((n:Int),((at_+(numL n).length:Nat):Int),0):=by
  unfold tnv
  rw[h,tn_num n n (Nat.le_refl _) 0 0 rest (by omega) (by simpa using hn) (fun h=> by omega)]
  simp[tres]
theorem tnv_back (s:ByteArray) (at_:Nat) (n tq e:Int) (h:tnv s at_=(n,tq,e)) (he:e=0):∃ m t:Nat,n=(m:Int)∧tq=(t:Int)∧at_< t∧t≤s.size∧s.data.toList.drop at_=numL m++s.data.toList.drop t∧t=at_+(numL m).length:=by
  unfold tnv tres at h
  rcases hr:tn 0 0 (s.data.toList.drop at_)with⟨a,c,f⟩
  rw[hr]at h
  by_cases hf:f=0
  · subst hf
    rw[if_pos rfl]at h
    simp only[Prod.mk.injEq]at h
    obtain⟨rfl,rfl,_⟩:=h
    obtain⟨m,hn,hc,hl,hm,_⟩:=tn_back _ 0 0 a c hr
    rw[List.length_drop,← size_eq_length]at hl
    have ha:a=m:=by rw[hn];simp
    subst ha
    have hlen:(numL a).length=c:=by rw[hm,List.length_take,List.length_drop,← size_eq_length];omega
    refine⟨a,at_+c,rfl,rfl,by omega,by omega,?_,by rw[hlen]⟩
    rw[hm,Nat.sub_zero,← List.drop_drop,List.take_append_drop]
  · rw[if_neg hf]at h
    simp only[Prod.mk.injEq]at h
    exact absurd (h.2.2.trans he) hf
theorem tnv_bad (s:ByteArray) (at_:Nat) (n tq e:Int) (h:tnv s at_=(n,tq,e)) (he:e≠0):n=0∧tq=0∧(e=10 ∨ e=11):=by
  have key:∀ (l:List UInt8) (i acc:Nat),(tn i acc l).2.2=0 ∨ (tn i acc l).2.2=10 ∨ (tn i acc l).2.2=11:=by
    intro l
    induction l with
    |nil=> intro i acc;rw[tn];split<;> simp
    |cons x l ih=>
      intro i acc
      rw[tn]
      split
      · split
        · simp
        · split
          · exact ih _ _
          · split<;> simp
      · simp
  unfold tnv tres at h
  by_cases hf:(tn 0 0 (s.data.toList.drop at_)).2.2=0
  · rw[if_pos hf]at h
    simp only[Prod.mk.injEq]at h
    exact absurd h.2.2.symm he
  · rw[if_neg hf]at h
    simp only[Prod.mk.injEq]at h
    have:=key (s.data.toList.drop at_) 0 0
    exact⟨h.1.symm,h.2.1.symm,by omega⟩
/-! ### texts -/
def txv (s:ByteArray) (at_:Nat):ByteArray×Int×Int:=
  if(tnv s at_).2.2=0 then(if(tnv s at_).1> (s.size:Int) - (tnv s at_).2.1 then(⟨#[]⟩,0,10)else(s.extract (tnv s at_).2.1.toNat ((tnv s at_).2.1+(tnv s at_).1).toNat,(tnv s at_).2.1+(tnv s at_).1,0))else(⟨#[]⟩,0,(tnv s at_).2.2)
theorem ttext_ev (s:ByteArray) (hs:s.size≤1000000) (at_:Nat) (hat:at_≤s.size):Ev (fun k=> pack_TakeText.f k s (at_:Int)) (txv s at_):=by
  unfold pack_TakeText.f
  refine Ev.bind (take_ev s hs at_ hat) ?_
  rcases hr:tnv s at_ with⟨n,tq,e⟩
  by_cases he:e=0
  case neg=>
    have ht:txv s at_=(⟨#[]⟩,0,e):=by unfold txv;rw[hr];exact if_neg he
    rw[ht]
    exact ev_neg he (Ev.some rfl)
  obtain⟨m,t,rfl,rfl,h1,h2,h3,_⟩:=tnv_back s at_ n tq e hr he
  refine ev_pos he ?_
  show Ev (fun n=> if(m:Int)> (IntKind.u64.wrap (wrap64 ((s.size:Int) - (t:Int))))then _ else _) _
  rw[wrap64_of (x:=(s.size:Int) - (t:Int)) (by omega) (by omega),u64_in (x:=(s.size:Int) - (t:Int)) (by omega) (by omega)]
  by_cases hm:(m:Int)> (s.size:Int) - (t:Int)
  · have ht:txv s at_=(⟨#[]⟩,0,10):=by unfold txv;rw[hr];exact(if_pos he).trans (if_pos hm)
    rw[ht]
    exact ev_pos hm (Ev.some rfl)
  · have ht:txv s at_=(s.extract ((t:Int)).toNat ((t:Int)+(m:Int)).toNat,(t:Int)+(m:Int),0):=by unfold txv;rw[hr];exact(if_pos he).trans (if_neg hm)
    rw[ht]
    have hw:wrap64 (m:Int)=(m:Int):=wrap64_of (by omega) (by omega)
    refine ev_neg hm ?_
    rw[hw]
    show Ev (fun n=> if 0≤(t:Int)then(if(t:Int)≤wrap64 ((t:Int)+(m:Int))then _ else _)else _) _
    rw[wrap64_of (x:=(t:Int)+(m:Int)) (by omega) (by omega)]
    exact ev_pos (by omega) (ev_pos (by omega) (ev_pos (by omega) (Ev.some rfl)))
theorem extract_ba (s:ByteArray) (i j:Nat):(s.extract i j).data.toList=(s.data.toList.drop i).take (j - i):=data_extract s i j
theorem txv_of (s:ByteArray) (at_:Nat) (t:ByteArray) (rest:List UInt8) (ht:t.size≤1000000) (h:s.data.toList.drop at_=textL t++rest) (hat:at_≤s.size):txv s at_=(t,((at_+(textL t).length:Nat):Int),0):=by
  unfold textL at h
  rw[List.append_assoc]at h
  have hn:=tnv_of s at_ t.size _ (by omega) h
  unfold txv
  rw[hn]
  have hl:=congrArg List.length h
  rw[List.length_drop,← size_eq_length,List.length_append,List.length_append,← size_eq_length]at hl
  rw[if_pos rfl,if_neg (by show ¬ (t.size:Int)> (s.size:Int) - ((at_+(numL t.size).length:Nat):Int);omega)]
  have e1:(((at_+(numL t.size).length:Nat):Int)).toNat=at_+(numL t.size).length:=by omega
  have e2:(((at_+(numL t.size).length:Nat):Int)+(t.size:Int)).toNat=at_+(numL t.size).length+t.size:=by omega
  have e3:(((at_+(numL t.size).length:Nat):Int)+(t.size:Int))=((at_+(textL t).length:Nat):Int):=by
    unfold textL
    rw[List.length_append,← size_eq_length];omega
  show(s.extract (((at_+(numL t.size).length:Nat):Int)).toNat (((at_+(numL t.size).length:Nat):Int)+(t.size:Int)).toNat,(((at_+(numL t.size).length:Nat):Int)+(t.size:Int)),(0:Int))=_
  rw[e1,e2,e3]
  congr 1
  apply str_ext
  rw[extract_ba,← List.drop_drop,h,List.drop_left,Nat.add_sub_cancel_left,size_eq_length,List.take_left]
theorem txv_back (s:ByteArray) (at_:Nat) (t:ByteArray) (tq e:Int) (h:txv s at_=(t,tq,e)) (he:e=0):∃ q:Nat,tq=(q:Int)∧at_< q∧q≤s.size∧s.data.toList.drop at_=textL t++s.data.toList.drop q∧q=at_+(textL t).length:=by
  unfold txv at h
  rcases hr:tnv s at_ with⟨n,f,g⟩
  rw[hr]at h
  by_cases hg:g=0
  case neg=>
    rw[if_neg hg]at h
    simp only[Prod.mk.injEq]at h
    exact absurd (h.2.2.trans he) hg
  obtain⟨m,p,rfl,rfl,h1,h2,h3,h4⟩:=tnv_back s at_ n f g hr hg
  rw[if_pos hg]at h
  by_cases hm:(m:Int)> (s.size:Int) - (p:Int)
  · rw[if_pos hm]at h
    simp only[Prod.mk.injEq]at h
    have:=h.2.2.trans he
    exact absurd this (by decide)
  rw[if_neg hm]at h
  simp only[Prod.mk.injEq]at h
  obtain⟨rfl,rfl,_⟩:=h
  have e1:((p:Int)).toNat=p:=by omega
  have e2:((p:Int)+(m:Int)).toNat=p+m:=by omega
  have hd:(s.extract ((p:Int)).toNat ((p:Int)+(m:Int)).toNat).data.toList=(s.data.toList.drop p).take m:=by
    rw[e1,e2,extract_ba,Nat.add_sub_cancel_left]
  have hz:(s.extract ((p:Int)).toNat ((p:Int)+(m:Int)).toNat).size=m:=by
    rw[size_eq_length,hd,List.length_take,List.length_drop,← size_eq_length];omega
  refine⟨p+m,by omega,by omega,by omega,?_,?_⟩
  · unfold textL
    rw[hz,hd,h3,List.append_assoc,← List.drop_drop,List.take_append_drop]
  · unfold textL
    rw[hz,List.length_append,← size_eq_length,hz];omega
theorem txv_bad (s:ByteArray) (at_:Nat) (t:ByteArray) (tq e:Int) (h:txv s at_=(t,tq,e)) (he:e≠0):t=⟨#[]⟩∧tq=0∧(e=10 ∨ e=11):=by
  unfold txv at h
  rcases hr:tnv s at_ with⟨n,f,g⟩
  rw[hr]at h
  by_cases hg:g=0
  · rw[if_pos hg]at h
    split at h
    · simp only[Prod.mk.injEq]at h
      exact⟨h.1.symm,h.2.1.symm,.inl h.2.2.symm⟩
    · simp only[Prod.mk.injEq]at h
      exact absurd h.2.2.symm he
  · have:=tnv_bad s at_ n f g hr hg
    rw[if_neg hg]at h
    simp only[Prod.mk.injEq]at h
    exact⟨h.1.symm,h.2.1.symm,by omega⟩
end Go.Proofs.YtlaeihdldofkcaaGreatDoor.NK
